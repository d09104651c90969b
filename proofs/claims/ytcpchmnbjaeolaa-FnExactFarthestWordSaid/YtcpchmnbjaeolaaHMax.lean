/- The greatest number of a list: what the library's Max returns. -/
import Derived.Test.YtcpchmnbjaeolaaHArr
set_option linter.unusedVariables false
set_option linter.unusedSimpArgs false
namespace Go.Proofs.Ytcpchmnbjaeolaa.P
open Go.RowKit Go.Proofs.YtcpchmnbjaeolaaW.PrintWords Go.Proofs.YtcpchmnbjaeolaaW.PrintLast Go.Proofs.YtcpchmnbjaeolaaW.PrintMore CC

def gr (a x : Int) : Int := if a < x then x else a
/-- The greatest of the first n numbers. -/
def maxQ (L : List Int) (n : Nat) : Int := (L.take n).foldl gr (rd L 0)
theorem take_rdM {d : List Int} {n : Nat} (hn : n < d.length) : d.take (n + 1) = d.take n ++ [rd d (n : Int)] := by
  rw [List.take_add_one]
  simp [rd, List.getD_eq_getElem?_getD, hn]
theorem maxQ_succ (L : List Int) {n : Nat} (h : n < L.length) : maxQ L (n + 1) = gr (maxQ L n) (rd L (n : Int)) := by
  unfold maxQ
  rw [take_rdM h, List.foldl_append]
  rfl
theorem maxQ_one (L : List Int) (h : 0 < L.length) : maxQ L 1 = rd L 0 := by
  rw [maxQ_succ L h]
  simp [maxQ, gr]

set_option maxHeartbeats 4000000 in
set_option maxRecDepth 100000 in
theorem max_calls (A : Option Addr) (c : Nat) (L : List Int) (w : World) (hr : Kd.C (Kd.int .i64) w A L.length L) (hc : L.length ≤ c) (hp : 0 < L.length) (hl : L.length ≤ 1048576) :
    Calls Try.prog 72 #[.slice A L.length c] w
      fun e w' => e = .returned (.int .i64 (maxQ L L.length)) ∧ Below w.heap.size w w' := by
  have HR := Aside0.mk hr
  have H1 := Aside0.mk (maxQ_one L hp)
  obtain ⟨ad, e1, hx0⟩ := Kd.at_int hr (0 : Int) (by omega) (by omega)
  subst e1
  have hx : w.cell? ad = some (.int .i64 (rd L 0)) := by
    have e : ad.add (Int.toNat 0) = ad := by first | rfl | simp [Addr.add] | (cases ad; simp [Addr.add])
    rw [e] at hx0
    exact hx0
  clear hr hx0
  go_enter Try.func72, Try.ntmps72
  go_wp2_with fail
  go_loop [3, 4] (fun t i => ∃ (n : Nat) (z : Int), 1 ≤ n ∧ n ≤ L.length ∧ i = .int .i64 n ∧ t = .int .i64 z ∧ Aside0 (z = maxQ L n)) (fun _ i => L.length - (intOf i).toNat)
  case atStart => exact ⟨1, _, by omega, by omega, rfl, rfl, ⟨H1.out.symm⟩⟩
  case round =>
    obtain ⟨n, z, hn1, hn, rfl, rfl, HZ⟩ := hrel
    by_cases hlt : n < L.length
    · have hy := rd_cell HR.out (Below.refl _ _) n hlt
      have HQ : Aside0 (gr z (rd L (n : Int)) = maxQ L (n + 1)) := ⟨by rw [maxQ_succ L hlt, HZ.out]⟩
      go_wp2_with fail
      go_round
      case rel => exact ⟨n + 1, _, by omega, by omega, by go_num, rfl, HQ⟩
      case measure => simp [intOf]; omega
    · go_wp2
      go_ret
      have hn2 : n = L.length := by omega
      subst hn2
      exact ⟨by rw [HZ.out]; rfl, Below.refl _ _⟩

def slices_Max_int64_int64.f (l0 : List Int) : Option Int := if 0 < l0.length ∧ l0.length ≤ 1048576 then some (maxQ l0 l0.length) else none

theorem slices_Max_int64_int64.calls (A0 : Option Addr) (c0 : Nat) (l0 : List Int) (r : Int) (w : World) (hr0 : Kd.C (Kd.int .i64) w A0 l0.length l0) (hc0 : l0.length ≤ c0) (h : slices_Max_int64_int64.f l0 = some r) :
    Calls Try.prog 72 #[.slice A0 l0.length c0] w fun e w' => e = .returned (.int .i64 r) ∧ Below w.heap.size w w' := by
  unfold slices_Max_int64_int64.f at h
  split at h
  · rename_i hc
    obtain rfl := Option.some.inj h
    exact max_calls A0 c0 l0 w hr0 hc0 hc.1 hc.2
  · cases h
end Go.Proofs.Ytcpchmnbjaeolaa.P
