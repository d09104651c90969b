/- Sums of digits: what the function that the program's AddSumPlace hands on returns. -/
import Derived.Test.YtbhgnphdhkmliaaHDig
import Derived.Test.YtbhgnphdhkmliaaHThose0
import Derived.Test.YtbhgnphdhkmliaaQBase
import Derived.BigQuiet
import Derived.IntWalk
set_option linter.unusedVariables false
set_option linter.unusedSimpArgs false
namespace Go.Proofs.Ytbhgnphdhkmliaa.P
open Go.RowKit Go.Proofs.YtbhgnphdhkmliaaW.PrintWords Go.Proofs.YtbhgnphdhkmliaaW.PrintLast Go.Proofs.YtbhgnphdhkmliaaW.PrintMore CC

theorem idx_rd {e : List Int} (he : e.length = 8) {n : Nat} (hn : n < 8) (w : World) : (Instr.index 60 (arr8 e) (.int .i64 (n : Int))).run Try.prog w = .ok (.int .u8 (rd e (n : Int))) w := by
  obtain ⟨y0, y1, y2, y3, y4, y5, y6, y7, rfl⟩ := eight he
  obtain ⟨i0, i1, i2, i3, i4, i5, i6, i7⟩ := idx8 (.int .u8 y0) (.int .u8 y1) (.int .u8 y2) (.int .u8 y3) (.int .u8 y4) (.int .u8 y5) (.int .u8 y6) (.int .u8 y7) w
  rcases (show n = 0 ∨ n = 1 ∨ n = 2 ∨ n = 3 ∨ n = 4 ∨ n = 5 ∨ n = 6 ∨ n = 7 by omega) with rfl | rfl | rfl | rfl | rfl | rfl | rfl | rfl
  · exact i0
  · exact i1
  · exact i2
  · exact i3
  · exact i4
  · exact i5
  · exact i6
  · exact i7
theorem dloop_small {s : List Int} (hs : s.all sizeOk = true) : ∀ (n : Nat) (x : Int) (ar : List Int), n ≤ s.length → (∀ y ∈ ar, 0 ≤ y ∧ y ≤ 3) → ∀ y ∈ dloop s n x ar, 0 ≤ y ∧ y ≤ 3
  | 0, _, _, _, h => h
  | n + 1, x, ar, hn, h => by
    refine dloop_small hs n _ _ (by omega) (fun y hy => ?_)
    rcases List.mem_or_eq_of_mem_set hy with e | e
    · exact h y e
    · subst e
      have hq : sizeOk (rd s (n : Int)) = true := by
        have : rd s (n : Int) = s[n]'(by omega) := by simp [rd, List.getD_eq_getElem?_getD, show n < s.length by omega]
        rw [this]
        exact List.all_eq_true.1 hs _ (List.getElem_mem _)
      rcases (sizeOk_iff _).1 hq with e | e | e <;> rw [e] <;> omega
theorem dig8_small {s : List Int} (hs : isSp s = true) (x : Int) : ∀ j : Nat, j < 8 → 0 ≤ rd (dig8 s x) (j : Int) ∧ rd (dig8 s x) (j : Int) ≤ 3 := by
  intro j hj
  have hm : rd (dig8 s x) (j : Int) ∈ dig8 s x := by
    have hl := dig8_length s x
    have : rd (dig8 s x) (j : Int) = (dig8 s x)[j]'(by omega) := by simp [rd, List.getD_eq_getElem?_getD, hl, hj]
    rw [this]
    exact List.getElem_mem _
  exact dloop_small (isSp_all hs) _ _ _ (Nat.le_refl _) (fun y hy => by rw [List.eq_of_mem_replicate hy]; omega) _ hm

/-- The word with the sum of its digits at one more place. -/
def addW (s : List Int) (q x : Int) : Int := x * q + (dig8 s x).sum % q

set_option maxHeartbeats 3000000 in
set_option maxRecDepth 100000 in
theorem add1_calls (gs gq : Nat) (A : Option Addr) (c : Nat) (s : List Int) (q x : Int) (w : World) (hr : Kd.C (Kd.int .i64) w A s.length s) (hc : s.length ≤ c) (hs : isSp s = true) (h0 : 0 ≤ x) (h1 : x ≤ 1024) (hq0 : 2 ≤ q) (hq1 : q ≤ 4)
    (ks : w.cell? ⟨gs, 0, none⟩ = some (.slice A s.length c)) (kq : w.cell? ⟨gq, 0, none⟩ = some (.int .i64 q)) :
    Calls Try.prog 46 #[.int .i64 x, .pointer (some ⟨gs, 0, none⟩), .pointer (some ⟨gq, 0, none⟩)] w
      fun e w' => e = .returned (.int .i64 (addW s q x)) ∧ Below w.heap.size w w' := by
  have huS := Try.underlying26
  have huD := Try.underlying60
  have HR := Aside0.mk hr
  have HS := Aside0.mk hs
  have SM := Aside0.mk (dig8_small hs x)
  have E8 := Aside0.mk (dig8_length s x)
  have HX : Aside0 (addW s q x = x * q + (dig8 s x).sum % q) := ⟨rfl⟩
  clear hr hs
  go_enter Try.func46, Try.ntmps46
  go_wp2_with fail
  refine (digitsOf_calls A c s x _ HR.out hc HS.out h0 h1).mono ?_
  rintro e w3 ⟨rfl, hb⟩
  have B3 := Aside0.mk hb
  have kq3 := pw_cell_below hb kq
  clear ks kq hb
  have hd8 : dloop s s.length x (List.replicate 8 0) = dig8 s x := rfl
  rw [hd8]
  clear hd8
  generalize dig8 s x = e8 at *
  go_wp2_with fail
  go_loop [5, 11] (fun t i => ∃ n : Nat, n ≤ 8 ∧ i = .int .i64 n ∧ ∃ y : Int, 0 ≤ y ∧ y ≤ 24 ∧ t = .int .i64 y ∧ Aside0 (y = (e8.take n).sum) ∧ Aside0 (y ≤ 3 * n)) (fun _ i => 8 - (intOf i).toNat)
  case atStart => exact ⟨0, by omega, rfl, 0, by omega, by omega, rfl, ⟨rfl⟩, ⟨by omega⟩⟩
  case round =>
    obtain ⟨n, hn, rfl, y, y0, y1, rfl, HY, HY3⟩ := hrel
    by_cases hlt : n < 8
    · have hi := idx_rd E8.out hlt w3
      obtain ⟨z0, z1⟩ := SM.out n hlt
      have HT : Aside0 (y + rd e8 (n : Int) = (e8.take (n + 1)).sum) := ⟨by rw [take_rd8 (by rw [E8.out]; exact hlt), List.sum_append, ← HY.out]; simp⟩
      have y2 := HY3.out
      have HZ3 : Aside0 (y + rd e8 (n : Int) ≤ 3 * ((n + 1 : Nat) : Int)) := ⟨by omega⟩
      have hb1 : y + rd e8 (n : Int) ≤ 24 := by omega
      clear HY HY3 y2
      generalize rd e8 (n : Int) = z at *
      go_wp2
      go_round
      case rel => exact ⟨n + 1, by omega, by go_num, y + z, by omega, by omega, by first | rfl | go_num, HT, HZ3⟩
      case measure => simp [intOf]; omega
    · obtain rfl : n = 8 := by omega
      have hye : Aside0 (y = e8.sum) := ⟨by rw [HY.out, List.take_of_length_le (by rw [E8.out]; exact Nat.le_refl _)]⟩
      have hxq0 : 0 ≤ x * q := Int.mul_nonneg h0 (by omega)
      have hxq1 : x * q ≤ 4096 := by
        have := Int.mul_le_mul h1 hq1 (by omega) (by omega)
        omega
      have hq : q ≠ 0 := by omega
      have et : Int.tmod y q = y % q := Int.tmod_eq_emod_of_nonneg y0
      have hr0 : 0 ≤ y % q := Int.emod_nonneg _ hq
      have hr1 : y % q < q := Int.emod_lt_of_pos _ (by omega)
      have hr2 : y % q ≤ 3 := by omega
      have hr3 : 0 ≤ Int.tmod y q := by omega
      have hr4 : Int.tmod y q ≤ 3 := by omega
      have e1 : IntKind.i64.wrap (x * q) = x * q := IntWalk.i64_in _ (by omega)
      have e2 : IntKind.i64.wrap (Int.tmod y q) = Int.tmod y q := IntWalk.i64_in _ (by omega)
      have e3 : IntKind.i64.wrap (x * q + Int.tmod y q) = x * q + Int.tmod y q := IntWalk.i64_in _ (by omega)
      have t1 : (q == 0) = false := by simpa using hq
      clear et
      go_wp2_with fail
      go_quiet (fail)
      go_wp2
      go_ret
      exact ⟨by rw [HX.out, ← hye.out, ← Int.tmod_eq_emod_of_nonneg y0]; rfl, pw_below_drewN B3.out _⟩
end Go.Proofs.Ytbhgnphdhkmliaa.P
