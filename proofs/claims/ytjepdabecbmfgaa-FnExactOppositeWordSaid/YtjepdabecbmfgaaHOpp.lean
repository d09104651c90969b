/- Opposite digits: what the program's oppositeOf returns. -/
import Derived.Test.YtjepdabecbmfgaaHDig
set_option linter.unusedVariables false
set_option linter.unusedSimpArgs false
namespace Go.Proofs.Ytjepdabecbmfgaa.P
open Go.RowKit Go.Proofs.YtjepdabecbmfgaaW.PrintWords Go.Proofs.YtjepdabecbmfgaaW.PrintLast Go.Proofs.YtjepdabecbmfgaaW.PrintMore CC


/-- Eight numbers, the first n told by g, the others 0. -/
def upd8 (g : Nat → Int) (n : Nat) : List Int := (List.range 8).map fun k => if k < n then g k else 0
theorem upd8_length (g : Nat → Int) (n : Nat) : (upd8 g n).length = 8 := by simp [upd8]
theorem upd8_zero (g : Nat → Int) : upd8 g 0 = List.replicate 8 0 := rfl
theorem upd8_succ (g : Nat → Int) (n : Nat) : (upd8 g n).set n (g n) = upd8 g (n + 1) := by
  apply List.ext_getElem?
  intro k
  by_cases hk : k = n
  · subst hk
    by_cases h8 : k < 8
    · rw [List.getElem?_set_self (by rw [upd8_length]; exact h8)]
      simp [upd8, h8]
    · rw [List.getElem?_eq_none (by rw [List.length_set, upd8_length]; omega), List.getElem?_eq_none (by rw [upd8_length]; omega)]
  · rw [List.getElem?_set_ne (fun e => hk e.symm)]
    simp only [upd8, List.getElem?_map]
    by_cases h8 : k < 8
    · simp only [List.getElem?_range h8, Option.map_some, Option.some.injEq]
      by_cases h1 : k < n
      · rw [if_pos h1, if_pos (by omega)]
      · rw [if_neg h1, if_neg (by omega)]
    · rw [List.getElem?_eq_none (by simp; omega)]
      rfl

def opp8 (s a : List Int) : List Int := upd8 (fun k => (-rd a (k : Int)) % rd s (k : Int)) s.length

theorem size_rd {s : List Int} (hs : s.all sizeOk = true) {k : Nat} (hk : k < s.length) : 2 ≤ rd s (k : Int) ∧ rd s (k : Int) ≤ 4 := by
  have hq : sizeOk (rd s (k : Int)) = true := by
    have : rd s (k : Int) = s[k] := by simp [rd, List.getD_eq_getElem?_getD, hk]
    rw [this]
    exact List.all_eq_true.1 hs _ (List.getElem_mem hk)
  have := (sizeOk_iff _).1 hq
  omega

theorem mod_small {q x : Int} (h0 : 2 ≤ q) (h1 : q ≤ 4) : 0 ≤ x % q ∧ x % q ≤ 3 := by
  have a := Int.emod_nonneg x (show q ≠ 0 by omega)
  have b := Int.emod_lt_of_pos x (show 0 < q by omega)
  omega

set_option maxHeartbeats 4000000 in
set_option maxRecDepth 100000 in
theorem oppositeOf_calls (A : Option Addr) (c : Nat) (s d : List Int) (w : World) (hr : Kd.C (Kd.int .i64) w A s.length s) (hc : s.length ≤ c) (hs : isSp s = true) (hd : d.length = 8) (hin : inR s d = true) :
    Calls Try.prog 68 #[.agg #[.slice A s.length c], arr8 d] w
      fun e w' => e = .returned (arr8 (opp8 s d)) ∧ Below w.heap.size w w' := by
  have huS := Try.underlying28
  have huD := Try.underlying64
  have HR := Aside0.mk hr
  have HS := Aside0.mk (isSp_all hs)
  have hl := isSp_len hs
  have HD := Aside0.mk hd
  have HI := Aside0.mk hin
  clear hr hs hd hin
  have HX : Aside0 (opp8 s d = upd8 (fun k => (-rd d (k : Int)) % rd s (k : Int)) s.length) := ⟨rfl⟩
  generalize opp8 s d = R at *
  unfold arr8
  go_enter Try.func68, Try.ntmps68
  go_wp2
  have HB : Aside0 (Below w.heap.size w ((((w.alloc (.cells #[.slice A s.length c] 28)).alloc (.cells (nums .u8 d).toArray 64)).alloc (.cells #[.int .u8 0, .int .u8 0, .int .u8 0, .int .u8 0, .int .u8 0, .int .u8 0, .int .u8 0, .int .u8 0] 64)).alloc (.cells #[.int .u8 0, .int .u8 0, .int .u8 0, .int .u8 0, .int .u8 0, .int .u8 0, .int .u8 0, .int .u8 0] 64))) := ⟨below_alloc (below3 _ _ _ _) _⟩
  have b1 : ((((w.alloc (.cells #[.slice A s.length c] 28)).alloc (.cells (nums .u8 d).toArray 64)).alloc (.cells #[.int .u8 0, .int .u8 0, .int .u8 0, .int .u8 0, .int .u8 0, .int .u8 0, .int .u8 0, .int .u8 0] 64)).alloc (.cells #[.int .u8 0, .int .u8 0, .int .u8 0, .int .u8 0, .int .u8 0, .int .u8 0, .int .u8 0, .int .u8 0] 64)).heap[w.heap.size + 1]? = some (.cells (nums .u8 d).toArray 64 (0, 0)) :=
    blk_alloc (blk_alloc (by simpa using blk_new (w.alloc (.cells #[.slice A s.length c] 28)) (.cells (nums .u8 d).toArray 64)) _) _
  have b2 : ((((w.alloc (.cells #[.slice A s.length c] 28)).alloc (.cells (nums .u8 d).toArray 64)).alloc (.cells #[.int .u8 0, .int .u8 0, .int .u8 0, .int .u8 0, .int .u8 0, .int .u8 0, .int .u8 0, .int .u8 0] 64)).alloc (.cells #[.int .u8 0, .int .u8 0, .int .u8 0, .int .u8 0, .int .u8 0, .int .u8 0, .int .u8 0, .int .u8 0] 64)).heap[w.heap.size + 1 + 1]? = some (.cells (nums .u8 (List.replicate 8 0)).toArray 64 (0, 0)) := by
    rw [z8]
    exact blk_alloc (by simpa using blk_new ((w.alloc (.cells #[.slice A s.length c] 28)).alloc (.cells (nums .u8 d).toArray 64)) (.cells #[.int .u8 0, .int .u8 0, .int .u8 0, .int .u8 0, .int .u8 0, .int .u8 0, .int .u8 0, .int .u8 0] 64)) _
  have b3 : ((((w.alloc (.cells #[.slice A s.length c] 28)).alloc (.cells (nums .u8 d).toArray 64)).alloc (.cells #[.int .u8 0, .int .u8 0, .int .u8 0, .int .u8 0, .int .u8 0, .int .u8 0, .int .u8 0, .int .u8 0] 64)).alloc (.cells #[.int .u8 0, .int .u8 0, .int .u8 0, .int .u8 0, .int .u8 0, .int .u8 0, .int .u8 0, .int .u8 0] 64)).heap[w.heap.size + 1 + 1 + 1]? = some (.cells (nums .u8 (List.replicate 8 0)).toArray 64 (0, 0)) := by
    rw [z8]
    simpa using blk_new (((w.alloc (.cells #[.slice A s.length c] 28)).alloc (.cells (nums .u8 d).toArray 64)).alloc (.cells #[.int .u8 0, .int .u8 0, .int .u8 0, .int .u8 0, .int .u8 0, .int .u8 0, .int .u8 0, .int .u8 0] 64)) (.cells #[.int .u8 0, .int .u8 0, .int .u8 0, .int .u8 0, .int .u8 0, .int .u8 0, .int .u8 0, .int .u8 0] 64)
  have B1 := Aside0.mk b1
  have B2 := Aside0.mk b2
  have B3 := Aside0.mk b3
  clear b1 b2 b3
  generalize (((w.alloc (.cells #[.slice A s.length c] 28)).alloc (.cells (nums .u8 d).toArray 64)).alloc (.cells #[.int .u8 0, .int .u8 0, .int .u8 0, .int .u8 0, .int .u8 0, .int .u8 0, .int .u8 0, .int .u8 0] 64)).alloc (.cells #[.int .u8 0, .int .u8 0, .int .u8 0, .int .u8 0, .int .u8 0, .int .u8 0, .int .u8 0, .int .u8 0] 64) = W0 at *
  go_loopw [12] (fun i W => ∃ (n : Nat), n ≤ s.length ∧ i = .int .i64 n ∧ Aside0 (W.heap[w.heap.size + 1]? = some (.cells (nums .u8 d).toArray 64 (0, 0))) ∧ Aside0 (W.heap[w.heap.size + 1 + 1]? = some (.cells (nums .u8 (List.replicate 8 0)).toArray 64 (0, 0))) ∧
      Aside0 (W.heap[w.heap.size + 1 + 1 + 1]? = some (.cells (nums .u8 (upd8 (fun k => (-rd d (k : Int)) % rd s (k : Int)) n)).toArray 64 (0, 0))) ∧ Aside0 (Below w.heap.size w W)) (fun i _ => s.length - (intOf i).toNat)
  case atStart => exact ⟨0, by omega, rfl, B1, B2, ⟨by rw [upd8_zero]; exact B3.out⟩, HB⟩
  case round =>
    clear B1 B2 B3 HB
    obtain ⟨n, hn, rfl, B1, B2, B3, HB⟩ := hrel
    by_cases hlt : n < s.length
    · obtain ⟨ad, e, _⟩ := Kd.at_int HR.out (n : Int) (by omega) (by omega)
      subst e
      have hx := rd_cell HR.out HB.out n (by omega)
      have hy := cell8 B1.out (i := n) (by have := HD.out; omega)
      have hz := cell8 B3.out (i := n) (by rw [upd8_length]; omega)
      have hfz := blk_frozen B3.out n
      obtain ⟨r0, r1⟩ := inR_rd s d n HI.out hlt (by have := HD.out; omega)
      obtain ⟨q0, q1⟩ := size_rd HS.out hlt
      have HU := Aside0.mk (upd8_succ (fun k => (-rd d (k : Int)) % rd s (k : Int)) n)
      obtain ⟨m0, m1⟩ := mod_small (x := -rd d (n : Int)) q0 q1
      have hq : ∃ q, q = rd s (n : Int) := ⟨_, rfl⟩
      obtain ⟨q, hq⟩ := hq
      obtain ⟨x, hx2⟩ : ∃ x, x = rd d (n : Int) := ⟨_, rfl⟩
      have HQ := Aside0.mk (And.intro hq hx2)
      rw [← hq] at hx m0 m1 q0 q1 r1
      rw [← hx2] at hy m0 m1 r0 r1
      clear hq hx2
      go_wp2
      go_roundw
      case rel =>
        refine ⟨n + 1, by omega, by go_num, ⟨blk_far B1.out (by simp) _⟩, ⟨blk_far B2.out (by simp) _⟩, ⟨?_⟩, ⟨below_set HB.out (by omega)⟩⟩
        have h8 := blk_set8 B3.out n ((-x) % q)
        rw [HQ.out.1, HQ.out.2] at h8
        rw [HU.out] at h8
        rw [HQ.out.1, HQ.out.2]
        exact h8
      case measure => simp [intOf]; omega
    · have hn : n = s.length := by omega
      subst hn
      have B3 := Aside0.mk B3.out
      rw [← HX.out] at B3
      obtain ⟨y0, y1, y2, y3, y4, y5, y6, y7, rfl⟩ := eight (l := R) (by rw [HX.out, upd8_length])
      have k0 : wr.cell? ⟨w.heap.size + 1 + 1 + 1, 0, none⟩ = some (.int .u8 y0) := blk_cell B3.out 0
      have k1 : wr.cell? ⟨w.heap.size + 1 + 1 + 1, 1, none⟩ = some (.int .u8 y1) := blk_cell B3.out 1
      have k2 : wr.cell? ⟨w.heap.size + 1 + 1 + 1, 2, none⟩ = some (.int .u8 y2) := blk_cell B3.out 2
      have k3 : wr.cell? ⟨w.heap.size + 1 + 1 + 1, 3, none⟩ = some (.int .u8 y3) := blk_cell B3.out 3
      have k4 : wr.cell? ⟨w.heap.size + 1 + 1 + 1, 4, none⟩ = some (.int .u8 y4) := blk_cell B3.out 4
      have k5 : wr.cell? ⟨w.heap.size + 1 + 1 + 1, 5, none⟩ = some (.int .u8 y5) := blk_cell B3.out 5
      have k6 : wr.cell? ⟨w.heap.size + 1 + 1 + 1, 6, none⟩ = some (.int .u8 y6) := blk_cell B3.out 6
      have k7 : wr.cell? ⟨w.heap.size + 1 + 1 + 1, 7, none⟩ = some (.int .u8 y7) := blk_cell B3.out 7
      have q0 : wr.cell? ⟨w.heap.size + 1 + 1, 0, none⟩ = some (.int .u8 0) := blk_cell B2.out 0
      have q1 : wr.cell? ⟨w.heap.size + 1 + 1, 1, none⟩ = some (.int .u8 0) := blk_cell B2.out 1
      have q2 : wr.cell? ⟨w.heap.size + 1 + 1, 2, none⟩ = some (.int .u8 0) := blk_cell B2.out 2
      have q3 : wr.cell? ⟨w.heap.size + 1 + 1, 3, none⟩ = some (.int .u8 0) := blk_cell B2.out 3
      have q4 : wr.cell? ⟨w.heap.size + 1 + 1, 4, none⟩ = some (.int .u8 0) := blk_cell B2.out 4
      have q5 : wr.cell? ⟨w.heap.size + 1 + 1, 5, none⟩ = some (.int .u8 0) := blk_cell B2.out 5
      have q6 : wr.cell? ⟨w.heap.size + 1 + 1, 6, none⟩ = some (.int .u8 0) := blk_cell B2.out 6
      have q7 : wr.cell? ⟨w.heap.size + 1 + 1, 7, none⟩ = some (.int .u8 0) := blk_cell B2.out 7
      have hf := fun i => blk_frozen B2.out i
      go_wp2
      refine bodyPost_ret (v := .agg #[.int .u8 y0, .int .u8 y1, .int .u8 y2, .int .u8 y3, .int .u8 y4, .int .u8 y5, .int .u8 y6, .int .u8 y7]) (by simp [results, Try.results68, go_sem, q0, q1, q2, q3, q4, q5, q6, q7]) rfl ⟨rfl, ?_⟩
      repeat (refine below_set ?_ (by omega))
      exact HB.out

theorem upd8_rd (g : Nat → Int) (n : Nat) {k : Nat} (hk : k < n) (h8 : k < 8) : rd (upd8 g n) (k : Int) = g k := by
  simp [rd, upd8, List.getD_eq_getElem?_getD, h8, hk]
theorem opp8_inR {s : List Int} (hs : isSp s = true) (d : List Int) : inR s (opp8 s d) = true := by
  refine inR_of _ _ fun k h1 h2 => ?_
  have hl := isSp_len hs
  obtain ⟨q0, q1⟩ := size_rd (isSp_all hs) h1
  rw [opp8, upd8_rd _ _ h1 (by omega)]
  have a := Int.emod_nonneg (-rd d (k : Int)) (show rd s (k : Int) ≠ 0 by omega)
  have b := Int.emod_lt_of_pos (-rd d (k : Int)) (show 0 < rd s (k : Int) by omega)
  exact ⟨a, b⟩
end Go.Proofs.Ytjepdabecbmfgaa.P
