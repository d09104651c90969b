/- Arrays of eight bytes: what the program's digitsOf and far return. -/
import Derived.Test.YtbhgnphdhkmliaaF0
import Derived.Test.YtbhgnphdhkmliaaModel
namespace Go.Proofs.Ytbhgnphdhkmliaa.P
open Go.RowKit Go.Proofs.YtbhgnphdhkmliaaW.PrintWords Go.Proofs.YtbhgnphdhkmliaaW.PrintLast Go.Proofs.YtbhgnphdhkmliaaW.PrintMore CC
set_option linter.unusedVariables false
set_option linter.unusedSimpArgs false


def arr8 (l : List Int) : Value := .agg (nums .u8 l).toArray

def dloop (s : List Int) : Nat → Int → List Int → List Int
  | 0, _, ar => ar
  | n + 1, x, ar => dloop s n (x / rd s (n : Int)) (ar.set n (x % rd s (n : Int)))

theorem below3 (w : World) (o1 o2 o3 : Obj) : Below w.heap.size w (((w.alloc o1).alloc o2).alloc o3) := (((Below.refl _ _).alloc (Nat.le_refl _) _).alloc (by simp) _).alloc (by simp; omega) _

theorem dstep_bounds {s : List Int} (hs : s.all sizeOk = true) {n : Nat} (hn : n < s.length) {x : Int} (h0 : 0 ≤ x) (h1 : x ≤ 1024) :
    2 ≤ rd s (n : Int) ∧ rd s (n : Int) ≤ 4 ∧ 0 ≤ x % rd s (n : Int) ∧ x % rd s (n : Int) ≤ 3 ∧ 0 ≤ x / rd s (n : Int) ∧ x / rd s (n : Int) ≤ 1024 := by
  have hq : sizeOk (rd s (n : Int)) = true := by
    have : rd s (n : Int) = s[n] := by simp [rd, List.getD_eq_getElem?_getD, hn]
    rw [this]
    exact List.all_eq_true.1 hs _ (List.getElem_mem hn)
  rcases (sizeOk_iff _).1 hq with e | e | e <;> rw [e] <;> omega

theorem blk_set8 {w : World} {g : Nat} {t : TypeId} {ar : List Int} (h : w.heap[g]? = some (.cells (nums .u8 ar).toArray t (0, 0))) (i : Nat) (v : Int) : (w.setCell ⟨g, i, none⟩ (.int .u8 v)).heap[g]? = some (.cells (nums .u8 (ar.set i v)).toArray t (0, 0)) := by
  rw [blk_set h]
  simp [nums, List.map_set]

theorem cell8 {w : World} {g : Nat} {t : TypeId} {ar : List Int} (h : w.heap[g]? = some (.cells (nums .u8 ar).toArray t (0, 0))) {i : Nat} (hi : i < ar.length) : w.cell? ⟨g, i, none⟩ = some (.int .u8 (rd ar (i : Int))) := by
  rw [blk_cell h]
  simp [nums, rd, List.getD_eq_getElem?_getD, hi]

theorem rd_cell {w W : World} {ad : Addr} {s : List Int} (hr : Kd.C (Kd.int .i64) w (some ad) s.length s) (hb : Below w.heap.size w W) (i : Nat) (hi : i < s.length) : W.cell? (ad.add i) = some (.int .i64 (rd s (i : Int))) := by
  obtain ⟨ad', e, hx⟩ := Kd.at_int (Kd.C_below hr hb) (i : Int) (by omega) (by omega)
  obtain rfl := Option.some.inj e
  simpa using hx

theorem z8 : (nums .u8 (List.replicate 8 0)).toArray = #[.int .u8 0, .int .u8 0, .int .u8 0, .int .u8 0, .int .u8 0, .int .u8 0, .int .u8 0, .int .u8 0] := rfl

set_option maxHeartbeats 4000000 in
set_option maxRecDepth 100000 in
theorem digitsOf_calls (A : Option Addr) (c : Nat) (s : List Int) (x : Int) (w : World) (hr : Kd.C (Kd.int .i64) w A s.length s) (hc : s.length ≤ c) (hs : isSp s = true) (h0 : 0 ≤ x) (h1 : x ≤ 1024) :
    Calls Try.prog 47 #[.agg #[.slice A s.length c], .int .i64 x] w
      fun e w' => e = .returned (arr8 (dloop s s.length x (List.replicate 8 0))) ∧ Below w.heap.size w w' := by
  have huD := Try.underlying60
  have huS := Try.underlying26
  have HR := Aside0.mk hr
  have hl := isSp_len hs
  have hl1 := isSp_pos hs
  have HS := Aside0.mk (isSp_all hs)
  clear hr hs
  go_enter Try.func47, Try.ntmps47
  go_wp2
  go_loopw [1, 6] (fun t i W => ∃ (n : Nat) (j x' : Int) (ar : List Int), n ≤ s.length ∧ Aside0 (j = n - 1) ∧ i = .int .i64 j ∧ t = .int .i64 x' ∧ 0 ≤ x' ∧ x' ≤ 1024 ∧ Aside0 (ar.length = 8) ∧ Aside0 (dloop s n x' ar = dloop s s.length x (List.replicate 8 0)) ∧
      Aside0 (W.heap[w.heap.size]? = some (.cells #[.slice A s.length c] 26 (0, 0))) ∧ Aside0 (W.heap[w.heap.size + 1]? = some (.cells (nums .u8 (List.replicate 8 0)).toArray 60 (0, 0))) ∧ Aside0 (W.heap[w.heap.size + 1 + 1]? = some (.cells (nums .u8 ar).toArray 60 (0, 0))) ∧
      Aside0 (Below w.heap.size w W)) (fun _ i _ => (intOf i + 1).toNat)
  case atStart =>
    refine ⟨s.length, s.length - 1, x, List.replicate 8 0, by omega, ⟨rfl⟩, by simp, rfl, h0, h1, ⟨rfl⟩, ⟨rfl⟩, ⟨?_⟩, ⟨?_⟩, ⟨?_⟩, ⟨below3 _ _ _ _⟩⟩
    · exact blk_alloc (blk_alloc (blk_new _ _) _) _
    · rw [z8]
      refine blk_alloc ?_ _
      simpa using blk_new (w.alloc (.cells #[.slice A s.length c] 26)) (.cells #[.int .u8 0, .int .u8 0, .int .u8 0, .int .u8 0, .int .u8 0, .int .u8 0, .int .u8 0, .int .u8 0] 60)
    · rw [z8]
      simpa using blk_new ((w.alloc (.cells #[.slice A s.length c] 26)).alloc (.cells #[.int .u8 0, .int .u8 0, .int .u8 0, .int .u8 0, .int .u8 0, .int .u8 0, .int .u8 0, .int .u8 0] 60)) (.cells #[.int .u8 0, .int .u8 0, .int .u8 0, .int .u8 0, .int .u8 0, .int .u8 0, .int .u8 0, .int .u8 0] 60)
  case round =>
    obtain ⟨n, j, x', ar, hn, hj, rfl, rfl, g0, g1, hal, HD, B0, B1, B2, HB⟩ := hrel
    cases n with
    | zero =>
      obtain rfl : j = -1 := by have := hj.out; omega
      match ar, hal.out with
      | [y0, y1, y2, y3, y4, y5, y6, y7], _ =>
        have k0 : wr.cell? ⟨w.heap.size + 1 + 1, 0, none⟩ = some (.int .u8 y0) := blk_cell B2.out 0
        have k1 : wr.cell? ⟨w.heap.size + 1 + 1, 1, none⟩ = some (.int .u8 y1) := blk_cell B2.out 1
        have k2 : wr.cell? ⟨w.heap.size + 1 + 1, 2, none⟩ = some (.int .u8 y2) := blk_cell B2.out 2
        have k3 : wr.cell? ⟨w.heap.size + 1 + 1, 3, none⟩ = some (.int .u8 y3) := blk_cell B2.out 3
        have k4 : wr.cell? ⟨w.heap.size + 1 + 1, 4, none⟩ = some (.int .u8 y4) := blk_cell B2.out 4
        have k5 : wr.cell? ⟨w.heap.size + 1 + 1, 5, none⟩ = some (.int .u8 y5) := blk_cell B2.out 5
        have k6 : wr.cell? ⟨w.heap.size + 1 + 1, 6, none⟩ = some (.int .u8 y6) := blk_cell B2.out 6
        have k7 : wr.cell? ⟨w.heap.size + 1 + 1, 7, none⟩ = some (.int .u8 y7) := blk_cell B2.out 7
        have hf := fun i => blk_frozen B1.out i
        have q0 : wr.cell? ⟨w.heap.size + 1, 0, none⟩ = some (.int .u8 0) := blk_cell B1.out 0
        have q1 : wr.cell? ⟨w.heap.size + 1, 1, none⟩ = some (.int .u8 0) := blk_cell B1.out 1
        have q2 : wr.cell? ⟨w.heap.size + 1, 2, none⟩ = some (.int .u8 0) := blk_cell B1.out 2
        have q3 : wr.cell? ⟨w.heap.size + 1, 3, none⟩ = some (.int .u8 0) := blk_cell B1.out 3
        have q4 : wr.cell? ⟨w.heap.size + 1, 4, none⟩ = some (.int .u8 0) := blk_cell B1.out 4
        have q5 : wr.cell? ⟨w.heap.size + 1, 5, none⟩ = some (.int .u8 0) := blk_cell B1.out 5
        have q6 : wr.cell? ⟨w.heap.size + 1, 6, none⟩ = some (.int .u8 0) := blk_cell B1.out 6
        have q7 : wr.cell? ⟨w.heap.size + 1, 7, none⟩ = some (.int .u8 0) := blk_cell B1.out 7
        go_wp2
        refine bodyPost_ret (v := .agg #[.int .u8 y0, .int .u8 y1, .int .u8 y2, .int .u8 y3, .int .u8 y4, .int .u8 y5, .int .u8 y6, .int .u8 y7]) (by simp [results, Try.results47, go_sem, q0, q1, q2, q3, q4, q5, q6, q7]) rfl ⟨?_, ?_⟩
        · rw [← HD.out]
          rfl
        · repeat (refine below_set ?_ (by omega))
          exact HB.out
    | succ m =>
      obtain rfl : j = (m : Int) := by have := hj.out; omega
      obtain ⟨ad, e, _⟩ := Kd.at_int HR.out (m : Int) (by omega) (by omega)
      subst e
      have hx := rd_cell HR.out HB.out m (by omega)
      have hx2 := rd_cell HR.out (below_set (g := w.heap.size + 1 + 1) (j := m) (v := .int .u8 (x' % rd s (m : Int))) HB.out (by omega)) m (by omega)
      obtain ⟨b2, b3, b0, b1, b4, b5⟩ := dstep_bounds (n := m) HS.out (by omega) g0 g1
      have HQ : Aside0 (dloop s m (x' / rd s (m : Int)) (ar.set m (x' % rd s (m : Int))) = dloop s s.length x (List.replicate 8 0)) := ⟨HD.out⟩
      clear HD
      generalize rd s (m : Int) = q at *
      have hc0 : wr.cell? ⟨w.heap.size, 0, none⟩ = some (.slice (some ad) s.length c) := blk_cell B0.out 0
      have hc2 := cell8 B2.out (i := m) (by have := hal.out; omega)
      have hf2 := blk_frozen B2.out m
      go_wp2
      go_roundw
      case rel =>
        refine ⟨m, (m : Int) - 1, x' / q, ar.set m (x' % q), by omega, ⟨rfl⟩, rfl, rfl, b4, b5, ⟨by simpa using hal.out⟩, HQ, ⟨blk_far B0.out (by simp; omega) _⟩, ⟨blk_far B1.out (by simp) _⟩, ⟨blk_set8 B2.out _ _⟩, ⟨below_set HB.out (by omega)⟩⟩
      case measure => simp [intOf]


theorem idx8 (v0 v1 v2 v3 v4 v5 v6 v7 : Value) (w : World) :
    (Instr.index 60 (.agg #[v0, v1, v2, v3, v4, v5, v6, v7]) (.int .i64 0)).run Try.prog w = .ok v0 w ∧ (Instr.index 60 (.agg #[v0, v1, v2, v3, v4, v5, v6, v7]) (.int .i64 1)).run Try.prog w = .ok v1 w ∧ (Instr.index 60 (.agg #[v0, v1, v2, v3, v4, v5, v6, v7]) (.int .i64 2)).run Try.prog w = .ok v2 w ∧ (Instr.index 60 (.agg #[v0, v1, v2, v3, v4, v5, v6, v7]) (.int .i64 3)).run Try.prog w = .ok v3 w ∧ (Instr.index 60 (.agg #[v0, v1, v2, v3, v4, v5, v6, v7]) (.int .i64 4)).run Try.prog w = .ok v4 w ∧ (Instr.index 60 (.agg #[v0, v1, v2, v3, v4, v5, v6, v7]) (.int .i64 5)).run Try.prog w = .ok v5 w ∧ (Instr.index 60 (.agg #[v0, v1, v2, v3, v4, v5, v6, v7]) (.int .i64 6)).run Try.prog w = .ok v6 w ∧ (Instr.index 60 (.agg #[v0, v1, v2, v3, v4, v5, v6, v7]) (.int .i64 7)).run Try.prog w = .ok v7 w :=
  ⟨by kernel_rfl, by kernel_rfl, by kernel_rfl, by kernel_rfl, by kernel_rfl, by kernel_rfl, by kernel_rfl, by kernel_rfl⟩

theorem ham_snoc : ∀ (a b : List Int) (x y : Int), a.length = b.length → ham (a ++ [x]) (b ++ [y]) = ham a b + if x = y then 0 else 1
  | [], [], x, y, _ => by simp [ham]
  | p :: a, q :: b, x, y, h => by
    simp only [List.cons_append, ham]
    rw [ham_snoc a b x y (by simpa using h)]
    omega
  | [], _ :: _, _, _, h => by simp at h
  | _ :: _, [], _, _, h => by simp at h

set_option maxHeartbeats 4000000 in
set_option maxRecDepth 100000 in
theorem far_calls8 (a0 a1 a2 a3 a4 a5 a6 a7 b0 b1 b2 b3 b4 b5 b6 b7 : Int) (w : World) :
    Calls Try.prog 71 #[.agg #[.int .u8 a0, .int .u8 a1, .int .u8 a2, .int .u8 a3, .int .u8 a4, .int .u8 a5, .int .u8 a6, .int .u8 a7], .agg #[.int .u8 b0, .int .u8 b1, .int .u8 b2, .int .u8 b3, .int .u8 b4, .int .u8 b5, .int .u8 b6, .int .u8 b7]] w
      fun e w' => e = .returned (.int .i64 (ham [a0, a1, a2, a3, a4, a5, a6, a7] [b0, b1, b2, b3, b4, b5, b6, b7])) ∧ Below w.heap.size w w' := by
  have huD := Try.underlying60
  go_enter Try.func71, Try.ntmps71
  go_wp2
  go_loop [5, 9] (fun t i => ∃ k : Nat, k ≤ 8 ∧ i = .int .i64 k ∧ ∃ x : Int, 0 ≤ x ∧ x ≤ k ∧ t = .int .i64 x ∧ Aside0 (x = ham ([a0, a1, a2, a3, a4, a5, a6, a7].take k) ([b0, b1, b2, b3, b4, b5, b6, b7].take k))) (fun _ i => 8 - (intOf i).toNat)
  case atStart => exact ⟨0, by omega, rfl, 0, by omega, by omega, rfl, ⟨rfl⟩⟩
  case round =>
    obtain ⟨k, hk, rfl, x, hx0, hx1, rfl, HX⟩ := hrel
    obtain ⟨i0, i1, i2, i3, i4, i5, i6, i7⟩ := idx8 (.int .u8 a0) (.int .u8 a1) (.int .u8 a2) (.int .u8 a3) (.int .u8 a4) (.int .u8 a5) (.int .u8 a6) (.int .u8 a7) ((w.alloc (.cells #[.int .u8 a0, .int .u8 a1, .int .u8 a2, .int .u8 a3, .int .u8 a4, .int .u8 a5, .int .u8 a6, .int .u8 a7] 60)).alloc (.cells #[.int .u8 b0, .int .u8 b1, .int .u8 b2, .int .u8 b3, .int .u8 b4, .int .u8 b5, .int .u8 b6, .int .u8 b7] 60))
    rcases (show k = 0 ∨ k = 1 ∨ k = 2 ∨ k = 3 ∨ k = 4 ∨ k = 5 ∨ k = 6 ∨ k = 7 ∨ k = 8 by omega) with rfl | rfl | rfl | rfl | rfl | rfl | rfl | rfl | rfl
    · go_wp2
      all_goals
        go_round
        case rel => exact ⟨1, by omega, by rfl, _, by omega, by omega, rfl, ⟨by
          have hs := ham_snoc [] [] a0 b0 rfl
          have e := HX.out
          first
            | (have t : (a0 != b0) = true := by assumption
               rw [if_neg (by simpa using t)] at hs
               exact (congrArg (· + 1) e).trans hs.symm)
            | (have t : (a0 != b0) = false := by assumption
               rw [if_pos (by simpa using t), Int.add_zero] at hs
               exact e.trans hs.symm)⟩⟩
        case measure => simp [intOf]
    · go_wp2
      all_goals
        go_round
        case rel => exact ⟨2, by omega, by rfl, _, by omega, by omega, rfl, ⟨by
          have hs := ham_snoc [a0] [b0] a1 b1 rfl
          have e := HX.out
          first
            | (have t : (a1 != b1) = true := by assumption
               rw [if_neg (by simpa using t)] at hs
               exact (congrArg (· + 1) e).trans hs.symm)
            | (have t : (a1 != b1) = false := by assumption
               rw [if_pos (by simpa using t), Int.add_zero] at hs
               exact e.trans hs.symm)⟩⟩
        case measure => simp [intOf]
    · go_wp2
      all_goals
        go_round
        case rel => exact ⟨3, by omega, by rfl, _, by omega, by omega, rfl, ⟨by
          have hs := ham_snoc [a0, a1] [b0, b1] a2 b2 rfl
          have e := HX.out
          first
            | (have t : (a2 != b2) = true := by assumption
               rw [if_neg (by simpa using t)] at hs
               exact (congrArg (· + 1) e).trans hs.symm)
            | (have t : (a2 != b2) = false := by assumption
               rw [if_pos (by simpa using t), Int.add_zero] at hs
               exact e.trans hs.symm)⟩⟩
        case measure => simp [intOf]
    · go_wp2
      all_goals
        go_round
        case rel => exact ⟨4, by omega, by rfl, _, by omega, by omega, rfl, ⟨by
          have hs := ham_snoc [a0, a1, a2] [b0, b1, b2] a3 b3 rfl
          have e := HX.out
          first
            | (have t : (a3 != b3) = true := by assumption
               rw [if_neg (by simpa using t)] at hs
               exact (congrArg (· + 1) e).trans hs.symm)
            | (have t : (a3 != b3) = false := by assumption
               rw [if_pos (by simpa using t), Int.add_zero] at hs
               exact e.trans hs.symm)⟩⟩
        case measure => simp [intOf]
    · go_wp2
      all_goals
        go_round
        case rel => exact ⟨5, by omega, by rfl, _, by omega, by omega, rfl, ⟨by
          have hs := ham_snoc [a0, a1, a2, a3] [b0, b1, b2, b3] a4 b4 rfl
          have e := HX.out
          first
            | (have t : (a4 != b4) = true := by assumption
               rw [if_neg (by simpa using t)] at hs
               exact (congrArg (· + 1) e).trans hs.symm)
            | (have t : (a4 != b4) = false := by assumption
               rw [if_pos (by simpa using t), Int.add_zero] at hs
               exact e.trans hs.symm)⟩⟩
        case measure => simp [intOf]
    · go_wp2
      all_goals
        go_round
        case rel => exact ⟨6, by omega, by rfl, _, by omega, by omega, rfl, ⟨by
          have hs := ham_snoc [a0, a1, a2, a3, a4] [b0, b1, b2, b3, b4] a5 b5 rfl
          have e := HX.out
          first
            | (have t : (a5 != b5) = true := by assumption
               rw [if_neg (by simpa using t)] at hs
               exact (congrArg (· + 1) e).trans hs.symm)
            | (have t : (a5 != b5) = false := by assumption
               rw [if_pos (by simpa using t), Int.add_zero] at hs
               exact e.trans hs.symm)⟩⟩
        case measure => simp [intOf]
    · go_wp2
      all_goals
        go_round
        case rel => exact ⟨7, by omega, by rfl, _, by omega, by omega, rfl, ⟨by
          have hs := ham_snoc [a0, a1, a2, a3, a4, a5] [b0, b1, b2, b3, b4, b5] a6 b6 rfl
          have e := HX.out
          first
            | (have t : (a6 != b6) = true := by assumption
               rw [if_neg (by simpa using t)] at hs
               exact (congrArg (· + 1) e).trans hs.symm)
            | (have t : (a6 != b6) = false := by assumption
               rw [if_pos (by simpa using t), Int.add_zero] at hs
               exact e.trans hs.symm)⟩⟩
        case measure => simp [intOf]
    · go_wp2
      all_goals
        go_round
        case rel => exact ⟨8, by omega, by rfl, _, by omega, by omega, rfl, ⟨by
          have hs := ham_snoc [a0, a1, a2, a3, a4, a5, a6] [b0, b1, b2, b3, b4, b5, b6] a7 b7 rfl
          have e := HX.out
          first
            | (have t : (a7 != b7) = true := by assumption
               rw [if_neg (by simpa using t)] at hs
               exact (congrArg (· + 1) e).trans hs.symm)
            | (have t : (a7 != b7) = false := by assumption
               rw [if_pos (by simpa using t), Int.add_zero] at hs
               exact e.trans hs.symm)⟩⟩
        case measure => simp [intOf]
    · go_wp2
      go_ret
      refine ⟨?_, ((Below.refl _ _).alloc (Nat.le_refl _) _).alloc (by simp) _⟩
      have e := HX.out
      rw [e]
      rfl
theorem eight {l : List Int} (h : l.length = 8) : ∃ y0 y1 y2 y3 y4 y5 y6 y7 : Int, l = [y0, y1, y2, y3, y4, y5, y6, y7] := by
  match l, h with
  | [y0, y1, y2, y3, y4, y5, y6, y7], _ => exact ⟨y0, y1, y2, y3, y4, y5, y6, y7, rfl⟩

theorem far_calls {a b : List Int} (ha : a.length = 8) (hb : b.length = 8) (w : World) :
    Calls Try.prog 71 #[arr8 a, arr8 b] w fun e w' => e = .returned (.int .i64 (ham a b)) ∧ Below w.heap.size w w' := by
  obtain ⟨a0, a1, a2, a3, a4, a5, a6, a7, rfl⟩ := eight ha
  obtain ⟨b0, b1, b2, b3, b4, b5, b6, b7, rfl⟩ := eight hb
  exact far_calls8 a0 a1 a2 a3 a4 a5 a6 a7 b0 b1 b2 b3 b4 b5 b6 b7 w
theorem dloop_length (s : List Int) : ∀ (n : Nat) (x : Int) (ar : List Int), (dloop s n x ar).length = ar.length
  | 0, _, _ => rfl
  | n + 1, x, ar => by simp [dloop, dloop_length s n]
def dig8 (s : List Int) (x : Int) : List Int := dloop s s.length x (List.replicate 8 0)
theorem dig8_length (s : List Int) (x : Int) : (dig8 s x).length = 8 := by simp [dig8, dloop_length]

/-- The cell of the boxed space, and what was there: kept by calls that only make memory. -/
def KS (g : Nat) (v : Value) (w w' : World) : Prop := w'.cell? ⟨g, 0, none⟩ = some v ∧ Below w.heap.size w w'
theorem KS.step {g : Nat} {v : Value} {w W w' : World} (h : KS g v w W) (hb : Below W.heap.size W w') : KS g v w w' :=
  ⟨pw_cell_below hb h.1, below_then h.2 h.2.size hb⟩

theorem keepS {g : Nat} {v : Value} {w W w' : World} (hb : Below W.heap.size W w') (h : W.cell? ⟨g, 0, none⟩ = some v ∧ Below w.heap.size w W) : w'.cell? ⟨g, 0, none⟩ = some v ∧ Below w.heap.size w w' :=
  ⟨pw_cell_below hb h.1, below_then h.2 h.2.size hb⟩



theorem inR_rd : ∀ (s d : List Int) (k : Nat), inR s d = true → k < s.length → k < d.length → 0 ≤ rd d (k : Int) ∧ rd d (k : Int) < rd s (k : Int)
  | [], _, _, _, h, _ => by simp at h
  | _ :: _, [], _, _, _, h => by simp at h
  | q :: s, x :: d, 0, hr, _, _ => by
    simp only [inR, Bool.and_eq_true, decide_eq_true_eq] at hr
    simpa [rd] using hr.1
  | q :: s, x :: d, k + 1, hr, h1, h2 => by
    simp only [inR, Bool.and_eq_true, decide_eq_true_eq] at hr
    have := inR_rd s d k hr.2 (by simpa using h1) (by simpa using h2)
    have e1 : rd (x :: d) ((k + 1 : Nat) : Int) = rd d (k : Int) := by simp only [rd, Int.toNat_natCast]; rfl
    have e2 : rd (q :: s) ((k + 1 : Nat) : Int) = rd s (k : Int) := by simp only [rd, Int.toNat_natCast]; rfl
    rw [e1, e2]
    exact this

theorem drop_rd (s : List Int) {n : Nat} (h : n < s.length) : s.drop n = rd s (n : Int) :: s.drop (n + 1) := by
  rw [List.drop_eq_getElem_cons h]
  simp [rd, List.getD_eq_getElem?_getD, h]

theorem word_step {s d : List Int} (hs : s.all sizeOk = true) (hl : s.length ≤ 8) (hd : s.length ≤ d.length) (hr : inR s d = true) {k : Nat} (hk : k < s.length) {a : Int} (h0 : 0 ≤ a) (h1 : a + 1 ≤ 4 ^ k) :
    2 ≤ rd s (k : Int) ∧ rd s (k : Int) ≤ 4 ∧ 0 ≤ rd d (k : Int) ∧ rd d (k : Int) ≤ 3 ∧ 0 ≤ a * rd s (k : Int) ∧ a * rd s (k : Int) ≤ 65536 ∧ a * rd s (k : Int) + rd d (k : Int) + 1 ≤ 4 ^ (k + 1) ∧ hor a (s.drop k) (d.drop k) = hor (a * rd s (k : Int) + rd d (k : Int)) (s.drop (k + 1)) (d.drop (k + 1)) := by
  have hq : sizeOk (rd s (k : Int)) = true := by
    have : rd s (k : Int) = s[k] := by simp [rd, List.getD_eq_getElem?_getD, hk]
    rw [this]
    exact List.all_eq_true.1 hs _ (List.getElem_mem hk)
  obtain ⟨r0, r1⟩ := inR_rd s d k hr hk (by omega)
  have hb := pow48 (m := k + 1) (by omega)
  rw [drop_rd s hk, drop_rd d (by omega)]
  simp only [hor]
  rw [Int.pow_succ] at hb ⊢
  rcases (sizeOk_iff _).1 hq with e | e | e <;> rw [e] at r1 ⊢ <;> refine ⟨by omega, by omega, by omega, by omega, by omega, by omega, by omega, by first | trivial | rfl⟩

set_option maxHeartbeats 4000000 in
set_option maxRecDepth 100000 in
theorem wordOf_calls (A : Option Addr) (c : Nat) (s d : List Int) (w : World) (hr : Kd.C (Kd.int .i64) w A s.length s) (hc : s.length ≤ c) (hs : isSp s = true) (hd : d.length = 8) (hin : inR s d = true) :
    Calls Try.prog 54 #[.agg #[.slice A s.length c], arr8 d] w
      fun e w' => e = .returned (.int .i64 (hor 0 s d)) ∧ Below w.heap.size w w' := by
  have huS := Try.underlying26
  have huD := Try.underlying60
  have HR := Aside0.mk hr
  have HS := Aside0.mk (isSp_all hs)
  have hl := isSp_len hs
  have HD := Aside0.mk hd
  have HI := Aside0.mk hin
  clear hr hs hd hin
  unfold arr8
  go_enter Try.func54, Try.ntmps54
  go_wp2
  have HB : Aside0 (Below w.heap.size w ((w.alloc (.cells #[.slice A s.length c] 26)).alloc (.cells (nums .u8 d).toArray 60))) := ⟨((Below.refl _ _).alloc (Nat.le_refl _) _).alloc (by simp) _⟩
  have BD : Aside0 (((w.alloc (.cells #[.slice A s.length c] 26)).alloc (.cells (nums .u8 d).toArray 60)).heap[w.heap.size + 1]? = some (.cells (nums .u8 d).toArray 60)) := ⟨by simpa using blk_new (w.alloc (.cells #[.slice A s.length c] 26)) (.cells (nums .u8 d).toArray 60)⟩
  generalize (w.alloc (.cells #[.slice A s.length c] 26)).alloc (.cells (nums .u8 d).toArray 60) = W at *
  go_loop [5, 11] (fun t i => ∃ (k : Nat) (a : Int), k ≤ s.length ∧ i = .int .i64 k ∧ t = .int .i64 a ∧ 0 ≤ a ∧ Aside0 (a + 1 ≤ 4 ^ k) ∧ Aside0 (hor a (s.drop k) (d.drop k) = hor 0 s d)) (fun _ i => s.length - (intOf i).toNat)
  case atStart => exact ⟨0, 0, by omega, rfl, rfl, by omega, ⟨by simp⟩, ⟨by simp⟩⟩
  case round =>
    obtain ⟨k, a, hk, rfl, rfl, g0, G1, G2⟩ := hrel
    by_cases hlt : k < s.length
    · obtain ⟨ad, e, _⟩ := Kd.at_int HR.out (k : Int) (by omega) (by omega)
      subst e
      have hx := rd_cell HR.out HB.out k (by omega)
      have hy := cell8 BD.out (i := k) (by have := HD.out; omega)
      obtain ⟨b0, b1, b2, b3, b4, b5, b6, b7⟩ := word_step HS.out hl (by have := HD.out; omega) HI.out hlt g0 G1.out
      have B6 := Aside0.mk b6
      have B7 := Aside0.mk b7
      clear b6 b7
      generalize rd s (k : Int) = q at *
      generalize rd d (k : Int) = x at *
      go_wp2
      go_round
      case rel => exact ⟨k + 1, a * q + x, by omega, by go_num, rfl, by omega, B6, ⟨B7.out.symm.trans G2.out⟩⟩
      case measure => simp [intOf]; omega
    · go_wp2
      go_ret
      refine ⟨?_, HB.out⟩
      have e := G2.out
      rw [List.drop_eq_nil_of_le (show s.length ≤ k by omega)] at e
      simp only [hor] at e
      exact congrArg (fun z => Ending.returned (Value.int .i64 z)) e
end Go.Proofs.Ytbhgnphdhkmliaa.P
