/- Digits with the places in an order: what the program's ordered returns. -/
import Derived.Test.YtbhgnphdhkmliaaHUpd
set_option linter.unusedVariables false
set_option linter.unusedSimpArgs false
namespace Go.Proofs.Ytbhgnphdhkmliaa.P
open Go.RowKit Go.Proofs.YtbhgnphdhkmliaaW.PrintWords Go.Proofs.YtbhgnphdhkmliaaW.PrintLast Go.Proofs.YtbhgnphdhkmliaaW.PrintMore CC

/-- Digits with the first n places put where an order says. -/
def ordD (e p : List Int) : Nat → List Int
  | 0 => List.replicate 8 0
  | n + 1 => (ordD e p n).set (rd p (n : Int)).toNat (rd e (n : Int))
theorem ordD_length (e p : List Int) : ∀ n, (ordD e p n).length = 8
  | 0 => rfl
  | n + 1 => by rw [ordD, List.length_set, ordD_length e p n]

set_option maxHeartbeats 4000000 in
set_option maxRecDepth 100000 in
theorem ordered_calls (d p : List Int) (hd : d.length = 8) (A : Option Addr) (c : Nat) (w : World) (hr : Kd.C (Kd.int .i64) w A p.length p) (hc : p.length ≤ c) (hpl : p.length ≤ 8) (hp : ∀ j : Nat, j < p.length → 0 ≤ rd p (j : Int) ∧ rd p (j : Int) < 8) :
    Calls Try.prog 55 #[arr8 d, .slice A p.length c] w
      fun x w' => x = .returned (arr8 (ordD d p p.length)) ∧ Below w.heap.size w w' := by
  have huD := Try.underlying60
  have HR := Aside0.mk hr
  have HD := Aside0.mk hd
  have HP := Aside0.mk hp
  clear hr hd hp
  obtain ⟨R, hR⟩ : ∃ R, R = ordD d p p.length := ⟨_, rfl⟩
  have HX := Aside0.mk hR
  have hRl : R.length = 8 := by rw [hR, ordD_length]
  rw [← hR]
  clear hR
  unfold arr8
  go_enter Try.func55, Try.ntmps55
  go_wp2
  have HB : Aside0 (Below w.heap.size w (((w.alloc (.cells (nums .u8 d).toArray 60)).alloc (.cells #[.int .u8 0, .int .u8 0, .int .u8 0, .int .u8 0, .int .u8 0, .int .u8 0, .int .u8 0, .int .u8 0] 60)).alloc (.cells #[.int .u8 0, .int .u8 0, .int .u8 0, .int .u8 0, .int .u8 0, .int .u8 0, .int .u8 0, .int .u8 0] 60))) := ⟨below_alloc (below_alloc ((Below.refl _ _).alloc (Nat.le_refl _) _) _) _⟩
  have z8 : (.cells #[.int .u8 0, .int .u8 0, .int .u8 0, .int .u8 0, .int .u8 0, .int .u8 0, .int .u8 0, .int .u8 0] 60 : Obj) = .cells (nums .u8 (List.replicate 8 0)).toArray 60 := rfl
  have b1 : (((w.alloc (.cells (nums .u8 d).toArray 60)).alloc (.cells #[.int .u8 0, .int .u8 0, .int .u8 0, .int .u8 0, .int .u8 0, .int .u8 0, .int .u8 0, .int .u8 0] 60)).alloc (.cells #[.int .u8 0, .int .u8 0, .int .u8 0, .int .u8 0, .int .u8 0, .int .u8 0, .int .u8 0, .int .u8 0] 60)).heap[w.heap.size]? = some (.cells (nums .u8 d).toArray 60 (0, 0)) := blk_alloc (blk_alloc (blk_new _ _) _) _
  have b2 : (((w.alloc (.cells (nums .u8 d).toArray 60)).alloc (.cells #[.int .u8 0, .int .u8 0, .int .u8 0, .int .u8 0, .int .u8 0, .int .u8 0, .int .u8 0, .int .u8 0] 60)).alloc (.cells #[.int .u8 0, .int .u8 0, .int .u8 0, .int .u8 0, .int .u8 0, .int .u8 0, .int .u8 0, .int .u8 0] 60)).heap[w.heap.size + 1]? = some (.cells (nums .u8 (List.replicate 8 0)).toArray 60 (0, 0)) := blk_alloc (by have h := blk_new (w.alloc (.cells (nums .u8 d).toArray 60)) (.cells #[.int .u8 0, .int .u8 0, .int .u8 0, .int .u8 0, .int .u8 0, .int .u8 0, .int .u8 0, .int .u8 0] 60); rwa [World.size_alloc] at h) _
  have b3 : (((w.alloc (.cells (nums .u8 d).toArray 60)).alloc (.cells #[.int .u8 0, .int .u8 0, .int .u8 0, .int .u8 0, .int .u8 0, .int .u8 0, .int .u8 0, .int .u8 0] 60)).alloc (.cells #[.int .u8 0, .int .u8 0, .int .u8 0, .int .u8 0, .int .u8 0, .int .u8 0, .int .u8 0, .int .u8 0] 60)).heap[w.heap.size + 1 + 1]? = some (.cells (nums .u8 (List.replicate 8 0)).toArray 60 (0, 0)) := by have h := blk_new ((w.alloc (.cells (nums .u8 d).toArray 60)).alloc (.cells #[.int .u8 0, .int .u8 0, .int .u8 0, .int .u8 0, .int .u8 0, .int .u8 0, .int .u8 0, .int .u8 0] 60)) (.cells #[.int .u8 0, .int .u8 0, .int .u8 0, .int .u8 0, .int .u8 0, .int .u8 0, .int .u8 0, .int .u8 0] 60); rwa [World.size_alloc, World.size_alloc] at h
  have B1 := Aside0.mk b1
  have B2 := Aside0.mk b2
  have B3 := Aside0.mk b3
  clear b1 b2 b3 z8
  generalize (((w.alloc (.cells (nums .u8 d).toArray 60)).alloc (.cells #[.int .u8 0, .int .u8 0, .int .u8 0, .int .u8 0, .int .u8 0, .int .u8 0, .int .u8 0, .int .u8 0] 60)).alloc (.cells #[.int .u8 0, .int .u8 0, .int .u8 0, .int .u8 0, .int .u8 0, .int .u8 0, .int .u8 0, .int .u8 0] 60)) = W0 at *
  go_loopw [11] (fun i W => ∃ (n : Nat), n ≤ p.length ∧ i = .int .i64 n ∧ Aside0 (W.heap[w.heap.size]? = some (.cells (nums .u8 d).toArray 60 (0, 0))) ∧ Aside0 (W.heap[w.heap.size + 1]? = some (.cells (nums .u8 (List.replicate 8 0)).toArray 60 (0, 0))) ∧
      Aside0 (W.heap[w.heap.size + 1 + 1]? = some (.cells (nums .u8 (ordD d p n)).toArray 60 (0, 0))) ∧ Aside0 (Below w.heap.size w W)) (fun i _ => p.length - (intOf i).toNat)
  case atStart => exact ⟨0, by omega, rfl, B1, B2, B3, HB⟩
  case round =>
    clear B1 B2 B3 HB
    obtain ⟨n, hn, rfl, B1, B2, B3, HB⟩ := hrel
    by_cases hlt : n < p.length
    · obtain ⟨ad, e, _⟩ := Kd.at_int HR.out (n : Int) (by omega) (by omega)
      subst e
      have hx := rd_cell HR.out HB.out n (by omega)
      have hy := cell8 B1.out (i := n) (by have := HD.out; omega)
      obtain ⟨p0, p1⟩ := HP.out n hlt
      obtain ⟨y, hye⟩ : ∃ y : Nat, rd p (n : Int) = (y : Int) := ⟨(rd p (n : Int)).toNat, by omega⟩
      rw [hye] at hx p0 p1
      have HY : Aside0 (ordD d p (n + 1) = (ordD d p n).set y (rd d (n : Int))) := ⟨by rw [ordD, hye, Int.toNat_natCast]⟩
      have hz := cell8 B3.out (i := y) (by rw [ordD_length]; omega)
      have hfz := blk_frozen B3.out y
      have hy8 : (n : Int) < 8 := by omega
      clear hye
      obtain ⟨z, hzz⟩ : ∃ z, z = rd d (n : Int) := ⟨_, rfl⟩
      have HZ := Aside0.mk hzz
      rw [← hzz] at hy
      clear hzz
      go_wp2
      go_roundw
      case rel =>
        refine ⟨n + 1, by omega, by go_num, ⟨blk_far B1.out (by simp; omega) _⟩, ⟨blk_far B2.out (by simp) _⟩, ⟨?_⟩, ⟨below_set HB.out (by omega)⟩⟩
        have h8 := blk_set8 B3.out y z
        rw [HY.out, ← HZ.out]
        exact h8
      case measure => simp [intOf]; omega
    · have hn : n = p.length := by omega
      subst hn
      have B3 := Aside0.mk B3.out
      rw [← HX.out] at B3
      obtain ⟨y0, y1, y2, y3, y4, y5, y6, y7, rfl⟩ := eight (l := R) hRl
      have k0 : wr.cell? ⟨w.heap.size + 1 + 1, 0, none⟩ = some (.int .u8 y0) := blk_cell B3.out 0
      have k1 : wr.cell? ⟨w.heap.size + 1 + 1, 1, none⟩ = some (.int .u8 y1) := blk_cell B3.out 1
      have k2 : wr.cell? ⟨w.heap.size + 1 + 1, 2, none⟩ = some (.int .u8 y2) := blk_cell B3.out 2
      have k3 : wr.cell? ⟨w.heap.size + 1 + 1, 3, none⟩ = some (.int .u8 y3) := blk_cell B3.out 3
      have k4 : wr.cell? ⟨w.heap.size + 1 + 1, 4, none⟩ = some (.int .u8 y4) := blk_cell B3.out 4
      have k5 : wr.cell? ⟨w.heap.size + 1 + 1, 5, none⟩ = some (.int .u8 y5) := blk_cell B3.out 5
      have k6 : wr.cell? ⟨w.heap.size + 1 + 1, 6, none⟩ = some (.int .u8 y6) := blk_cell B3.out 6
      have k7 : wr.cell? ⟨w.heap.size + 1 + 1, 7, none⟩ = some (.int .u8 y7) := blk_cell B3.out 7
      have q0 : wr.cell? ⟨w.heap.size + 1, 0, none⟩ = some (.int .u8 0) := blk_cell B2.out 0
      have q1 : wr.cell? ⟨w.heap.size + 1, 1, none⟩ = some (.int .u8 0) := blk_cell B2.out 1
      have q2 : wr.cell? ⟨w.heap.size + 1, 2, none⟩ = some (.int .u8 0) := blk_cell B2.out 2
      have q3 : wr.cell? ⟨w.heap.size + 1, 3, none⟩ = some (.int .u8 0) := blk_cell B2.out 3
      have q4 : wr.cell? ⟨w.heap.size + 1, 4, none⟩ = some (.int .u8 0) := blk_cell B2.out 4
      have q5 : wr.cell? ⟨w.heap.size + 1, 5, none⟩ = some (.int .u8 0) := blk_cell B2.out 5
      have q6 : wr.cell? ⟨w.heap.size + 1, 6, none⟩ = some (.int .u8 0) := blk_cell B2.out 6
      have q7 : wr.cell? ⟨w.heap.size + 1, 7, none⟩ = some (.int .u8 0) := blk_cell B2.out 7
      have hf := fun i => blk_frozen B2.out i
      go_wp2
      refine bodyPost_ret (v := .agg #[.int .u8 y0, .int .u8 y1, .int .u8 y2, .int .u8 y3, .int .u8 y4, .int .u8 y5, .int .u8 y6, .int .u8 y7]) (by simp [results, Try.results55, go_sem, q0, q1, q2, q3, q4, q5, q6, q7]) rfl ⟨rfl, ?_⟩
      repeat (refine below_set ?_ (by omega))
      exact HB.out
end Go.Proofs.Ytbhgnphdhkmliaa.P
