/- Digits without a place: what the program's without returns. -/
import Derived.Test.YtbhgnphdhkmliaaHUpd
import Derived.Test.YtbhgnphdhkmliaaHDig
import Derived.Test.YtbhgnphdhkmliaaQBase
import Derived.Laws.CopyOwn
import Derived.BigQuiet
import Derived.IntWalk
set_option linter.unusedVariables false
set_option linter.unusedSimpArgs false
namespace Go.Proofs.Ytbhgnphdhkmliaa.P
open Go.RowKit Go.Proofs.YtbhgnphdhkmliaaW.PrintWords Go.Proofs.YtbhgnphdhkmliaaW.PrintLast Go.Proofs.YtbhgnphdhkmliaaW.PrintMore CC

set_option maxHeartbeats 3000000 in
set_option maxRecDepth 100000 in
theorem without_calls (e : List Int) (he : e.length = 8) (n : Nat) (hn : n < 8) (w : World) :
    Calls Try.prog 62 #[arr8 e, .int .i64 (n : Int)] w
      fun x w' => x = .returned (arr8 (e.eraseIdx n ++ [0])) ∧ Below w.heap.size w w' := by
  have huD := Try.underlying60
  have huB := Try.underlying89
  have E8 := Aside0.mk he
  obtain ⟨y0, y1, y2, y3, y4, y5, y6, y7, hy⟩ := eight he
  have ea : arr8 e = .agg #[.int .u8 y0, .int .u8 y1, .int .u8 y2, .int .u8 y3, .int .u8 y4, .int .u8 y5, .int .u8 y6, .int .u8 y7] := by rw [hy]; rfl
  have HY := Aside0.mk hy
  rw [ea]
  clear ea he hy
  go_enter Try.func62, Try.ntmps62
  go_wp2_with fail
  have ey : (#[.int .u8 y0, .int .u8 y1, .int .u8 y2, .int .u8 y3, .int .u8 y4, .int .u8 y5, .int .u8 y6, .int .u8 y7] : Array Value) = (nums .u8 e).toArray := by rw [HY.out]; rfl
  have K0 : Aside0 ((((w.alloc (.cells #[.int .u8 y0, .int .u8 y1, .int .u8 y2, .int .u8 y3, .int .u8 y4, .int .u8 y5, .int .u8 y6, .int .u8 y7] 60)).alloc (.cells #[.int .u8 0, .int .u8 0, .int .u8 0, .int .u8 0, .int .u8 0, .int .u8 0, .int .u8 0, .int .u8 0] 60)).alloc (.cells #[.int .u8 0, .int .u8 0, .int .u8 0, .int .u8 0, .int .u8 0, .int .u8 0, .int .u8 0, .int .u8 0] 60)).heap[w.heap.size]? = some (.cells (nums .u8 e).toArray 60 (0, 0))) := ⟨by rw [← ey]; exact blk_alloc (blk_alloc (blk_new _ _) _) _⟩
  have K1 : Aside0 ((((w.alloc (.cells #[.int .u8 y0, .int .u8 y1, .int .u8 y2, .int .u8 y3, .int .u8 y4, .int .u8 y5, .int .u8 y6, .int .u8 y7] 60)).alloc (.cells #[.int .u8 0, .int .u8 0, .int .u8 0, .int .u8 0, .int .u8 0, .int .u8 0, .int .u8 0, .int .u8 0] 60)).alloc (.cells #[.int .u8 0, .int .u8 0, .int .u8 0, .int .u8 0, .int .u8 0, .int .u8 0, .int .u8 0, .int .u8 0] 60)).heap[w.heap.size + 1]? = some (.cells (nums .u8 (List.replicate 8 0)).toArray 60 (0, 0))) := ⟨blk_alloc (by have h := blk_new (w.alloc (.cells #[.int .u8 y0, .int .u8 y1, .int .u8 y2, .int .u8 y3, .int .u8 y4, .int .u8 y5, .int .u8 y6, .int .u8 y7] 60)) (.cells #[.int .u8 0, .int .u8 0, .int .u8 0, .int .u8 0, .int .u8 0, .int .u8 0, .int .u8 0, .int .u8 0] 60); rwa [World.size_alloc] at h) _⟩
  have K2 : Aside0 ((((w.alloc (.cells #[.int .u8 y0, .int .u8 y1, .int .u8 y2, .int .u8 y3, .int .u8 y4, .int .u8 y5, .int .u8 y6, .int .u8 y7] 60)).alloc (.cells #[.int .u8 0, .int .u8 0, .int .u8 0, .int .u8 0, .int .u8 0, .int .u8 0, .int .u8 0, .int .u8 0] 60)).alloc (.cells #[.int .u8 0, .int .u8 0, .int .u8 0, .int .u8 0, .int .u8 0, .int .u8 0, .int .u8 0, .int .u8 0] 60)).heap[w.heap.size + 1 + 1]? = some (.cells (nums .u8 (List.replicate 8 0)).toArray 60 (0, 0))) := ⟨by have h := blk_new ((w.alloc (.cells #[.int .u8 y0, .int .u8 y1, .int .u8 y2, .int .u8 y3, .int .u8 y4, .int .u8 y5, .int .u8 y6, .int .u8 y7] 60)).alloc (.cells #[.int .u8 0, .int .u8 0, .int .u8 0, .int .u8 0, .int .u8 0, .int .u8 0, .int .u8 0, .int .u8 0] 60)) (.cells #[.int .u8 0, .int .u8 0, .int .u8 0, .int .u8 0, .int .u8 0, .int .u8 0, .int .u8 0, .int .u8 0] 60); rwa [World.size_alloc, World.size_alloc] at h⟩
  have HB : Aside0 (Below w.heap.size w (((w.alloc (.cells #[.int .u8 y0, .int .u8 y1, .int .u8 y2, .int .u8 y3, .int .u8 y4, .int .u8 y5, .int .u8 y6, .int .u8 y7] 60)).alloc (.cells #[.int .u8 0, .int .u8 0, .int .u8 0, .int .u8 0, .int .u8 0, .int .u8 0, .int .u8 0, .int .u8 0] 60)).alloc (.cells #[.int .u8 0, .int .u8 0, .int .u8 0, .int .u8 0, .int .u8 0, .int .u8 0, .int .u8 0, .int .u8 0] 60))) := ⟨below_alloc (below_alloc ((Below.refl _ _).alloc (Nat.le_refl _) _) _) _⟩
  clear ey
  generalize (((w.alloc (.cells #[.int .u8 y0, .int .u8 y1, .int .u8 y2, .int .u8 y3, .int .u8 y4, .int .u8 y5, .int .u8 y6, .int .u8 y7] 60)).alloc (.cells #[.int .u8 0, .int .u8 0, .int .u8 0, .int .u8 0, .int .u8 0, .int .u8 0, .int .u8 0, .int .u8 0] 60)).alloc (.cells #[.int .u8 0, .int .u8 0, .int .u8 0, .int .u8 0, .int .u8 0, .int .u8 0, .int .u8 0, .int .u8 0] 60)) = W at *
  obtain ⟨gd, hgd⟩ : ∃ gd, gd = w.heap.size := ⟨_, rfl⟩
  have HG := Aside0.mk hgd
  rw [← hgd] at K0 K1 K2 ⊢
  clear hgd
  have hsz : (Try.prog.info? 5).map (·.size) = some 1 := by kernel_rfl
  have hn8 : (n : Int) ≤ 8 := by omega
  have hcp := run_copy_row (P := Try.prog) W.drew 89 89 3 5 (gd + 1 + 1) 0 8 8 ⟨gd, 0, none⟩ n 8 (nums .u8 (List.replicate 8 0)).toArray 60 (nums .u8 (e.take n)) huB hsz (blk_drew K2.out) (by have := E8.out; rw [nums_length, List.length_take]; show min n e.length = min n 8; omega) (fun j v hj => by rw [add_plain, blk_cell (blk_drew K0.out) j]; simp only [nums, List.getElem?_map, List.getElem?_take] at hj ⊢; split at hj <;> simp_all) (by have := E8.out; simp [nums]; omega) (fun v hv => by simp only [nums, List.mem_map] at hv; obtain ⟨a, _, rfl⟩ := hv; rfl)
  have hl1 : (nums .u8 (e.take n)).length = n := by have := E8.out; simp [nums]; omega
  rw [hl1] at hcp
  have HL1 := Aside0.mk hl1
  clear hl1
  generalize hX : (List.take 0 (nums .u8 (List.replicate 8 0)).toArray.toList ++ nums .u8 (e.take n) ++ List.drop (0 + n) (nums .u8 (List.replicate 8 0)).toArray.toList).toArray = X at *
  have HX := Aside0.mk hX
  clear hX
  go_region_held3 (fun w' => True) (trivial) (fail)
  have L0 : Aside0 ((W.drew.setRow (gd + 1 + 1) X).heap[gd]? = _) := ⟨(setRow_other _ _ gd _ (by omega)).trans (blk_drew K0.out)⟩
  have L1 : Aside0 ((W.drew.setRow (gd + 1 + 1) X).heap[gd + 1]? = _) := ⟨(setRow_other _ _ (gd + 1) _ (by omega)).trans (blk_drew K1.out)⟩
  have L2 : Aside0 ((W.drew.setRow (gd + 1 + 1) X).heap[gd + 1 + 1]? = _) := ⟨setRow_heap _ _ _ X _ _ (blk_drew K2.out)⟩
  have HB2 : Aside0 (Below w.heap.size w (W.drew.setRow (gd + 1 + 1) X)) := ⟨below_setRow (below_drew HB.out) (by have := HG.out; omega) _⟩
  clear hcp K0 K1 K2 HB
  generalize W.drew.setRow (gd + 1 + 1) X = W2 at *
  by_cases h7 : n = 7
  · subst h7
    have hcp := run_copy_none (P := Try.prog) W2.drew 89 89 3 5 (some ⟨gd + 1 + 1, 7, none⟩) (some ⟨gd, 0, none⟩) 1 1 0 0 huB hsz (by rfl)
    have ew : IntKind.i64.wrap 8 = 8 := by rfl
    go_wp2_with fail
    go_region_held3 (fun w' => True) (trivial) (fail)
    have M2 : Aside0 (W2.drew.heap[gd + 1 + 1]? = some (.cells (nums .u8 (e.eraseIdx 7 ++ [0])).toArray 60 (0, 0))) := ⟨by
      have := blk_drew L2.out
      rw [this, ← HX.out, HY.out]
      rfl⟩
    have M1 := Aside0.mk (blk_drew L1.out)
    have HB3 := Aside0.mk (below_drew HB2.out)
    clear hcp L0 L1 L2 HB2
    generalize W2.drew = W3 at *
    have H9 : (e.eraseIdx 7 ++ [0]).length = 8 := by rw [List.length_append, List.length_eraseIdx_of_lt (by rw [E8.out]; omega), E8.out]; rfl
    obtain ⟨z0, z1, z2, z3, z4, z5, z6, z7, hz⟩ := eight H9
    have HZ := Aside0.mk hz
    clear H9 hz
    have hK := M2.out
    rw [HZ.out] at hK
    have k0 : W3.cell? ⟨gd + 1 + 1, 0, none⟩ = some (.int .u8 z0) := blk_cell hK 0
    have k1 : W3.cell? ⟨gd + 1 + 1, 1, none⟩ = some (.int .u8 z1) := blk_cell hK 1
    have k2 : W3.cell? ⟨gd + 1 + 1, 2, none⟩ = some (.int .u8 z2) := blk_cell hK 2
    have k3 : W3.cell? ⟨gd + 1 + 1, 3, none⟩ = some (.int .u8 z3) := blk_cell hK 3
    have k4 : W3.cell? ⟨gd + 1 + 1, 4, none⟩ = some (.int .u8 z4) := blk_cell hK 4
    have k5 : W3.cell? ⟨gd + 1 + 1, 5, none⟩ = some (.int .u8 z5) := blk_cell hK 5
    have k6 : W3.cell? ⟨gd + 1 + 1, 6, none⟩ = some (.int .u8 z6) := blk_cell hK 6
    have k7 : W3.cell? ⟨gd + 1 + 1, 7, none⟩ = some (.int .u8 z7) := blk_cell hK 7
    have q0 : W3.cell? ⟨gd + 1, 0, none⟩ = some (.int .u8 0) := blk_cell M1.out 0
    have q1 : W3.cell? ⟨gd + 1, 1, none⟩ = some (.int .u8 0) := blk_cell M1.out 1
    have q2 : W3.cell? ⟨gd + 1, 2, none⟩ = some (.int .u8 0) := blk_cell M1.out 2
    have q3 : W3.cell? ⟨gd + 1, 3, none⟩ = some (.int .u8 0) := blk_cell M1.out 3
    have q4 : W3.cell? ⟨gd + 1, 4, none⟩ = some (.int .u8 0) := blk_cell M1.out 4
    have q5 : W3.cell? ⟨gd + 1, 5, none⟩ = some (.int .u8 0) := blk_cell M1.out 5
    have q6 : W3.cell? ⟨gd + 1, 6, none⟩ = some (.int .u8 0) := blk_cell M1.out 6
    have q7 : W3.cell? ⟨gd + 1, 7, none⟩ = some (.int .u8 0) := blk_cell M1.out 7
    have hf := fun i => blk_frozen M1.out i
    have hBg : w.heap.size ≤ gd + 1 := by have := HG.out; omega
    clear hK M2 M1
    go_wp2
    refine bodyPost_ret (v := .agg #[.int .u8 z0, .int .u8 z1, .int .u8 z2, .int .u8 z3, .int .u8 z4, .int .u8 z5, .int .u8 z6, .int .u8 z7]) (by simp [results, Try.results62, go_sem, q0, q1, q2, q3, q4, q5, q6, q7]) rfl ⟨?_, ?_⟩
    · rw [HZ.out]
      rfl
    · repeat (refine below_set ?_ hBg)
      exact HB3.out
  · have hn7 : (n : Int) + 1 < 8 := by omega
    have ew : IntKind.i64.wrap ((n : Int) + 1) = (n : Int) + 1 := IntWalk.i64_in _ (by omega)
    have h0 : 0 ≤ (n : Int) + 1 := by omega
    have h8 : (n : Int) + 1 ≤ 8 := by omega
    have h8n : n + 1 ≤ 8 := by omega
    have et : ((n : Int) + 1).toNat = n + 1 := by omega
    have hXs : X.size = 8 := by rw [← HX.out]; have := HL1.out; simp [nums] at this ⊢; omega
    have hl2 : (nums .u8 (e.drop (n + 1))).length = 7 - n := by have := E8.out; rw [nums_length, List.length_drop]; omega
    have hcp := run_copy_row (P := Try.prog) W2.drew 89 89 3 5 (gd + 1 + 1) n (8 - n) (8 - n) ⟨gd, n + 1, none⟩ (7 - n) (7 - n) X 60 (nums .u8 (e.drop (n + 1))) huB hsz (blk_drew L2.out) (by rw [hl2]; show _ = min (7 - n) (8 - n); omega) (fun j v hj => by
      rw [show ((⟨gd, n + 1, none⟩ : Addr).add j) = ⟨gd, n + 1 + j, none⟩ from by unfold Addr.add; split <;> simp_all, blk_cell (blk_drew L0.out) (n + 1 + j)]
      simpa only [nums, List.getElem?_map, List.getElem?_drop, List.getElem?_toArray] using hj) (by rw [hl2, hXs]; omega) (fun v hv => by simp only [nums, List.mem_map] at hv; obtain ⟨a, _, rfl⟩ := hv; rfl)
    rw [hl2] at hcp
    have HXF : Aside0 ((X.toList.take n ++ nums .u8 (e.drop (n + 1)) ++ X.toList.drop (n + (7 - n))).toArray = (nums .u8 (e.eraseIdx n ++ [0])).toArray) := ⟨by
      rw [← HX.out, HY.out]
      rcases (show n = 0 ∨ n = 1 ∨ n = 2 ∨ n = 3 ∨ n = 4 ∨ n = 5 ∨ n = 6 by omega) with rfl | rfl | rfl | rfl | rfl | rfl | rfl <;> rfl⟩
    clear hXs hl2
    generalize (X.toList.take n ++ nums .u8 (e.drop (n + 1)) ++ X.toList.drop (n + (7 - n))).toArray = X2 at *
    go_wp2_with fail
    go_region_held3 (fun w' => True) (trivial) (fail)
    have M2 : Aside0 ((W2.drew.setRow (gd + 1 + 1) X2).heap[gd + 1 + 1]? = some (.cells (nums .u8 (e.eraseIdx n ++ [0])).toArray 60 (0, 0))) := ⟨by
      rw [← HXF.out]
      exact setRow_heap _ _ _ X2 _ _ (blk_drew L2.out)⟩
    have M1 : Aside0 ((W2.drew.setRow (gd + 1 + 1) X2).heap[gd + 1]? = _) := ⟨(setRow_other _ _ (gd + 1) _ (by omega)).trans (blk_drew L1.out)⟩
    have HB3 : Aside0 (Below w.heap.size w (W2.drew.setRow (gd + 1 + 1) X2)) := ⟨below_setRow (below_drew HB2.out) (by have := HG.out; omega) _⟩
    clear hcp L0 L1 L2 HB2 ew et
    generalize W2.drew.setRow (gd + 1 + 1) X2 = W3 at *
    have H9 : (e.eraseIdx n ++ [0]).length = 8 := by rw [List.length_append, List.length_eraseIdx_of_lt (by rw [E8.out]; omega), E8.out]; rfl
    obtain ⟨z0, z1, z2, z3, z4, z5, z6, z7, hz⟩ := eight H9
    have HZ := Aside0.mk hz
    clear H9 hz
    have hK := M2.out
    rw [HZ.out] at hK
    have k0 : W3.cell? ⟨gd + 1 + 1, 0, none⟩ = some (.int .u8 z0) := blk_cell hK 0
    have k1 : W3.cell? ⟨gd + 1 + 1, 1, none⟩ = some (.int .u8 z1) := blk_cell hK 1
    have k2 : W3.cell? ⟨gd + 1 + 1, 2, none⟩ = some (.int .u8 z2) := blk_cell hK 2
    have k3 : W3.cell? ⟨gd + 1 + 1, 3, none⟩ = some (.int .u8 z3) := blk_cell hK 3
    have k4 : W3.cell? ⟨gd + 1 + 1, 4, none⟩ = some (.int .u8 z4) := blk_cell hK 4
    have k5 : W3.cell? ⟨gd + 1 + 1, 5, none⟩ = some (.int .u8 z5) := blk_cell hK 5
    have k6 : W3.cell? ⟨gd + 1 + 1, 6, none⟩ = some (.int .u8 z6) := blk_cell hK 6
    have k7 : W3.cell? ⟨gd + 1 + 1, 7, none⟩ = some (.int .u8 z7) := blk_cell hK 7
    have q0 : W3.cell? ⟨gd + 1, 0, none⟩ = some (.int .u8 0) := blk_cell M1.out 0
    have q1 : W3.cell? ⟨gd + 1, 1, none⟩ = some (.int .u8 0) := blk_cell M1.out 1
    have q2 : W3.cell? ⟨gd + 1, 2, none⟩ = some (.int .u8 0) := blk_cell M1.out 2
    have q3 : W3.cell? ⟨gd + 1, 3, none⟩ = some (.int .u8 0) := blk_cell M1.out 3
    have q4 : W3.cell? ⟨gd + 1, 4, none⟩ = some (.int .u8 0) := blk_cell M1.out 4
    have q5 : W3.cell? ⟨gd + 1, 5, none⟩ = some (.int .u8 0) := blk_cell M1.out 5
    have q6 : W3.cell? ⟨gd + 1, 6, none⟩ = some (.int .u8 0) := blk_cell M1.out 6
    have q7 : W3.cell? ⟨gd + 1, 7, none⟩ = some (.int .u8 0) := blk_cell M1.out 7
    have hf := fun i => blk_frozen M1.out i
    have hBg : w.heap.size ≤ gd + 1 := by have := HG.out; omega
    clear hK M2 M1
    go_wp2
    refine bodyPost_ret (v := .agg #[.int .u8 z0, .int .u8 z1, .int .u8 z2, .int .u8 z3, .int .u8 z4, .int .u8 z5, .int .u8 z6, .int .u8 z7]) (by simp [results, Try.results62, go_sem, q0, q1, q2, q3, q4, q5, q6, q7]) rfl ⟨?_, ?_⟩
    · rw [HZ.out]
      rfl
    · repeat (refine below_set ?_ hBg)
      exact HB3.out
end Go.Proofs.Ytbhgnphdhkmliaa.P
