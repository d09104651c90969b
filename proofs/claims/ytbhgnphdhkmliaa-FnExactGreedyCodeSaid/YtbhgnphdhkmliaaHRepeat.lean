/- slices.Repeat of one number: so many of it. -/
import Derived.Shelf.Lay
import Derived.Shelf.Bits.Mul64
import Derived.Test.YtbhgnphdhkmliaaHThose0
import Derived.Lib.SliceRun
import Derived.Laws.IdiomCopy
import Derived.Laws.CopyOwn
import Derived.BigQuiet
set_option linter.unusedVariables false
set_option linter.unusedSimpArgs false
namespace Go.Proofs
open Go.Shelf
shelf_lay Lays.n212 Nm 212 at Try as Try.laysMul
theorem Try.bits_Mul (P : Nat) (h : P ≤ 1048576) (w : World) :
    Calls Try.prog 85 #[.int .u64 1, .int .u64 P] w fun e w' => e = .returned (.tuple #[.int .u64 0, .int .u64 P]) ∧ w' = w := by
  have := Any.bits_Mul Try.laysMul 1 P (by omega) (by omega) w
  have e1 : 1 * P / 18446744073709551616 = 0 := by omega
  have e2 : 1 * P % 18446744073709551616 = P := by omega
  rw [e1, e2] at this
  exact this
end Go.Proofs
namespace Go.Proofs.Ytbhgnphdhkmliaa.P
open Go.RowKit Go.Proofs.YtbhgnphdhkmliaaW.PrintWords Go.Proofs.YtbhgnphdhkmliaaW.PrintLast Go.Proofs.YtbhgnphdhkmliaaW.PrintMore CC

/-- k numbers x, the others 0. -/
def repRow (x : Int) (P k : Nat) : List Value := nums .i64 (List.replicate k x ++ List.replicate (P - k) 0)
theorem repRow_len (x : Int) {P k : Nat} (h : k ≤ P) : (repRow x P k).length = P := by simp [repRow, nums]; omega
theorem repRow_zero (x : Int) (P : Nat) : madeCells #[.int .i64 0] P = (repRow x P 0).toArray := by
  apply Array.ext'
  rw [toList_madeCells_one]
  simp [repRow, nums]
theorem repRow_get (x : Int) {P k j : Nat} (h : j < k) : (repRow x P k)[j]? = some (.int .i64 x) := by
  simp [repRow, nums, List.getElem?_append, h]
theorem repRow_step (x : Int) {P k m : Nat} (h : k + m ≤ P) : ((repRow x P k).toArray.toList.take k ++ nums .i64 (List.replicate m x) ++ (repRow x P k).toArray.toList.drop (k + m)).toArray = (repRow x P (k + m)).toArray := by
  congr 1
  unfold repRow nums
  simp only [List.map_append, List.map_replicate, List.toList_toArray]
  rw [List.take_append_of_le_length (by simp), List.take_of_length_le (by simp), List.drop_append, List.drop_eq_nil_of_le (by simp), List.nil_append, List.length_replicate, List.drop_replicate, List.replicate_append_replicate]
  congr 2
  omega

set_option maxHeartbeats 4000000 in
set_option maxRecDepth 100000 in
theorem repeat_calls (ga : Nat) (x : Int) (P : Nat) (w : World) (hx : w.cell? ⟨ga, 0, none⟩ = some (.int .i64 x)) (h1 : 1 ≤ P) (hP : P ≤ 1048576) :
    Calls Try.prog 68 #[.slice (some ⟨ga, 0, none⟩) 1 1, .int .i64 P] w
      fun e w' => ∃ g, e = .returned (.slice (some ⟨g, 0, none⟩) P P) ∧ w'.ownsRow w.heap.size 2 1 (.slice (some ⟨g, 0, none⟩) P P) P (nums .i64 (List.replicate P x)) ∧ Below w.heap.size w w' := by
  have hmk := print_make_int (P := Try.prog) 22 2 (.int .i64 0) 8 Try.underlying22 infoI rfl (by decide) (P : Int) (by omega) (by omega)
  rw [Int.toNat_natCast, repRow_zero x] at hmk
  have huI := Try.underlying22
  have hsz : (Try.prog.info? 2).map (·.size) = some 1 := by kernel_rfl
  have t1 : decide ((P : Int) < 0) = false := decide_eq_false (by omega)
  have t2 : decide ((9223372036854775807 : Int) < (P : Int)) = false := decide_eq_false (by omega)
  have w1 : IntKind.u64.wrap (P : Int) = P := by rw [IntKind.wrap_u64]; omega
  have w2 : IntKind.i64.wrap (P : Int) = P := by rw [IntKind.wrap_i64]; omega
  have hcp := run_copy_row (P := Try.prog) (w.alloc (.cells (repRow x P 0).toArray 2)) 22 22 3 2 w.heap.size 0 P P ⟨ga, 0, none⟩ 1 1 (repRow x P 0).toArray 2 (nums .i64 (List.replicate 1 x)) huI hsz (blk_new _ _) (by show 1 = min 1 P; omega) (fun j v hj => by
    cases j with
    | zero =>
      have e : some (Value.int .i64 x) = some v := hj
      rw [add_plain, ← e]
      exact keepS ((Below.refl w.heap.size w).alloc (Nat.le_refl _) _) ⟨hx, Below.refl _ _⟩ |>.1
    | succ j => simp [nums] at hj) (by show 0 + 1 ≤ (repRow x P 0).toArray.size; rw [List.size_toArray, repRow_len x (by omega)]; omega) (fun v hv => by simp only [nums, List.mem_map] at hv; obtain ⟨a, _, rfl⟩ := hv; rfl)
  rw [show (nums .i64 (List.replicate 1 x)).length = 1 from rfl, repRow_step x (by omega)] at hcp
  have HB := Aside0.mk ((Below.refl w.heap.size w).alloc (Nat.le_refl _) (.cells (repRow x P 0).toArray 2))
  have HK := Aside0.mk (blk_new w (.cells (repRow x P 0).toArray 2))
  have HG : Aside0 (w.heap.size ≤ w.heap.size) := ⟨Nat.le_refl _⟩
  go_enter Try.func68, Try.ntmps68
  go_wp2_with (first | (go_at_call 85; refine (Try.bits_Mul P hP _).mono ?_; rintro e w' ⟨rfl, hw⟩; rw [hw]; clear hw))
  have HK1 : Aside0 (((w.alloc (.cells (repRow x P 0).toArray 2)).setRow w.heap.size (repRow x P (0 + 1)).toArray).heap[w.heap.size]? = _) := ⟨setRow_heap _ _ _ _ _ _ HK.out⟩
  have HB1 := Aside0.mk (below_setRow HB.out (Nat.le_refl _) (repRow x P (0 + 1)).toArray)
  clear hcp hmk HB HK
  have HXX := Aside0.mk hx
  clear hx
  go_loopw [8] (fun v W => ∃ k : Nat, 1 ≤ k ∧ k ≤ P ∧ v = .int .i64 k ∧ Aside0 (W.heap[w.heap.size]? = some (.cells (repRow x P k).toArray 2 (0, 0))) ∧ Aside0 (Below w.heap.size w W)) (fun v _ => P - (intOf v).toNat)
  case atStart => exact ⟨1, by omega, by omega, rfl, HK1, HB1⟩
  case round =>
    clear HK1 HB1
    obtain ⟨k, hk1, hk, rfl, HK, HB⟩ := hrel
    by_cases hlt : k < P
    · have t3 : decide ((k : Int) < P) = true := decide_eq_true (by omega)
      have hk0 : (0 : Int) ≤ k := by omega
      have hk3 : (k : Int) ≤ P := by omega
      obtain ⟨m, hm⟩ : ∃ m : Nat, Nat.min k (P - k) = m := ⟨_, rfl⟩
      have hm2 : k + m ≤ P := by have : Nat.min k (P - k) ≤ P - k := Nat.min_le_right _ _; omega
      have hm3 : m ≤ k := by have : Nat.min k (P - k) ≤ k := Nat.min_le_left _ _; omega
      have hm4 : 1 ≤ m := by have : 1 ≤ Nat.min k (P - k) := Nat.le_min.2 ⟨hk1, by omega⟩; omega
      have hcp := run_copy_row (P := Try.prog) wr.drew 22 22 3 2 w.heap.size k (P - k) (P - k) ⟨w.heap.size, 0, none⟩ k P (repRow x P k).toArray 2 (nums .i64 (List.replicate m x)) huI hsz (blk_drew HK.out) (by rw [nums_length, List.length_replicate, ← hm]) (fun j v hj => by
        have hj2 : j < m := by have := (List.getElem?_eq_some_iff.1 hj).1; rw [nums_length, List.length_replicate] at this; exact this
        rw [add_plain, blk_cell (blk_drew HK.out) j, List.getElem?_toArray, repRow_get x (by omega)]
        simp only [nums, List.getElem?_map, List.getElem?_replicate, if_pos hj2, Option.map_some] at hj
        exact hj) (by rw [nums_length, List.length_replicate, List.size_toArray, repRow_len x hk]; exact hm2) (fun v hv => by simp only [nums, List.mem_map] at hv; obtain ⟨a, _, rfl⟩ := hv; rfl)
      rw [show (nums .i64 (List.replicate m x)).length = m from by rw [nums_length, List.length_replicate], repRow_step x hm2] at hcp
      have w3 : IntKind.i64.wrap ((k : Int) + m) = ((k + m : Nat) : Int) := by rw [IntKind.wrap_i64]; omega
      have HK2 : Aside0 ((wr.drew.setRow w.heap.size (repRow x P (k + m)).toArray).heap[w.heap.size]? = _) := ⟨setRow_heap _ _ _ _ _ _ (blk_drew HK.out)⟩
      have HB2 := Aside0.mk (below_setRow (below_drew HB.out) (Nat.le_refl _) (repRow x P (k + m)).toArray)
      clear HK HB hm
      go_wp2_with fail
      go_region_held3 (fun w' => True) (trivial) (fail)
      go_wp2
      go_roundw
      case rel => exact ⟨k + m, by omega, by omega, by go_num, HK2, HB2⟩
      case measure => simp [intOf]; omega
    · have t3 : decide ((k : Int) < P) = false := decide_eq_false (by omega)
      have hk2 : k = P := by omega
      subst hk2
      go_wp2
      go_ret
      have hcs := HK.out
      have e : repRow x k k = nums .i64 (List.replicate k x) := by unfold repRow; rw [Nat.sub_self, List.replicate_zero, List.append_nil]
      refine ⟨w.heap.size, rfl, ⟨by rw [nums_length, List.length_replicate, Nat.mul_one], .inr ⟨w.heap.size, k, (repRow x k k).toArray, rfl, Nat.le_refl _, hcs, Nat.le_refl _, by unfold maxLen; omega, ?_, ?_⟩⟩, HB.out⟩
      · rw [List.size_toArray, repRow_len x (Nat.le_refl _), Nat.mul_one]
      · rw [e]
        exact List.take_of_length_le (by simp [nums])
end Go.Proofs.Ytbhgnphdhkmliaa.P
