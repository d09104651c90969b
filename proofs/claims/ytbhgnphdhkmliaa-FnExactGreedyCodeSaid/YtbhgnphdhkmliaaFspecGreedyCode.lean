/- Walks of Go functions, printed for this seat by this session's driver with the kit's print program: each says that a call returns what the plain Lean function beside it says. -/
import Derived.Test.YtbhgnphdhkmliaaF0
import Derived.Test.YtbhgnphdhkmliaaWTab
import Derived.Test.YtbhgnphdhkmliaaFBase
import Derived.Test.YtbhgnphdhkmliaaFCode
import Derived.Test.YtbhgnphdhkmliaaFspecl01Ball
import Derived.Test.YtbhgnphdhkmliaaFspecl01Size
namespace Go.Proofs.Ytbhgnphdhkmliaa.P
open Go.RowKit Go.Proofs.YtbhgnphdhkmliaaW.PrintWords Go.Proofs.YtbhgnphdhkmliaaW.PrintLast Go.Proofs.YtbhgnphdhkmliaaW.PrintMore
attribute [local go_sem] max2_int min2_int max_two min_two max_three min_three max_four min_four
set_option linter.unusedVariables false
set_option linter.unusedSimpArgs false

/-! ### spec_GreedyCode: function 26 -/
mutual
def spec_GreedyCode.l0 : Nat → Int → Int → List Int → List Bool → List Int → Int → List Int → Option (List Int × Int)
  | 0, _, _, _, _, _, _, _ => none
  | k + 1, x1, x6, x7, x8, x9, x10, x102000 => if x10 < x6 then (if 0 ≤ x10 then (if x10 < (x8.length : Int) then ((spec_l01Size.f k x102000 x1).bind fun t115 => (if x10 < (x9.length : Int) then (spec_GreedyCode.l0 k x1 x6 x7 (x8.set (x10 : Int).toNat true) (x9.set (x10 : Int).toNat t115) (wrap64 (x10 + 1)) x102000) else (none))) else (none)) else (none)) else (spec_GreedyCode.l1 k x1 x6 x7 x8 x9 x102000)
def spec_GreedyCode.l1 : Nat → Int → Int → List Int → List Bool → List Int → List Int → Option (List Int × Int)
  | 0, _, _, _, _, _, _ => none
  | k + 1, x1, x6, x7, x8, x9, x102000 => spec_GreedyCode.l2 k x1 x6 x7 x8 x9 0 1 x102000
def spec_GreedyCode.l2 : Nat → Int → Int → List Int → List Bool → List Int → Int → Int → List Int → Option (List Int × Int)
  | 0, _, _, _, _, _, _, _, _ => none
  | k + 1, x1, x6, x7, x8, x9, x11, x12, x102000 => if x12 < x6 then (if 0 ≤ x12 then (if x12 < (x9.length : Int) then (if 0 ≤ x11 then (if x11 < (x9.length : Int) then (if (rd x9 x12) > (rd x9 x11) then (spec_GreedyCode.l2 k x1 x6 x7 x8 x9 x12 (wrap64 (x12 + 1)) x102000) else (spec_GreedyCode.l2 k x1 x6 x7 x8 x9 x11 (wrap64 (x12 + 1)) x102000)) else (none)) else (none)) else (none)) else (none)) else (if 0 ≤ x11 then (if x11 < (x9.length : Int) then (if (rd x9 x11) = 0 then (some (x7, 0)) else ((spec_l01Put.f k x7 x11).bind fun t120 => ((spec_l01Ball.f k x102000 x11 x1).bind fun t123 => (spec_GreedyCode.l3 k x1 x6 t120 x8 x9 t123 0 x102000)))) else (none)) else (none))
def spec_GreedyCode.l3 : Nat → Int → Int → List Int → List Bool → List Int → List Int → Int → List Int → Option (List Int × Int)
  | 0, _, _, _, _, _, _, _, _ => none
  | k + 1, x1, x6, x7, x8, x9, x13, x14, x102000 => if x14 < (x13.length : Int) then (if 0 ≤ x14 then (if 0 ≤ (rd x13 x14) then (if (rd x13 x14) < (x8.length : Int) then (if (rdOf false x8 (rd x13 x14) = true) then ((spec_l01Ball.f k x102000 (rd x13 x14) x1).bind fun t131 => (spec_GreedyCode.l4 k x1 x6 x7 (x8.set ((rd x13 x14) : Int).toNat false) x9 x13 x14 t131 0 x102000)) else (spec_GreedyCode.l3 k x1 x6 x7 x8 x9 x13 (wrap64 (x14 + 1)) x102000)) else (none)) else (none)) else (none)) else (spec_GreedyCode.l1 k x1 x6 x7 x8 x9 x102000)
def spec_GreedyCode.l4 : Nat → Int → Int → List Int → List Bool → List Int → List Int → Int → List Int → Int → List Int → Option (List Int × Int)
  | 0, _, _, _, _, _, _, _, _, _, _ => none
  | k + 1, x1, x6, x7, x8, x9, x13, x14, x15, x16, x102000 => if x16 < (x15.length : Int) then (if 0 ≤ x16 then (if 0 ≤ (rd x15 x16) then (if (rd x15 x16) < (x9.length : Int) then (spec_GreedyCode.l4 k x1 x6 x7 x8 (x9.set ((rd x15 x16) : Int).toNat (wrap64 ((rd x9 (rd x15 x16)) - 1))) x13 x14 x15 (wrap64 (x16 + 1)) x102000) else (none)) else (none)) else (none)) else (spec_GreedyCode.l3 k x1 x6 x7 x8 x9 x13 (wrap64 (x14 + 1)) x102000)
end
def spec_GreedyCode.f (k : Nat) (l0_0 : List Int) (a1 : Int) : Option (List Int × Int) := (spec_l01Is.f k l0_0).bind fun t102 => (if t102 = true then ((spec_l01In.f a1 0 8).bind fun t103 => (if t103 = true then ((spec_l01N.f k l0_0).bind fun t104 => (if 0 ≤ t104 then (if (t104 : Int).toNat ≤ 281474976710656 then (if (t104 : Int).toNat ≤ 35184372088832 then (spec_GreedyCode.l0 k a1 t104 (([] : List Int)) (List.replicate (t104 : Int).toNat false) (List.replicate (t104 : Int).toNat 0) 0 l0_0) else (none)) else (none)) else (none))) else (some (([] : List Int), 2)))) else (some (([] : List Int), 1)))
theorem spec_GreedyCode.mono_l : ∀ k, (∀ y0 y1 y2 y3 y4 y5 y6, LeO (spec_GreedyCode.l0 k y0 y1 y2 y3 y4 y5 y6) (spec_GreedyCode.l0 (k + 1) y0 y1 y2 y3 y4 y5 y6)) ∧ (∀ y0 y1 y2 y3 y4 y5, LeO (spec_GreedyCode.l1 k y0 y1 y2 y3 y4 y5) (spec_GreedyCode.l1 (k + 1) y0 y1 y2 y3 y4 y5)) ∧ (∀ y0 y1 y2 y3 y4 y5 y6 y7, LeO (spec_GreedyCode.l2 k y0 y1 y2 y3 y4 y5 y6 y7) (spec_GreedyCode.l2 (k + 1) y0 y1 y2 y3 y4 y5 y6 y7)) ∧ (∀ y0 y1 y2 y3 y4 y5 y6 y7, LeO (spec_GreedyCode.l3 k y0 y1 y2 y3 y4 y5 y6 y7) (spec_GreedyCode.l3 (k + 1) y0 y1 y2 y3 y4 y5 y6 y7)) ∧ (∀ y0 y1 y2 y3 y4 y5 y6 y7 y8 y9, LeO (spec_GreedyCode.l4 k y0 y1 y2 y3 y4 y5 y6 y7 y8 y9) (spec_GreedyCode.l4 (k + 1) y0 y1 y2 y3 y4 y5 y6 y7 y8 y9))
  | 0 => ⟨fun _ _ _ _ _ _ _ r h => by simp [spec_GreedyCode.l0] at h, fun _ _ _ _ _ _ r h => by simp [spec_GreedyCode.l1] at h, fun _ _ _ _ _ _ _ _ r h => by simp [spec_GreedyCode.l2] at h, fun _ _ _ _ _ _ _ _ r h => by simp [spec_GreedyCode.l3] at h, fun _ _ _ _ _ _ _ _ _ _ r h => by simp [spec_GreedyCode.l4] at h⟩
  | k + 1 => by
    obtain ⟨ih0, ih1, ih2, ih3, ih4⟩ := spec_GreedyCode.mono_l k
    refine ⟨?_, ?_, ?_, ?_, ?_⟩
    · intro y0 y1 y2 y3 y4 y5 y6
      unfold spec_GreedyCode.l0
      repeat' first
      | (with_reducible exact ih0 _ _ _ _ _ _ _)
      | (with_reducible exact ih1 _ _ _ _ _ _)
      | (with_reducible exact ih2 _ _ _ _ _ _ _ _)
      | (with_reducible exact ih3 _ _ _ _ _ _ _ _)
      | (with_reducible exact ih4 _ _ _ _ _ _ _ _ _ _)
      | (with_reducible exact spec_l01Ball.mono _ _ _ _)
      | (with_reducible exact spec_l01Is.mono _ _)
      | (with_reducible exact spec_l01N.mono _ _)
      | (with_reducible exact spec_l01Put.mono _ _ _)
      | (with_reducible exact spec_l01Size.mono _ _ _)
      | (with_reducible exact LeO.refl _)
      | (with_reducible exact LeO.none _)
      | (with_reducible refine LeO.ite ?_ ?_)
      | (with_reducible refine LeO.bind ?_ (fun _ => ?_))
      | exact ih0 _ _ _ _ _ _ _
      | exact ih1 _ _ _ _ _ _
      | exact ih2 _ _ _ _ _ _ _ _
      | exact ih3 _ _ _ _ _ _ _ _
      | exact ih4 _ _ _ _ _ _ _ _ _ _
      | exact spec_l01Ball.mono _ _ _ _
      | exact spec_l01Is.mono _ _
      | exact spec_l01N.mono _ _
      | exact spec_l01Put.mono _ _ _
      | exact spec_l01Size.mono _ _ _
      | exact LeO.none _
      | refine LeO.ite ?_ ?_
      | refine LeO.bind ?_ (fun _ => ?_)
    · intro y0 y1 y2 y3 y4 y5
      unfold spec_GreedyCode.l1
      repeat' first
      | (with_reducible exact ih0 _ _ _ _ _ _ _)
      | (with_reducible exact ih1 _ _ _ _ _ _)
      | (with_reducible exact ih2 _ _ _ _ _ _ _ _)
      | (with_reducible exact ih3 _ _ _ _ _ _ _ _)
      | (with_reducible exact ih4 _ _ _ _ _ _ _ _ _ _)
      | (with_reducible exact spec_l01Ball.mono _ _ _ _)
      | (with_reducible exact spec_l01Is.mono _ _)
      | (with_reducible exact spec_l01N.mono _ _)
      | (with_reducible exact spec_l01Put.mono _ _ _)
      | (with_reducible exact spec_l01Size.mono _ _ _)
      | (with_reducible exact LeO.refl _)
      | (with_reducible exact LeO.none _)
      | (with_reducible refine LeO.ite ?_ ?_)
      | (with_reducible refine LeO.bind ?_ (fun _ => ?_))
      | exact ih0 _ _ _ _ _ _ _
      | exact ih1 _ _ _ _ _ _
      | exact ih2 _ _ _ _ _ _ _ _
      | exact ih3 _ _ _ _ _ _ _ _
      | exact ih4 _ _ _ _ _ _ _ _ _ _
      | exact spec_l01Ball.mono _ _ _ _
      | exact spec_l01Is.mono _ _
      | exact spec_l01N.mono _ _
      | exact spec_l01Put.mono _ _ _
      | exact spec_l01Size.mono _ _ _
      | exact LeO.none _
      | refine LeO.ite ?_ ?_
      | refine LeO.bind ?_ (fun _ => ?_)
    · intro y0 y1 y2 y3 y4 y5 y6 y7
      unfold spec_GreedyCode.l2
      repeat' first
      | (with_reducible exact ih0 _ _ _ _ _ _ _)
      | (with_reducible exact ih1 _ _ _ _ _ _)
      | (with_reducible exact ih2 _ _ _ _ _ _ _ _)
      | (with_reducible exact ih3 _ _ _ _ _ _ _ _)
      | (with_reducible exact ih4 _ _ _ _ _ _ _ _ _ _)
      | (with_reducible exact spec_l01Ball.mono _ _ _ _)
      | (with_reducible exact spec_l01Is.mono _ _)
      | (with_reducible exact spec_l01N.mono _ _)
      | (with_reducible exact spec_l01Put.mono _ _ _)
      | (with_reducible exact spec_l01Size.mono _ _ _)
      | (with_reducible exact LeO.refl _)
      | (with_reducible exact LeO.none _)
      | (with_reducible refine LeO.ite ?_ ?_)
      | (with_reducible refine LeO.bind ?_ (fun _ => ?_))
      | exact ih0 _ _ _ _ _ _ _
      | exact ih1 _ _ _ _ _ _
      | exact ih2 _ _ _ _ _ _ _ _
      | exact ih3 _ _ _ _ _ _ _ _
      | exact ih4 _ _ _ _ _ _ _ _ _ _
      | exact spec_l01Ball.mono _ _ _ _
      | exact spec_l01Is.mono _ _
      | exact spec_l01N.mono _ _
      | exact spec_l01Put.mono _ _ _
      | exact spec_l01Size.mono _ _ _
      | exact LeO.none _
      | refine LeO.ite ?_ ?_
      | refine LeO.bind ?_ (fun _ => ?_)
    · intro y0 y1 y2 y3 y4 y5 y6 y7
      unfold spec_GreedyCode.l3
      repeat' first
      | (with_reducible exact ih0 _ _ _ _ _ _ _)
      | (with_reducible exact ih1 _ _ _ _ _ _)
      | (with_reducible exact ih2 _ _ _ _ _ _ _ _)
      | (with_reducible exact ih3 _ _ _ _ _ _ _ _)
      | (with_reducible exact ih4 _ _ _ _ _ _ _ _ _ _)
      | (with_reducible exact spec_l01Ball.mono _ _ _ _)
      | (with_reducible exact spec_l01Is.mono _ _)
      | (with_reducible exact spec_l01N.mono _ _)
      | (with_reducible exact spec_l01Put.mono _ _ _)
      | (with_reducible exact spec_l01Size.mono _ _ _)
      | (with_reducible exact LeO.refl _)
      | (with_reducible exact LeO.none _)
      | (with_reducible refine LeO.ite ?_ ?_)
      | (with_reducible refine LeO.bind ?_ (fun _ => ?_))
      | exact ih0 _ _ _ _ _ _ _
      | exact ih1 _ _ _ _ _ _
      | exact ih2 _ _ _ _ _ _ _ _
      | exact ih3 _ _ _ _ _ _ _ _
      | exact ih4 _ _ _ _ _ _ _ _ _ _
      | exact spec_l01Ball.mono _ _ _ _
      | exact spec_l01Is.mono _ _
      | exact spec_l01N.mono _ _
      | exact spec_l01Put.mono _ _ _
      | exact spec_l01Size.mono _ _ _
      | exact LeO.none _
      | refine LeO.ite ?_ ?_
      | refine LeO.bind ?_ (fun _ => ?_)
    · intro y0 y1 y2 y3 y4 y5 y6 y7 y8 y9
      unfold spec_GreedyCode.l4
      repeat' first
      | (with_reducible exact ih0 _ _ _ _ _ _ _)
      | (with_reducible exact ih1 _ _ _ _ _ _)
      | (with_reducible exact ih2 _ _ _ _ _ _ _ _)
      | (with_reducible exact ih3 _ _ _ _ _ _ _ _)
      | (with_reducible exact ih4 _ _ _ _ _ _ _ _ _ _)
      | (with_reducible exact spec_l01Ball.mono _ _ _ _)
      | (with_reducible exact spec_l01Is.mono _ _)
      | (with_reducible exact spec_l01N.mono _ _)
      | (with_reducible exact spec_l01Put.mono _ _ _)
      | (with_reducible exact spec_l01Size.mono _ _ _)
      | (with_reducible exact LeO.refl _)
      | (with_reducible exact LeO.none _)
      | (with_reducible refine LeO.ite ?_ ?_)
      | (with_reducible refine LeO.bind ?_ (fun _ => ?_))
      | exact ih0 _ _ _ _ _ _ _
      | exact ih1 _ _ _ _ _ _
      | exact ih2 _ _ _ _ _ _ _ _
      | exact ih3 _ _ _ _ _ _ _ _
      | exact ih4 _ _ _ _ _ _ _ _ _ _
      | exact spec_l01Ball.mono _ _ _ _
      | exact spec_l01Is.mono _ _
      | exact spec_l01N.mono _ _
      | exact spec_l01Put.mono _ _ _
      | exact spec_l01Size.mono _ _ _
      | exact LeO.none _
      | refine LeO.ite ?_ ?_
      | refine LeO.bind ?_ (fun _ => ?_)
theorem spec_GreedyCode.mono : ∀ a0 a1 k, LeO (spec_GreedyCode.f k a0 a1) (spec_GreedyCode.f (k + 1) a0 a1) := by
  intro a0 a1 k
  obtain ⟨ih0, ih1, ih2, ih3, ih4⟩ := spec_GreedyCode.mono_l k
  unfold spec_GreedyCode.f
  repeat' first
      | (with_reducible exact ih0 _ _ _ _ _ _ _)
      | (with_reducible exact ih1 _ _ _ _ _ _)
      | (with_reducible exact ih2 _ _ _ _ _ _ _ _)
      | (with_reducible exact ih3 _ _ _ _ _ _ _ _)
      | (with_reducible exact ih4 _ _ _ _ _ _ _ _ _ _)
      | (with_reducible exact spec_l01Ball.mono _ _ _ _)
      | (with_reducible exact spec_l01Is.mono _ _)
      | (with_reducible exact spec_l01N.mono _ _)
      | (with_reducible exact spec_l01Put.mono _ _ _)
      | (with_reducible exact spec_l01Size.mono _ _ _)
      | (with_reducible exact LeO.refl _)
      | (with_reducible exact LeO.none _)
      | (with_reducible refine LeO.ite ?_ ?_)
      | (with_reducible refine LeO.bind ?_ (fun _ => ?_))
      | exact ih0 _ _ _ _ _ _ _
      | exact ih1 _ _ _ _ _ _
      | exact ih2 _ _ _ _ _ _ _ _
      | exact ih3 _ _ _ _ _ _ _ _
      | exact ih4 _ _ _ _ _ _ _ _ _ _
      | exact spec_l01Ball.mono _ _ _ _
      | exact spec_l01Is.mono _ _
      | exact spec_l01N.mono _ _
      | exact spec_l01Put.mono _ _ _
      | exact spec_l01Size.mono _ _ _
      | exact LeO.none _
      | refine LeO.ite ?_ ?_
      | refine LeO.bind ?_ (fun _ => ?_)
def spec_GreedyCode.T16 : Bool × List (List Nat × List Nat) := (true, [([], []), ([], []), ([0, 1], [0, 1]), ([2], [2]), ([], []), ([], []), ([4, 5], [4, 5]), ([6], [6]), ([3, 7], [3, 7])])
def spec_GreedyCode.B16 : List Nat := [0, 0, 3, 7, 0, 0, 48, 112, 255]
theorem spec_GreedyCode.tab16 : rtab .any (opsOf Try.f26 16) = spec_GreedyCode.T16 := by kernel_rfl
theorem spec_GreedyCode.bits16 : waitsOk spec_GreedyCode.T16.2 spec_GreedyCode.B16 = true := by kernel_rfl
def spec_GreedyCode.T27 : Bool × List (List Nat × List Nat) := (true, [([], []), ([], []), ([], []), ([1, 2], [1, 2]), ([3], [3]), ([], []), ([0, 4, 5], [0, 4, 5]), ([6, 6, 0, 1, 2, 3, 4, 5, 6], [6])])
def spec_GreedyCode.B27 : List Nat := [0, 0, 0, 6, 14, 0, 63, 127]
theorem spec_GreedyCode.tab27 : rtab .any (opsOf Try.f26 27) = spec_GreedyCode.T27 := by kernel_rfl
theorem spec_GreedyCode.bits27 : waitsOk spec_GreedyCode.T27.2 spec_GreedyCode.B27 = true := by kernel_rfl
set_option maxHeartbeats 8000000 in
set_option maxRecDepth 100000 in
theorem spec_GreedyCode.calls (k : Nat) (A0_0 : Option Addr) (c0_0 : Nat) (l0_0 : List Int) (a1 : Int) (r1 : List Int) (r2 : Int) (w : World) (hr0_0 : Kd.C (Kd.int .i64) w A0_0 l0_0.length l0_0) (hc0_0 : l0_0.length ≤ c0_0) (h : spec_GreedyCode.f k l0_0 a1 = some (r1, r2)) :
  Calls Try.prog 26 #[.agg #[.slice A0_0 l0_0.length c0_0], .int .i64 a1] w fun e w' => ∃ v0_ : Value, e = .returned (.tuple #[v0_, .int .i64 r2]) ∧ Kd.R (Kd.int .i64) 2 w' w.heap.size (fun _ => True) v0_ r1 ∧ Below w.heap.size w w' := by
 have hu26 := Try.underlying26
 have HR0_0 := Aside0.mk hr0_0
 have HC0_0 := Aside0.mk hc0_0
 clear hr0_0 hc0_0
 have HB := Aside0.mk (Below.refl w.heap.size w)
 have H : ((spec_l01Is.f k l0_0).bind fun t102 => (if t102 = true then ((spec_l01In.f a1 0 8).bind fun t103 => (if t103 = true then ((spec_l01N.f k l0_0).bind fun t104 => (if 0 ≤ t104 then (if (t104 : Int).toNat ≤ 281474976710656 then (if (t104 : Int).toNat ≤ 35184372088832 then (spec_GreedyCode.l0 k a1 t104 (([] : List Int)) (List.replicate (t104 : Int).toNat false) (List.replicate (t104 : Int).toNat 0) 0 l0_0) else (none)) else (none)) else (none))) else (some (([] : List Int), 2)))) else (some (([] : List Int), 1)))) = some (r1, r2) := h
 clear h
 replace H := Option.bind_eq_some_iff.mp H
 obtain ⟨t102, A30, H⟩ := H
 replace H : (if t102 = true then ((spec_l01In.f a1 0 8).bind fun t103 => (if t103 = true then ((spec_l01N.f k l0_0).bind fun t104 => (if 0 ≤ t104 then (if (t104 : Int).toNat ≤ 281474976710656 then (if (t104 : Int).toNat ≤ 35184372088832 then (spec_GreedyCode.l0 k a1 t104 (([] : List Int)) (List.replicate (t104 : Int).toNat false) (List.replicate (t104 : Int).toNat 0) 0 l0_0) else (none)) else (none)) else (none))) else (some (([] : List Int), 2)))) else (some (([] : List Int), 1))) = some (r1, r2) := H
 have A3 := Aside0.mk A30
 clear A30
 by_cases c4 : t102 = true
 ·subst c4
  have H1 : ((spec_l01In.f a1 0 8).bind fun t103 => (if t103 = true then ((spec_l01N.f k l0_0).bind fun t104 => (if 0 ≤ t104 then (if (t104 : Int).toNat ≤ 281474976710656 then (if (t104 : Int).toNat ≤ 35184372088832 then (spec_GreedyCode.l0 k a1 t104 (([] : List Int)) (List.replicate (t104 : Int).toNat false) (List.replicate (t104 : Int).toNat 0) 0 l0_0) else (none)) else (none)) else (none))) else (some (([] : List Int), 2)))) = some (r1, r2) := by rw [if_pos rfl] at H; exact H
  clear H
  have H := H1
  clear H1
  replace H := Option.bind_eq_some_iff.mp H
  obtain ⟨t103, A50, H⟩ := H
  replace H : (if t103 = true then ((spec_l01N.f k l0_0).bind fun t104 => (if 0 ≤ t104 then (if (t104 : Int).toNat ≤ 281474976710656 then (if (t104 : Int).toNat ≤ 35184372088832 then (spec_GreedyCode.l0 k a1 t104 (([] : List Int)) (List.replicate (t104 : Int).toNat false) (List.replicate (t104 : Int).toNat 0) 0 l0_0) else (none)) else (none)) else (none))) else (some (([] : List Int), 2))) = some (r1, r2) := H
  have A5 := Aside0.mk A50
  clear A50
  by_cases c6 : t103 = true
  ·subst c6
   have H1 : ((spec_l01N.f k l0_0).bind fun t104 => (if 0 ≤ t104 then (if (t104 : Int).toNat ≤ 281474976710656 then (if (t104 : Int).toNat ≤ 35184372088832 then (spec_GreedyCode.l0 k a1 t104 (([] : List Int)) (List.replicate (t104 : Int).toNat false) (List.replicate (t104 : Int).toNat 0) 0 l0_0) else (none)) else (none)) else (none))) = some (r1, r2) := by rw [if_pos rfl] at H; exact H
   clear H
   have H := H1
   clear H1
   replace H := Option.bind_eq_some_iff.mp H
   obtain ⟨t104, A70, H⟩ := H
   replace H : (if 0 ≤ t104 then (if (t104 : Int).toNat ≤ 281474976710656 then (if (t104 : Int).toNat ≤ 35184372088832 then (spec_GreedyCode.l0 k a1 t104 (([] : List Int)) (List.replicate (t104 : Int).toNat false) (List.replicate (t104 : Int).toNat 0) 0 l0_0) else (none)) else (none)) else (none)) = some (r1, r2) := H
   have A7 := Aside0.mk A70
   clear A70
   obtain ⟨y105, hy105⟩ : ∃ y_ : List Int, y_ = (([] : List Int)) := ⟨_, rfl⟩
   replace H : (if 0 ≤ t104 then (if (t104 : Int).toNat ≤ 281474976710656 then (if (t104 : Int).toNat ≤ 35184372088832 then (spec_GreedyCode.l0 k a1 t104 y105 (List.replicate (t104 : Int).toNat false) (List.replicate (t104 : Int).toNat 0) 0 l0_0) else (none)) else (none)) else (none)) = some (r1, r2) := by first | (rw [hy105]; with_reducible exact H) | (have H2_ := (Option.bind_some _ _).symm.trans H; rw [hy105]; with_reducible exact H2_) | (have H2_ := (Option.bind_some _ _).symm.trans H; with_reducible exact H2_) | with_reducible exact H | (rw [hy105]; exact H) | exact H
   have Ny105 := Aside0.mk hy105
   clear hy105
   by_cases c8 : 0 ≤ t104
   ·rw [if_pos c8] at H
    have c8b0 := eq_true c8
    have c8b1 : decide (0 ≤ t104) = true := decide_eq_true c8
    clear c8
    by_cases c9 : (t104 : Int).toNat ≤ 281474976710656
    ·rw [if_pos c9] at H
     have c9b0 := eq_true c9
     have c9b1 : decide ((t104 : Int).toNat ≤ 281474976710656) = true := decide_eq_true c9
     clear c9
     obtain ⟨y108, hy108⟩ : ∃ y_ : List Bool, y_ = (List.replicate (t104 : Int).toNat false) := ⟨_, rfl⟩
     replace H : (if (t104 : Int).toNat ≤ 35184372088832 then (spec_GreedyCode.l0 k a1 t104 y105 y108 (List.replicate (t104 : Int).toNat 0) 0 l0_0) else (none)) = some (r1, r2) := by first | (rw [hy108]; with_reducible exact H) | (have H2_ := (Option.bind_some _ _).symm.trans H; rw [hy108]; with_reducible exact H2_) | (have H2_ := (Option.bind_some _ _).symm.trans H; with_reducible exact H2_) | with_reducible exact H | (rw [hy108]; exact H) | exact H
     have Ny108 := Aside0.mk hy108
     clear hy108
     by_cases c10 : (t104 : Int).toNat ≤ 35184372088832
     ·rw [if_pos c10] at H
      have c10b0 := eq_true c10
      have c10b1 : decide ((t104 : Int).toNat ≤ 35184372088832) = true := decide_eq_true c10
      clear c10
      obtain ⟨y111, hy111⟩ : ∃ y_ : List Int, y_ = (List.replicate (t104 : Int).toNat 0) := ⟨_, rfl⟩
      replace H : (spec_GreedyCode.l0 k a1 t104 y105 y108 y111 0 l0_0) = some (r1, r2) := by first | (rw [hy111]; with_reducible exact H) | (have H2_ := (Option.bind_some _ _).symm.trans H; rw [hy111]; with_reducible exact H2_) | (have H2_ := (Option.bind_some _ _).symm.trans H; with_reducible exact H2_) | with_reducible exact H | (rw [hy111]; exact H) | exact H
      have Ny111 := Aside0.mk hy111
      clear hy111
      have H' := Aside0.mk H
      clear H
      go_enter Try.func26, Try.ntmps26
      try go_wp2_with (first | ((with_reducible refine gate_dst (N := 2) rfl ?_); refine box_event ?hg (N := 2) ?hd (cs := #[.slice A0_0 l0_0.length c0_0]) (t := 26) ?hr ?_; (case hd => rfl); (case hg => rfl); (case hr => first | (go_simp; done) | (go_simp; rfl)); intro gb101 hg w11 hbox hb; have n0_ := Aside0.mk (below_step (gb_ HB.out) hb); have n1_ := Aside0.mk (hbox); have n2_ := Aside0.mk ((by rw [hg]; exact (below_size (gb_ HB.out)) : w.heap.size ≤ gb101)); have n3_ := Aside0.mk ((by rw [hg]; exact (below_size (gb_ HB.out)) : w.heap.size ≤ gb101)); clear HB; have HB := n0_; have BK101 := n1_; have GW101 := n2_; have GE101 := n3_; clear n0_ n1_ n2_ n3_ hb hbox hg; have hcz12_0 : w11.cell? ⟨gb101, 0, none⟩ = some (.slice A0_0 l0_0.length c0_0) := (blk_cell BK101.out 0).trans rfl; have hfz12_0 := blk_frozen BK101.out 0) | ((with_reducible refine gate_callee (f := 31) rfl ?_); refine goesL_ (some 19) rfl rfl Try.func31 (by kernel_rfl) rfl #[.agg #[.slice A0_0 l0_0.length c0_0]] rfl (by (try simp only [List.map_toArray, List.map_cons, List.map_nil]); first | done | rfl | (simp only [List.length_drop, List.length_take]; rfl)) ?_; (with_reducible refine (spec_l01Is.calls k _ _ l0_0 true _ ?side1 ?side2 A3.out).mono ?_); (case side1 => repeat (first | exact (Kd.C_below HR0_0.out HB.out) | (with_reducible refine Kd.C_alloc ?_ _) | (with_reducible refine Kd.C_drewN ?_ _) | (with_reducible refine Kd.C_drew ?_))); (case side2 => exact HC0_0.out); rintro e w13 ⟨rfl, hb⟩; refine ⟨_, rfl, ?_⟩; have n0_ := Aside0.mk (blk_below (g := gb101) (o := .cells #[.slice A0_0 l0_0.length c0_0] 26 (0, 0)) (bb_ BK101.out) hb); have n1_ := Aside0.mk (below_step (gb_ HB.out) hb); clear BK101 HB; have BK101 := n0_; have HB := n1_; clear n0_ n1_; (try clear hb); (try clear hb2); (try clear hk); (try clear hi)) | ((with_reducible refine gate_callee (f := 41) rfl ?_); refine goesL_ (some 23) rfl rfl Try.func41 (by kernel_rfl) rfl #[.int .i64 a1, .int .i64 0, .int .i64 8] rfl (by (try simp only [List.map_toArray, List.map_cons, List.map_nil]); first | done | rfl | (simp only [List.length_drop, List.length_take]; rfl)) ?_; (with_reducible refine (spec_l01In.calls a1 0 8 true _ A5.out).mono ?_); rintro e w' ⟨rfl, ⟨nd, rfl⟩⟩; refine ⟨_, rfl, ?_⟩; have hcz14_0 : w13.cell? ⟨gb101, 0, none⟩ = some (.slice A0_0 l0_0.length c0_0) := (blk_cell BK101.out 0).trans rfl; have hfz14_0 := blk_frozen BK101.out 0) | ((with_reducible refine gate_callee (f := 35) rfl ?_); refine goesL_ (some 26) rfl rfl Try.func35 (by kernel_rfl) rfl #[.agg #[.slice A0_0 l0_0.length c0_0]] rfl (by (try simp only [List.map_toArray, List.map_cons, List.map_nil]); first | done | rfl | (simp only [List.length_drop, List.length_take]; rfl)) ?_; (with_reducible refine (spec_l01N.calls k _ _ l0_0 t104 _ ?side1 ?side2 A7.out).mono ?_); (case side1 => repeat (first | exact (Kd.C_below HR0_0.out (gb_ HB.out)) | (with_reducible refine Kd.C_alloc ?_ _) | (with_reducible refine Kd.C_drewN ?_ _) | (with_reducible refine Kd.C_drew ?_))); (case side2 => exact HC0_0.out); rintro e w15 ⟨rfl, hb⟩; refine ⟨_, rfl, ?_⟩; have n0_ := Aside0.mk (blk_below (g := gb101) (o := .cells #[.slice A0_0 l0_0.length c0_0] 26 (0, 0)) (bb_ BK101.out) hb); have n1_ := Aside0.mk (below_step (gb_ HB.out) hb); clear BK101 HB; have BK101 := n0_; have HB := n1_; clear n0_ n1_; (try clear hb); (try clear hb2); (try clear hk); (try clear hi)) | ((with_reducible refine gate_dst (N := 27) rfl ?_); refine Kd.R_lit (Kd.int .i64) _ 2 ?hg (N := 27) ?hd (xs := ([] : List Int)) (inner := []) (ok := fun _ => True) (okp := fun _ => True) ?hr ?hp (fun _ hk => hk) trivial (Below.refl _ _) (Nat.le_refl _) (by simp) ?_; (case hd => rfl); (case hg => rfl); (case hr => first | (go_simp; done) | (go_simp; rfl)); (case hp => exact (Reps.none _ _)); intro v106 w16 ho17 hb hg_ hnew_; clear hg_ hnew_; (first | rw [← Ny105.out] at ho17 | (simp only [Int.reduceToNat] at ho17; rw [← Ny105.out] at ho17)); have n0_ := Aside0.mk (Kd.R_lower ho17 (below_size (gb_ HB.out))); have n1_ := Aside0.mk (blk_below (g := gb101) (o := .cells #[.slice A0_0 l0_0.length c0_0] 26 (0, 0)) (bb_ BK101.out) hb); have n2_ := Aside0.mk (below_step (gb_ HB.out) hb); clear BK101 HB; have HO107 := n0_; have BK101 := n1_; have HB := n2_; clear n0_ n1_ n2_ hb ho17))
      have n0_ := Aside0.mk (Kd.R_drew HO107.out)
      have n1_ := Aside0.mk (blk_drew BK101.out)
      have n2_ := Aside0.mk (below_drew1 HB.out)
      clear HO107 BK101 HB
      have HO107 := n0_
      have BK101 := n1_
      have HB := n2_
      clear n0_ n1_ n2_
      refine start_ (n := 6) (S := fun w' => True) (ds := []) #[false, false, false, false, false, false] (by kernel_rfl) rfl rfl trivial (fun hHeld => ?_)
      generalize w16.drew = w18 at HO107 BK101 HB hHeld ⊢
      refine pure_ (i := 0) (N := some 28) (v := ?_) (a' := ?_) #[true, false, false, false, false, false] rfl rfl (by kernel_rfl) (fun _ _ _ h => h) (Or.inl ⟨by rfl, ?_⟩) ?_ ?_
      rotate_left
      ·intro w'
       go_simp
       with_reducible rfl
      rotate_left
      ·simp only [Act.put, List.setIfInBounds_toArray, List.set_cons_zero, List.set_cons_succ, i64_w, i32_w]
       rfl
      refine pure_ (i := 2) (N := some 30) (v := ?_) (a' := ?_) #[true, false, true, false, false, false] rfl rfl (by kernel_rfl) (fun _ _ _ h => h) (Or.inl ⟨by rfl, ?_⟩) ?_ ?_
      rotate_left
      ·intro w'
       go_simp
       with_reducible rfl
      rotate_left
      ·simp only [Act.put, List.setIfInBounds_toArray, List.set_cons_zero, List.set_cons_succ, i64_w, i32_w]
       rfl
      refine join_ (σ := Value × Value) 1 #[true, true, true, true, true, false] (fun s_ => [(29, s_.1), (31, s_.2), (8, s_.1)]) (fun s_ w' => (Kd.R (Kd.int .i64) 2 w' w.heap.size (fun k_ => OB_ k_ s_.2) v106 y105) ∧ (Kd.R Kd.bool 4 w' w.heap.size (fun _ => True) s_.1 y108) ∧ (Kd.R (Kd.int .i64) 2 w' w.heap.size (fun k_ => OB_ k_ v106) s_.2 y111) ∧ (w'.heap[gb101]? = some (.cells #[.slice A0_0 l0_0.length c0_0] 26 (0, 0))) ∧ (Below w.heap.size w w')) ?_ ?_
      rotate_left
      ·intro hCont
       refine two_ (i := 1) (j := 3) (Ni := some 29) (Nj := some 31) #[true, true, true, false, false, false] #[true, false, true, true, false, false] rfl rfl rfl rfl (by kernel_rfl) (by decide) (by decide) (fun K hK => ?_) (fun K hK => ?_)
       ·skip
        refine Kd.R_make_step Kd.bool _ 4 (by rfl) (N := 29) rfl 74 _ _ rfl t104 rfl rfl Try.underlying74 (.bool false) 1 info4 rfl (by decide) (by omega) false (ok := fun _ => True) (okp := fun _ => True) rfl (fun _ hk => hk) trivial (of_decide_eq_true (by first | (with_reducible assumption) | assumption)) (Nat.le_trans (Nat.mul_le_mul_right _ (of_decide_eq_true (by first | (with_reducible assumption) | assumption) : t104.toNat ≤ 281474976710656)) (by omega)) (Below.refl _ _) (Nat.le_refl _) ?_
        intro v109 w19 ho20 hb hg_ hnew_
        clear hg_ hnew_
        (first | rw [← Ny108.out] at ho20 | (simp only [Int.reduceToNat] at ho20; rw [← Ny108.out] at ho20))
        have n0_ := Aside0.mk (Kd.R_below (rb_ HO107.out) hb)
        have n1_ := Aside0.mk (Kd.R_lower ho20 (below_size (gb_ HB.out)))
        have n2_ := Aside0.mk (blk_below (g := gb101) (o := .cells #[.slice A0_0 l0_0.length c0_0] 26 (0, 0)) (bb_ BK101.out) hb)
        have n3_ := Aside0.mk (below_step (gb_ HB.out) hb)
        clear HO107 BK101 HB
        have HO107 := n0_
        have HO110 := n1_
        have BK101 := n2_
        have HB := n3_
        clear n0_ n1_ n2_ n3_ hb ho20
        refine hK.out _ _ trivial (fun hHeld => ?_)
        clear hK K
        refine norm_ (a' := ?_) ?_ ?_
        rotate_left
        ·show Act.put _ (some 29) _ = _
         simp only [Act.put, List.setIfInBounds_toArray, List.set_cons_zero, List.set_cons_succ, i64_w, i32_w]
         rfl
        refine pure_ (i := 4) (N := some 8) (v := ?_) (a' := ?_) #[true, true, true, false, true, false] rfl rfl (by kernel_rfl) (fun _ _ _ h => h) (Or.inl ⟨by rfl, ?_⟩) ?_ ?_
        rotate_left
        ·intro w'
         go_simp
         with_reducible rfl
        rotate_left
        ·simp only [Act.put, List.setIfInBounds_toArray, List.set_cons_zero, List.set_cons_succ, i64_w, i32_w]
         rfl
        refine one_ (i := 3) (N := some 31) #[true, true, true, true, true, false] rfl rfl (by kernel_rfl) (by decide) (fun K hK => ?_)
        refine Kd.R_make_step (Kd.int .i64) _ 2 (by rfl) (N := 31) rfl 22 _ _ rfl t104 rfl rfl Try.underlying22 (.int .i64 0) 8 info2 rfl (by decide) (by omega) 0 (ok := fun _ => True) (okp := fun _ => True) rfl (fun _ hk => hk) trivial (of_decide_eq_true (by first | (with_reducible assumption) | assumption)) (Nat.le_trans (Nat.mul_le_mul_right _ (of_decide_eq_true (by first | (with_reducible assumption) | assumption) : t104.toNat ≤ 35184372088832)) (by omega)) (Below.refl _ _) (Nat.le_refl _) ?_
        intro v112 w21 ho22 hb hg_ hnew_
        clear hg_ hnew_
        (first | rw [← Ny111.out] at ho22 | (simp only [Int.reduceToNat] at ho22; rw [← Ny111.out] at ho22))
        have n0_ := Aside0.mk (Kd.R_elder' (rb_ HO107.out) (Kd.R_base ho22) hb)
        have n1_ := Aside0.mk (Kd.R_below (rb_ HO110.out) hb)
        have n2_ := Aside0.mk (Kd.R_lower (Kd.R_new' ho22 (Kd.R_lt (rb_ HO107.out))) (below_size (gb_ HB.out)))
        have n3_ := Aside0.mk (blk_below (g := gb101) (o := .cells #[.slice A0_0 l0_0.length c0_0] 26 (0, 0)) (bb_ BK101.out) hb)
        have n4_ := Aside0.mk (below_step (gb_ HB.out) hb)
        clear HO107 HO110 BK101 HB
        have HO107 := n0_
        have HO110 := n1_
        have HO113 := n2_
        have BK101 := n3_
        have HB := n4_
        clear n0_ n1_ n2_ n3_ n4_ hb ho22
        refine hK.out _ _ trivial (fun hHeld => ?_)
        clear hK K
        refine norm_ (a' := ?_) ?_ ?_
        rotate_left
        ·show Act.put _ (some 31) _ = _
         simp only [Act.put, List.setIfInBounds_toArray, List.set_cons_zero, List.set_cons_succ, i64_w, i32_w]
         rfl
        exact norm_ (by simp only [putAll, Act.put, List.setIfInBounds_toArray, List.set_cons_zero, List.set_cons_succ]) (hCont (v109, v112) _ ⟨(rb_ (Kd.R_mono HO107.out (fun _ hk => hk.2))), (rb_ HO110.out), (rb_ (Kd.R_mono HO113.out (fun _ hk => hk.2))), (bb_ BK101.out), (gb_ HB.out)⟩)
       ·skip
        refine Kd.R_make_step (Kd.int .i64) _ 2 (by rfl) (N := 31) rfl 22 _ _ rfl t104 rfl rfl Try.underlying22 (.int .i64 0) 8 info2 rfl (by decide) (by omega) 0 (ok := fun _ => True) (okp := fun _ => True) rfl (fun _ hk => hk) trivial (of_decide_eq_true (by first | (with_reducible assumption) | assumption)) (Nat.le_trans (Nat.mul_le_mul_right _ (of_decide_eq_true (by first | (with_reducible assumption) | assumption) : t104.toNat ≤ 35184372088832)) (by omega)) (Below.refl _ _) (Nat.le_refl _) ?_
        intro v112 w19 ho20 hb hg_ hnew_
        clear hg_ hnew_
        (first | rw [← Ny111.out] at ho20 | (simp only [Int.reduceToNat] at ho20; rw [← Ny111.out] at ho20))
        have n0_ := Aside0.mk (Kd.R_elder' (rb_ HO107.out) (Kd.R_base ho20) hb)
        have n1_ := Aside0.mk (Kd.R_lower (Kd.R_new' ho20 (Kd.R_lt (rb_ HO107.out))) (below_size (gb_ HB.out)))
        have n2_ := Aside0.mk (blk_below (g := gb101) (o := .cells #[.slice A0_0 l0_0.length c0_0] 26 (0, 0)) (bb_ BK101.out) hb)
        have n3_ := Aside0.mk (below_step (gb_ HB.out) hb)
        clear HO107 BK101 HB
        have HO107 := n0_
        have HO113 := n1_
        have BK101 := n2_
        have HB := n3_
        clear n0_ n1_ n2_ n3_ hb ho20
        refine hK.out _ _ trivial (fun hHeld => ?_)
        clear hK K
        refine norm_ (a' := ?_) ?_ ?_
        rotate_left
        ·show Act.put _ (some 31) _ = _
         simp only [Act.put, List.setIfInBounds_toArray, List.set_cons_zero, List.set_cons_succ, i64_w, i32_w]
         rfl
        refine one_ (i := 1) (N := some 29) #[true, true, true, true, false, false] rfl rfl (by kernel_rfl) (by decide) (fun K hK => ?_)
        refine Kd.R_make_step Kd.bool _ 4 (by rfl) (N := 29) rfl 74 _ _ rfl t104 rfl rfl Try.underlying74 (.bool false) 1 info4 rfl (by decide) (by omega) false (ok := fun _ => True) (okp := fun _ => True) rfl (fun _ hk => hk) trivial (of_decide_eq_true (by first | (with_reducible assumption) | assumption)) (Nat.le_trans (Nat.mul_le_mul_right _ (of_decide_eq_true (by first | (with_reducible assumption) | assumption) : t104.toNat ≤ 281474976710656)) (by omega)) (Below.refl _ _) (Nat.le_refl _) ?_
        intro v109 w21 ho22 hb hg_ hnew_
        clear hg_ hnew_
        (first | rw [← Ny108.out] at ho22 | (simp only [Int.reduceToNat] at ho22; rw [← Ny108.out] at ho22))
        have n0_ := Aside0.mk (Kd.R_below (rb_ HO107.out) hb)
        have n1_ := Aside0.mk (Kd.R_below (rb_ HO113.out) hb)
        have n2_ := Aside0.mk (Kd.R_lower ho22 (below_size (gb_ HB.out)))
        have n3_ := Aside0.mk (blk_below (g := gb101) (o := .cells #[.slice A0_0 l0_0.length c0_0] 26 (0, 0)) (bb_ BK101.out) hb)
        have n4_ := Aside0.mk (below_step (gb_ HB.out) hb)
        clear HO107 HO113 BK101 HB
        have HO107 := n0_
        have HO113 := n1_
        have HO110 := n2_
        have BK101 := n3_
        have HB := n4_
        clear n0_ n1_ n2_ n3_ n4_ hb ho22
        refine hK.out _ _ trivial (fun hHeld => ?_)
        clear hK K
        refine norm_ (a' := ?_) ?_ ?_
        rotate_left
        ·show Act.put _ (some 29) _ = _
         simp only [Act.put, List.setIfInBounds_toArray, List.set_cons_zero, List.set_cons_succ, i64_w, i32_w]
         rfl
        refine pure_ (i := 4) (N := some 8) (v := ?_) (a' := ?_) #[true, true, true, true, true, false] rfl rfl (by kernel_rfl) (fun _ _ _ h => h) (Or.inl ⟨by rfl, ?_⟩) ?_ ?_
        rotate_left
        ·intro w'
         go_simp
         with_reducible rfl
        rotate_left
        ·simp only [Act.put, List.setIfInBounds_toArray, List.set_cons_zero, List.set_cons_succ, i64_w, i32_w]
         rfl
        exact norm_ (by simp only [putAll, Act.put, List.setIfInBounds_toArray, List.set_cons_zero, List.set_cons_succ]) (hCont (v109, v112) _ ⟨(rb_ (Kd.R_mono HO107.out (fun _ hk => hk.2))), (rb_ HO110.out), (rb_ (Kd.R_mono HO113.out (fun _ hk => hk.2))), (bb_ BK101.out), (gb_ HB.out)⟩)
      rintro ⟨v109, v112⟩ w23 ⟨h0_, h1_, h2_, h3_, h4_⟩
      have n0_ : Aside0 (Kd.R (Kd.int .i64) 2 w23 w.heap.size (fun k_ => OB_ k_ v112) v106 y105) := ⟨h0_⟩
      have n1_ : Aside0 (Kd.R Kd.bool 4 w23 w.heap.size (fun _ => True) v109 y108) := ⟨h1_⟩
      have n2_ : Aside0 (Kd.R (Kd.int .i64) 2 w23 w.heap.size (fun k_ => OB_ k_ v106) v112 y111) := ⟨h2_⟩
      have n3_ : Aside0 (w23.heap[gb101]? = some (.cells #[.slice A0_0 l0_0.length c0_0] 26 (0, 0))) := ⟨h3_⟩
      have n4_ : Aside0 (Below w.heap.size w w23) := ⟨h4_⟩
      clear HO107 BK101 HB h0_ h1_ h2_ h3_ h4_
      have HO107 := n0_
      have HO110 := n1_
      have HO113 := n2_
      have BK101 := n3_
      have HB := n4_
      clear n0_ n1_ n2_ n3_ n4_
      have hHeld := trivial
      refine norm_ (a' := ?_) ?_ ?_
      rotate_left
      ·simp only [putAll, Act.put, List.setIfInBounds_toArray, List.set_cons_zero, List.set_cons_succ]
       rfl
      refine pure_ (i := 5) (N := some 9) (v := ?_) (a' := ?_) #[true, true, true, true, true, true] rfl rfl (by kernel_rfl) (fun _ _ _ h => h) (Or.inl ⟨by rfl, ?_⟩) ?_ ?_
      rotate_left
      ·intro w'
       go_simp
       with_reducible rfl
      rotate_left
      ·simp only [Act.put, List.setIfInBounds_toArray, List.set_cons_zero, List.set_cons_succ, i64_w, i32_w]
       rfl
      refine done_ (by kernel_rfl) ?_
      try go_wp2
      go_loopg [10] k (fun kq v10 w' => ∃ (x8_1 : List Bool) (x9_1 : List Int) (x10_1 : Int), v10 = .int .i64 x10_1 ∧ Aside0 (spec_GreedyCode.l0 kq a1 t104 y105 x8_1 x9_1 x10_1 l0_0 = some (r1, r2)) ∧ Aside0 (kq ≤ k) ∧ Aside0 (Kd.R (Kd.int .i64) 2 w' w.heap.size (fun k_ => OB_ k_ v112) v106 y105) ∧ Aside0 (Kd.R Kd.bool 4 w' w.heap.size (fun _ => True) v109 x8_1) ∧ Aside0 (Kd.R (Kd.int .i64) 2 w' w.heap.size (fun k_ => OB_ k_ v106) v112 x9_1) ∧ Aside0 (w'.heap[gb101]? = some (.cells #[(.slice A0_0 l0_0.length c0_0)] 26 (0, 0))) ∧ Aside0 (Below w.heap.size w w'))
      case atStart => exact ⟨(y108), (y111), (0), (by first | rfl | (simp; done) | (simp [*]; done)), H', ⟨Nat.le_refl _⟩, ⟨by (with_reducible repeat (first | apply Kd.R_alloc | apply Kd.R_drewN | apply Kd.R_drew)); exact HO107.out⟩, ⟨by (with_reducible repeat (first | apply Kd.R_alloc | apply Kd.R_drewN | apply Kd.R_drew)); exact HO110.out⟩, ⟨by (with_reducible repeat (first | apply Kd.R_alloc | apply Kd.R_drewN | apply Kd.R_drew)); exact HO113.out⟩, ⟨by (with_reducible repeat (first | refine blk_drewN ?_ _ | refine blk_drew ?_ | refine blk_alloc ?_ _)); exact BK101.out⟩, ⟨gb_ HB.out⟩⟩
      case round =>
       clear H'
       try clear c1
       try clear c2
       try clear p2
       try clear c3
       try clear c4
       try clear c6
       try clear c8
       try clear c8b0
       try clear c8b1
       try clear c9
       try clear c9b0
       try clear c9b1
       try clear c10
       try clear c10b0
       try clear c10b1
       try clear hcz12_0
       try clear hcz14_0
       try clear hfz12_0
       try clear hfz14_0
       obtain ⟨x8_1, x9_1, x10_1, rfl, HA, HK1, HO_7, HO_8, HO_9, BK101, HB⟩ := hrel
       cases gk with
       | zero => exact absurd HA.out (by simp [spec_GreedyCode.l0])
       | succ k1 =>
        have H := HA.out
        clear HA
        simp only [spec_GreedyCode.l0] at H
        by_cases c24 : x10_1 < t104
        ·rw [if_pos c24] at H
         have c24b0 : decide (x10_1 < t104) = true := decide_eq_true c24
         clear c24
         by_cases c25 : 0 ≤ x10_1
         ·rw [if_pos c25] at H
          have c25b0 : decide (0 ≤ x10_1) = true := decide_eq_true c25
          clear c25
          by_cases c26 : x10_1 < (x8_1.length : Int)
          ·rw [if_pos c26] at H
           have c26b0 : decide (x10_1 < (x8_1.length : Int)) = true := decide_eq_true c26
           clear c26
           obtain ⟨y114, hy114⟩ : ∃ y_ : List Bool, y_ = (x8_1.set (x10_1 : Int).toNat true) := ⟨_, rfl⟩
           replace H : ((spec_l01Size.f k1 l0_0 a1).bind fun t115 => (if x10_1 < (x9_1.length : Int) then (spec_GreedyCode.l0 k1 a1 t104 y105 y114 (x9_1.set (x10_1 : Int).toNat t115) (wrap64 (x10_1 + 1)) l0_0) else (none))) = some (r1, r2) := by first | (rw [hy114]; with_reducible exact H) | (have H2_ := (Option.bind_some _ _).symm.trans H; rw [hy114]; with_reducible exact H2_) | (have H2_ := (Option.bind_some _ _).symm.trans H; with_reducible exact H2_) | with_reducible exact H | (rw [hy114]; exact H) | exact H
           have Ny114 := Aside0.mk hy114
           clear hy114
           replace H := Option.bind_eq_some_iff.mp H
           obtain ⟨t115, A280, H⟩ := H
           replace H : (if x10_1 < (x9_1.length : Int) then (spec_GreedyCode.l0 k1 a1 t104 y105 y114 (x9_1.set (x10_1 : Int).toNat t115) (wrap64 (x10_1 + 1)) l0_0) else (none)) = some (r1, r2) := H
           have A28 := Aside0.mk A280
           clear A280
           by_cases c29 : x10_1 < (x9_1.length : Int)
           ·rw [if_pos c29] at H
            have c29b0 : decide (x10_1 < (x9_1.length : Int)) = true := decide_eq_true c29
            clear c29
            obtain ⟨y116, hy116⟩ : ∃ y_ : List Int, y_ = (x9_1.set (x10_1 : Int).toNat t115) := ⟨_, rfl⟩
            replace H : (spec_GreedyCode.l0 k1 a1 t104 y105 y114 y116 (wrap64 (x10_1 + 1)) l0_0) = some (r1, r2) := by first | (rw [hy116]; with_reducible exact H) | (have H2_ := (Option.bind_some _ _).symm.trans H; rw [hy116]; with_reducible exact H2_) | (have H2_ := (Option.bind_some _ _).symm.trans H; with_reducible exact H2_) | with_reducible exact H | (rw [hy116]; exact H) | exact H
            have Ny116 := Aside0.mk hy116
            clear hy116
            have H' := Aside0.mk H
            clear H
            have p27 : 0 ≤ (x10_1 : Int) := of_decide_eq_true (by first | (with_reducible assumption) | assumption)
            have q27 : (x10_1 : Int) < ((x8_1.length : Int) : Int) := of_decide_eq_true (by first | (with_reducible assumption) | assumption)
            obtain ⟨go27, co27, eo27, gb27, gl27, cl27, HG27⟩ := Kd.R_form HO_8.out (by omega)
            (first | cases eo27 | (injection eo27 with ea_ en_ ec_; (first | subst ea_ | (injection ea_ with ea_; subst ea_)); subst ec_; clear en_))
            have GB27 := Aside0.mk gb27
            have GG27 := Aside0.mk HG27
            clear gb27 gl27 HG27
            obtain ⟨hx27_0, hf27_0⟩ := Kd.R_celln false HO_8.out (x10_1 : Int) p27 q27
            replace p27 := eq_true p27
            replace q27 := eq_true q27
            have HP31 := Kd.R_putg HO_8.out (x10_1 : Int) true
            go_wp2_with (first | ((with_reducible refine gate_store (t := 4) (p := 39) rfl ?_); refine store_event (t := 4) (p := 39) (v := ?vo_w32) (w1 := (wr.setCell ⟨go27, (x10_1 : Int).toNat, none⟩ (.bool true))) ?hg ?ho ?hn ?hr ?_; (case ho => rfl); (case hg => rfl); (case hn => rfl); (case hr => first | (go_simp; done) | (go_simp; rfl)); intro w32 hw; have hg : wr.grownBy w32 (some go27) := (by rw [hw]; exact HP31.2); have hp_ : Kd.R Kd.bool 4 w32 w.heap.size (fun _ => True) (.slice (some ⟨go27, 0, none⟩) x8_1.length co27) y114 := (by rw [hw, Ny114.out]; exact HP31.1); clear HP31; have n0_ := Aside0.mk (Kd.R_over' (v := (.slice (some ⟨go27, 0, none⟩) x8_1.length co27)) (rb_ HO_7.out) (Kd.R_typed HO_8.out) (by decide) hg); have n1_ := Aside0.mk (hp_); have n2_ := Aside0.mk (Kd.R_over' (v := (.slice (some ⟨go27, 0, none⟩) x8_1.length co27)) (rb_ HO_9.out) (Kd.R_typed HO_8.out) (by decide) hg); have n3_ := Aside0.mk (blk_grown (g := gb101) (o := .cells #[.slice A0_0 l0_0.length c0_0] 26 (0, 0)) (bb_ BK101.out) hg (Kd.R_ne HO_8.out BK101.out (by decide))); have n4_ := Aside0.mk ((by rw [hw]; exact below_set (HB.out) GB27.out : Below w.heap.size w w32)); clear HO_7 HO_8 HO_9 BK101 HB; have HO_7 := n0_; have HO_8 := n1_; have HO_9 := n2_; have BK101 := n3_; have HB := n4_; clear n0_ n1_ n2_ n3_ n4_ hg hw hp_; have hcz33_0 : w32.cell? ⟨gb101, 0, none⟩ = some (.slice A0_0 l0_0.length c0_0) := (blk_cell BK101.out 0).trans rfl; have hfz33_0 := blk_frozen BK101.out 0) | ((with_reducible refine gate_callee (f := 63) rfl ?_); refine goesL_ (some 44) rfl rfl Try.func63 (by kernel_rfl) rfl #[.agg #[.slice A0_0 l0_0.length c0_0], .int .i64 a1] rfl (by (try simp only [List.map_toArray, List.map_cons, List.map_nil]); first | done | rfl | (simp only [List.length_drop, List.length_take]; rfl)) ?_; (with_reducible refine (spec_l01Size.calls k1 _ _ l0_0 a1 t115 _ ?side1 ?side2 A28.out).mono ?_); (case side1 => repeat (first | exact (Kd.C_below HR0_0.out HB.out) | (with_reducible refine Kd.C_alloc ?_ _) | (with_reducible refine Kd.C_drewN ?_ _) | (with_reducible refine Kd.C_drew ?_))); (case side2 => exact HC0_0.out); rintro e w34 ⟨rfl, hb⟩; refine ⟨_, rfl, ?_⟩; have n0_ := Aside0.mk (Kd.R_below (rb_ HO_7.out) hb); have n1_ := Aside0.mk (Kd.R_below (rb_ HO_8.out) hb); have n2_ := Aside0.mk (Kd.R_below (rb_ HO_9.out) hb); have n3_ := Aside0.mk (blk_below (g := gb101) (o := .cells #[.slice A0_0 l0_0.length c0_0] 26 (0, 0)) (bb_ BK101.out) hb); have n4_ := Aside0.mk (below_step (gb_ HB.out) hb); clear HO_7 HO_8 HO_9 BK101 HB; have HO_7 := n0_; have HO_8 := n1_; have HO_9 := n2_; have BK101 := n3_; have HB := n4_; clear n0_ n1_ n2_ n3_ n4_; (try clear hb); (try clear hb2); (try clear hk); (try clear hi); have p30 : 0 ≤ (x10_1 : Int) := of_decide_eq_true (by first | (with_reducible assumption) | assumption); have q30 : (x10_1 : Int) < ((x9_1.length : Int) : Int) := of_decide_eq_true (by first | (with_reducible assumption) | assumption); obtain ⟨go30, co30, eo30, gb30, gl30, cl30, HG30⟩ := Kd.R_form HO_9.out (by omega); (first | cases eo30 | (injection eo30 with ea_ en_ ec_; (first | subst ea_ | (injection ea_ with ea_; subst ea_)); subst ec_; clear en_)); have GB30 := Aside0.mk gb30; have GG30 := Aside0.mk HG30; clear gb30 gl30 HG30; obtain ⟨hx30_0, hf30_0⟩ := Kd.R_celln 0 HO_9.out (x10_1 : Int) p30 q30; replace p30 := eq_true p30; replace q30 := eq_true q30; obtain ⟨hy35_, hz35_⟩ := Kd.R_celln 0 HO_9.out (x10_1 : Int) (of_decide_eq_true (by first | (with_reducible assumption) | assumption)) (of_decide_eq_true (by first | (with_reducible assumption) | assumption)); have HP35 := Kd.R_putg HO_9.out (x10_1 : Int) t115) | ((with_reducible refine gate_store (t := 2) (p := 45) rfl ?_); refine store_event (t := 2) (p := 45) (v := ?vo_w36) (w1 := (w34.setCell ⟨go30, (x10_1 : Int).toNat, none⟩ (.int .i64 t115))) ?hg ?ho ?hn ?hr ?_; (case ho => rfl); (case hg => rfl); (case hn => rfl); (case hr => first | (go_simp; done) | (go_simp; rfl)); intro w36 hw; have hg : w34.grownBy w36 (some go30) := (by rw [hw]; exact HP35.2); have hp_ : Kd.R (Kd.int .i64) 2 w36 w.heap.size (fun k_ => OB_ k_ v106) (.slice (some ⟨go30, 0, none⟩) x9_1.length co30) y116 := (by rw [hw, Ny116.out]; exact HP35.1); clear HP35; have n0_ := Aside0.mk (Kd.R_after (v := (.slice (some ⟨go30, 0, none⟩) x9_1.length co30)) (v1 := (.slice (some ⟨go30, 0, none⟩) x9_1.length co30)) (ok := (fun _ => True)) (rb_ (Kd.R_mono HO_7.out (fun _ hk => ⟨trivial, hk⟩))) hg (.inl rfl)); have n1_ := Aside0.mk (Kd.R_over' (v := (.slice (some ⟨go30, 0, none⟩) x9_1.length co30)) (rb_ HO_8.out) (Kd.R_typed HO_9.out) (by decide) hg); have n2_ := Aside0.mk (hp_); have n3_ := Aside0.mk (blk_grown (g := gb101) (o := .cells #[.slice A0_0 l0_0.length c0_0] 26 (0, 0)) (bb_ BK101.out) hg (Kd.R_ne HO_9.out BK101.out (by decide))); have n4_ := Aside0.mk ((by rw [hw]; exact below_set (HB.out) GB30.out : Below w.heap.size w w36)); clear HO_7 HO_8 HO_9 BK101 HB; have HO_7 := n0_; have HO_8 := n1_; have HO_9 := n2_; have BK101 := n3_; have HB := n4_; clear n0_ n1_ n2_ n3_ n4_ hg hw hp_))
            go_roundg k1
            case measure => have := HK1.out; omega
            case rel => exact ⟨(y114), (y116), (wrap64 (x10_1 + 1)), (by first | rfl | (simp; done) | (simp [*]; done)), H', ⟨by have := HK1.out; omega⟩, ⟨by (with_reducible repeat (first | apply Kd.R_alloc | apply Kd.R_drewN | apply Kd.R_drew)); exact Kd.R_mono HO_7.out (fun _ hk => hk.2)⟩, ⟨by (with_reducible repeat (first | apply Kd.R_alloc | apply Kd.R_drewN | apply Kd.R_drew)); exact HO_8.out⟩, ⟨by (with_reducible repeat (first | apply Kd.R_alloc | apply Kd.R_drewN | apply Kd.R_drew)); exact HO_9.out⟩, ⟨by (with_reducible repeat (first | refine blk_drewN ?_ _ | refine blk_drew ?_ | refine blk_alloc ?_ _)); exact BK101.out⟩, ⟨gb_ HB.out⟩⟩
           ·rw [if_neg c29] at H
            exact absurd H (by simp)
          ·rw [if_neg c26] at H
           exact absurd H (by simp)
         ·rw [if_neg c25] at H
          exact absurd H (by simp)
        ·rw [if_neg c24] at H
         have c24b0 : decide (x10_1 < t104) = false := decide_eq_false c24
         clear c24
         have H' := Aside0.mk H
         clear H
         go_wp2
         go_loopg [7] k1 (fun kq v7 w' => ∃ (x7_2 : List Int) (x8_2 : List Bool) (x9_2 : List Int), Aside0 (spec_GreedyCode.l1 kq a1 t104 x7_2 x8_2 x9_2 l0_0 = some (r1, r2)) ∧ Aside0 (kq ≤ k1) ∧ Aside0 (Kd.R (Kd.int .i64) 2 w' w.heap.size (fun k_ => OB_ k_ v112) v7 x7_2) ∧ Aside0 (Kd.R Kd.bool 4 w' w.heap.size (fun _ => True) v109 x8_2) ∧ Aside0 (Kd.R (Kd.int .i64) 2 w' w.heap.size (fun k_ => OB_ k_ v7) v112 x9_2) ∧ Aside0 (w'.heap[gb101]? = some (.cells #[(.slice A0_0 l0_0.length c0_0)] 26 (0, 0))) ∧ Aside0 (Below w.heap.size w w'))
         case atStart => exact ⟨(y105), (x8_1), (x9_1), H', ⟨Nat.le_refl _⟩, ⟨by (with_reducible repeat (first | apply Kd.R_alloc | apply Kd.R_drewN | apply Kd.R_drew)); exact HO_7.out⟩, ⟨by (with_reducible repeat (first | apply Kd.R_alloc | apply Kd.R_drewN | apply Kd.R_drew)); exact HO_8.out⟩, ⟨by (with_reducible repeat (first | apply Kd.R_alloc | apply Kd.R_drewN | apply Kd.R_drew)); exact HO_9.out⟩, ⟨by (with_reducible repeat (first | refine blk_drewN ?_ _ | refine blk_drew ?_ | refine blk_alloc ?_ _)); exact BK101.out⟩, ⟨gb_ HB.out⟩⟩
         case round =>
          clear H'
          try clear c1
          try clear c2
          try clear p2
          try clear q2
          try clear hx2
          try clear hf2
          try clear c3
          try clear p3
          try clear q3
          try clear hx3
          try clear hf3
          try clear c4
          try clear c6
          try clear p6
          try clear c8
          try clear c8b0
          try clear c8b1
          try clear c9
          try clear c9b0
          try clear c9b1
          try clear c10
          try clear c10b0
          try clear c10b1
          try clear c24
          try clear c24b0
          try clear c25
          try clear c25b0
          try clear c26
          try clear c26b0
          try clear p27
          try clear q27
          try clear hx27
          try clear hf27
          try clear c29
          try clear c29b0
          try clear p30
          try clear q30
          try clear hx30
          try clear hf30
          try clear c31
          try clear c35
          try clear hcz12_0
          try clear hcz14_0
          try clear hcz33_0
          try clear hfz12_0
          try clear hfz14_0
          try clear hfz33_0
          try clear hx27_0
          try clear hx30_0
          try clear p2
          try clear p27
          try clear p30
          try clear q27
          try clear q30
          obtain ⟨x7_2, x8_2, x9_2, HA, HK2, HO_7, HO_8, HO_9, BK101, HB⟩ := hrel
          cases gk with
          | zero => exact absurd HA.out (by simp [spec_GreedyCode.l1])
          | succ k2 =>
           have H := HA.out
           clear HA
           simp only [spec_GreedyCode.l1] at H
           have H' := Aside0.mk H
           clear H
           go_wp2
           go_loopg [11, 12] k2 (fun kq v11 v12 w' => ∃ (x11_3 : Int) (x12_3 : Int), v11 = .int .i64 x11_3 ∧ v12 = .int .i64 x12_3 ∧ Aside0 (spec_GreedyCode.l2 kq a1 t104 x7_2 x8_2 x9_2 x11_3 x12_3 l0_0 = some (r1, r2)) ∧ Aside0 (kq ≤ k2) ∧ Aside0 (Kd.R (Kd.int .i64) 2 w' w.heap.size (fun k_ => OB_ k_ v112) u7 x7_2) ∧ Aside0 (Kd.R Kd.bool 4 w' w.heap.size (fun _ => True) v109 x8_2) ∧ Aside0 (Kd.R (Kd.int .i64) 2 w' w.heap.size (fun k_ => OB_ k_ u7) v112 x9_2) ∧ Aside0 (w'.heap[gb101]? = some (.cells #[(.slice A0_0 l0_0.length c0_0)] 26 (0, 0))) ∧ Aside0 (Below w.heap.size w w'))
           case atStart => exact ⟨(0), (1), (by first | rfl | (simp; done) | (simp [*]; done)), (by first | rfl | (simp; done) | (simp [*]; done)), H', ⟨Nat.le_refl _⟩, ⟨by (with_reducible repeat (first | apply Kd.R_alloc | apply Kd.R_drewN | apply Kd.R_drew)); exact HO_7.out⟩, ⟨by (with_reducible repeat (first | apply Kd.R_alloc | apply Kd.R_drewN | apply Kd.R_drew)); exact HO_8.out⟩, ⟨by (with_reducible repeat (first | apply Kd.R_alloc | apply Kd.R_drewN | apply Kd.R_drew)); exact HO_9.out⟩, ⟨by (with_reducible repeat (first | refine blk_drewN ?_ _ | refine blk_drew ?_ | refine blk_alloc ?_ _)); exact BK101.out⟩, ⟨gb_ HB.out⟩⟩
           case round =>
            clear H'
            try clear c1
            try clear c2
            try clear p2
            try clear q2
            try clear hx2
            try clear hf2
            try clear c3
            try clear p3
            try clear q3
            try clear hx3
            try clear hf3
            try clear c4
            try clear c6
            try clear p6
            try clear c8
            try clear c8b0
            try clear c8b1
            try clear c9
            try clear c9b0
            try clear c9b1
            try clear c10
            try clear c10b0
            try clear c10b1
            try clear c24
            try clear c24b0
            try clear c25
            try clear c25b0
            try clear c26
            try clear c26b0
            try clear p27
            try clear q27
            try clear hx27
            try clear hf27
            try clear c29
            try clear c29b0
            try clear p30
            try clear q30
            try clear hx30
            try clear hf30
            try clear c31
            try clear c35
            try clear hcz12_0
            try clear hcz14_0
            try clear hcz33_0
            try clear hfz12_0
            try clear hfz14_0
            try clear hfz33_0
            try clear hx27_0
            try clear hx30_0
            try clear p2
            try clear p27
            try clear p3
            try clear p30
            try clear p6
            try clear q2
            try clear q27
            try clear q3
            try clear q30
            obtain ⟨x11_3, x12_3, rfl, rfl, HA, HK3, HO_7, HO_8, HO_9, BK101, HB⟩ := hrel
            cases gk with
            | zero => exact absurd HA.out (by simp [spec_GreedyCode.l2])
            | succ k3 =>
             have H := HA.out
             clear HA
             simp only [spec_GreedyCode.l2] at H
             by_cases c37 : x12_3 < t104
             ·rw [if_pos c37] at H
              have c37b0 : decide (x12_3 < t104) = true := decide_eq_true c37
              clear c37
              by_cases c38 : 0 ≤ x12_3
              ·rw [if_pos c38] at H
               have c38b0 : decide (0 ≤ x12_3) = true := decide_eq_true c38
               clear c38
               by_cases c39 : x12_3 < (x9_2.length : Int)
               ·rw [if_pos c39] at H
                have c39b0 : decide (x12_3 < (x9_2.length : Int)) = true := decide_eq_true c39
                clear c39
                by_cases c40 : 0 ≤ x11_3
                ·rw [if_pos c40] at H
                 have c40b0 : decide (0 ≤ x11_3) = true := decide_eq_true c40
                 clear c40
                 by_cases c41 : x11_3 < (x9_2.length : Int)
                 ·rw [if_pos c41] at H
                  have c41b0 : decide (x11_3 < (x9_2.length : Int)) = true := decide_eq_true c41
                  clear c41
                  by_cases c42 : (rd x9_2 x12_3) > (rd x9_2 x11_3)
                  ·rw [if_pos c42] at H
                   have c42b0 : decide ((rd x9_2 x11_3) < (rd x9_2 x12_3)) = true := decide_eq_true c42
                   clear c42
                   have H' := Aside0.mk H
                   clear H
                   try go_wp2
                   have n0_ := Aside0.mk (Kd.R_drew HO_7.out)
                   have n1_ := Aside0.mk (Kd.R_drew HO_8.out)
                   have n2_ := Aside0.mk (Kd.R_drew HO_9.out)
                   have n3_ := Aside0.mk (blk_drew BK101.out)
                   have n4_ := Aside0.mk (below_drew1 HB.out)
                   clear HO_7 HO_8 HO_9 BK101 HB
                   have HO_7 := n0_
                   have HO_8 := n1_
                   have HO_9 := n2_
                   have BK101 := n3_
                   have HB := n4_
                   clear n0_ n1_ n2_ n3_ n4_
                   obtain ⟨Ao44, co44, eo44⟩ := Kd.R_slice HO_9.out
                   (first | subst eo44 | (injection eo44 with f1_ f2_ f3_; have f4_ := f1_.symm; have f5_ := f3_.symm; clear f1_ f2_ f3_; subst f4_; subst f5_))
                   have p117 : 0 ≤ (x12_3 : Int) := of_decide_eq_true (by first | (with_reducible assumption) | assumption)
                   have q117 : x12_3 < (x9_2.length : Int) := of_decide_eq_true (by first | (with_reducible assumption) | assumption)
                   obtain ⟨ad117, e117, hx117_0⟩ := Kd.at_int (Kd.R_reads' HO_9.out).2.2 x12_3 p117 q117
                   cases e117
                   replace p117 := eq_true p117
                   replace q117 := eq_true q117
                   have p118 : 0 ≤ (x11_3 : Int) := of_decide_eq_true (by first | (with_reducible assumption) | assumption)
                   have q118 : x11_3 < (x9_2.length : Int) := of_decide_eq_true (by first | (with_reducible assumption) | assumption)
                   obtain ⟨ad118, e118, hx118_0⟩ := Kd.at_int (Kd.R_reads' HO_9.out).2.2 x11_3 p118 q118
                   obtain rfl : ad117 = ad118 := (by injection e118)
                   replace p118 := eq_true p118
                   replace q118 := eq_true q118
                   refine start_ (n := 9) (S := fun w' => w'.cell? (ad117.add (x12_3).toNat) = some (.int .i64 (rd x9_2 x12_3)) ∧ w'.cell? (ad117.add (x11_3).toNat) = some (.int .i64 (rd x9_2 x11_3))) (ds := []) #[false, false, false, false, false, false, false, false, false] (by kernel_rfl) rfl rfl ⟨hx117_0, hx118_0⟩ (fun hHeld => ?_); refine with_tabW spec_GreedyCode.tab16 spec_GreedyCode.bits16 (fun HT_ HW_ => ?_)
                   generalize wr.drew = w43 at HO_7 HO_8 HO_9 BK101 HB hx117_0 hx118_0 hHeld ⊢
                   refine pure_ (i := 0) (N := some 51) (v := ?_) (a' := ?_) #[true, false, false, false, false, false, false, false, false] rfl rfl (any_of HT_.out (by kernel_rfl)) (fun _ _ _ h => h) (Or.inl ⟨by rfl, ?_⟩) ?_ ?_
                   rotate_left
                   ·intro w'
                    go_simp
                    with_reducible rfl
                   rotate_left
                   ·simp only [Act.put, List.setIfInBounds_toArray, List.set_cons_zero, List.set_cons_succ, i64_w, i32_w]
                    rfl
                   refine pure_ (i := 1) (N := some 52) (v := ?_) (a' := ?_) #[true, true, false, false, false, false, false, false, false] rfl rfl (any_of HT_.out (by kernel_rfl)) (fun _ _ _ h => h) (Or.inl ⟨by rfl, ?_⟩) ?_ ?_
                   rotate_left
                   ·intro w'
                    go_simp
                    with_reducible rfl
                   rotate_left
                   ·simp only [Act.put, List.setIfInBounds_toArray, List.set_cons_zero, List.set_cons_succ, i64_w, i32_w]
                    rfl
                   refine pure_ (i := 2) (N := some 53) (v := ?_) (a' := ?_) #[true, true, true, false, false, false, false, false, false] rfl rfl (any_of HT_.out (by kernel_rfl)) (fun _ _ _ h => h) (Or.inl ⟨by rfl, ?_⟩) ?_ ?_
                   rotate_left
                   ·intro w'
                    go_simp
                    with_reducible rfl
                   rotate_left
                   ·simp only [Act.put, List.setIfInBounds_toArray, List.set_cons_zero, List.set_cons_succ, i64_w, i32_w]
                    rfl
                   refine pure_ (i := 4) (N := some 55) (v := ?_) (a' := ?_) #[true, true, true, false, true, false, false, false, false] rfl rfl (any_of HT_.out (by kernel_rfl)) (fun _ _ _ h => h) (Or.inl ⟨by rfl, ?_⟩) ?_ ?_
                   rotate_left
                   ·intro w'
                    go_simp
                    with_reducible rfl
                   rotate_left
                   ·simp only [Act.put, List.setIfInBounds_toArray, List.set_cons_zero, List.set_cons_succ, i64_w, i32_w]
                    rfl
                   refine pure_ (i := 5) (N := some 56) (v := ?_) (a' := ?_) #[true, true, true, false, true, true, false, false, false] rfl rfl (any_of HT_.out (by kernel_rfl)) (fun _ _ _ h => h) (Or.inl ⟨by rfl, ?_⟩) ?_ ?_
                   rotate_left
                   ·intro w'
                    go_simp
                    with_reducible rfl
                   rotate_left
                   ·simp only [Act.put, List.setIfInBounds_toArray, List.set_cons_zero, List.set_cons_succ, i64_w, i32_w]
                    rfl
                   refine pure_ (i := 6) (N := some 57) (v := ?_) (a' := ?_) #[true, true, true, false, true, true, true, false, false] rfl rfl (any_of HT_.out (by kernel_rfl)) (fun _ _ _ h => h) (Or.inl ⟨by rfl, ?_⟩) ?_ ?_
                   rotate_left
                   ·intro w'
                    go_simp
                    with_reducible rfl
                   rotate_left
                   ·simp only [Act.put, List.setIfInBounds_toArray, List.set_cons_zero, List.set_cons_succ, i64_w, i32_w]
                    rfl
                   refine take_ (i := 3) (N := some 54) (v := ?_) (a' := ?_) #[true, true, true, true, true, true, true, false, false] rfl rfl (take_ofW HT_.out HW_.out (by kernel_rfl)) (fun _ _ _ h => h) (Or.inl ⟨by rfl, ?_⟩) hHeld ?_ ?_
                   rotate_left
                   ·rintro w' ⟨s0, s1⟩
                    go_simp
                    with_reducible rfl
                   rotate_left
                   ·simp only [Act.put, List.setIfInBounds_toArray, List.set_cons_zero, List.set_cons_succ, i64_w, i32_w]
                    rfl
                   refine take_ (i := 7) (N := some 58) (v := ?_) (a' := ?_) #[true, true, true, true, true, true, true, true, false] rfl rfl (take_ofW HT_.out HW_.out (by kernel_rfl)) (fun _ _ _ h => h) (Or.inl ⟨by rfl, ?_⟩) hHeld ?_ ?_
                   rotate_left
                   ·rintro w' ⟨s0, s1⟩
                    go_simp
                    with_reducible rfl
                   rotate_left
                   ·simp only [Act.put, List.setIfInBounds_toArray, List.set_cons_zero, List.set_cons_succ, i64_w, i32_w]
                    rfl
                   refine pure_ (i := 8) (N := some 59) (v := ?_) (a' := ?_) #[true, true, true, true, true, true, true, true, true] rfl rfl (any_of HT_.out (by kernel_rfl)) (fun _ _ _ h => h) (Or.inl ⟨by rfl, ?_⟩) ?_ ?_
                   rotate_left
                   ·intro w'
                    go_simp
                    with_reducible rfl
                   rotate_left
                   ·simp only [Act.put, List.setIfInBounds_toArray, List.set_cons_zero, List.set_cons_succ, i64_w, i32_w]
                    rfl
                   refine done_ (done_of HT_.out (by kernel_rfl)) ?_
                   try go_wp2
                   go_roundg k3
                   case measure => have := HK1.out; have := HK2.out; have := HK3.out; omega
                   case rel => exact ⟨(x12_3), (wrap64 (x12_3 + 1)), (by first | rfl | (simp; done) | (simp [*]; done)), (by first | rfl | (simp; done) | (simp [*]; done)), H', ⟨by have := HK1.out; have := HK2.out; have := HK3.out; omega⟩, ⟨by (with_reducible repeat (first | apply Kd.R_alloc | apply Kd.R_drewN | apply Kd.R_drew)); exact HO_7.out⟩, ⟨by (with_reducible repeat (first | apply Kd.R_alloc | apply Kd.R_drewN | apply Kd.R_drew)); exact HO_8.out⟩, ⟨by (with_reducible repeat (first | apply Kd.R_alloc | apply Kd.R_drewN | apply Kd.R_drew)); exact HO_9.out⟩, ⟨by (with_reducible repeat (first | refine blk_drewN ?_ _ | refine blk_drew ?_ | refine blk_alloc ?_ _)); exact BK101.out⟩, ⟨gb_ HB.out⟩⟩
                  ·rw [if_neg c42] at H
                   have c42b0 : decide ((rd x9_2 x11_3) < (rd x9_2 x12_3)) = false := decide_eq_false c42
                   clear c42
                   have H' := Aside0.mk H
                   clear H
                   try go_wp2
                   have n0_ := Aside0.mk (Kd.R_drew HO_7.out)
                   have n1_ := Aside0.mk (Kd.R_drew HO_8.out)
                   have n2_ := Aside0.mk (Kd.R_drew HO_9.out)
                   have n3_ := Aside0.mk (blk_drew BK101.out)
                   have n4_ := Aside0.mk (below_drew1 HB.out)
                   clear HO_7 HO_8 HO_9 BK101 HB
                   have HO_7 := n0_
                   have HO_8 := n1_
                   have HO_9 := n2_
                   have BK101 := n3_
                   have HB := n4_
                   clear n0_ n1_ n2_ n3_ n4_
                   obtain ⟨Ao46, co46, eo46⟩ := Kd.R_slice HO_9.out
                   (first | subst eo46 | (injection eo46 with f1_ f2_ f3_; have f4_ := f1_.symm; have f5_ := f3_.symm; clear f1_ f2_ f3_; subst f4_; subst f5_))
                   have p117 : 0 ≤ (x12_3 : Int) := of_decide_eq_true (by first | (with_reducible assumption) | assumption)
                   have q117 : x12_3 < (x9_2.length : Int) := of_decide_eq_true (by first | (with_reducible assumption) | assumption)
                   obtain ⟨ad117, e117, hx117_0⟩ := Kd.at_int (Kd.R_reads' HO_9.out).2.2 x12_3 p117 q117
                   cases e117
                   replace p117 := eq_true p117
                   replace q117 := eq_true q117
                   have p118 : 0 ≤ (x11_3 : Int) := of_decide_eq_true (by first | (with_reducible assumption) | assumption)
                   have q118 : x11_3 < (x9_2.length : Int) := of_decide_eq_true (by first | (with_reducible assumption) | assumption)
                   obtain ⟨ad118, e118, hx118_0⟩ := Kd.at_int (Kd.R_reads' HO_9.out).2.2 x11_3 p118 q118
                   obtain rfl : ad117 = ad118 := (by injection e118)
                   replace p118 := eq_true p118
                   replace q118 := eq_true q118
                   refine start_ (n := 9) (S := fun w' => w'.cell? (ad117.add (x12_3).toNat) = some (.int .i64 (rd x9_2 x12_3)) ∧ w'.cell? (ad117.add (x11_3).toNat) = some (.int .i64 (rd x9_2 x11_3))) (ds := []) #[false, false, false, false, false, false, false, false, false] (by kernel_rfl) rfl rfl ⟨hx117_0, hx118_0⟩ (fun hHeld => ?_); refine with_tabW spec_GreedyCode.tab16 spec_GreedyCode.bits16 (fun HT_ HW_ => ?_)
                   generalize wr.drew = w45 at HO_7 HO_8 HO_9 BK101 HB hx117_0 hx118_0 hHeld ⊢
                   refine pure_ (i := 0) (N := some 51) (v := ?_) (a' := ?_) #[true, false, false, false, false, false, false, false, false] rfl rfl (any_of HT_.out (by kernel_rfl)) (fun _ _ _ h => h) (Or.inl ⟨by rfl, ?_⟩) ?_ ?_
                   rotate_left
                   ·intro w'
                    go_simp
                    with_reducible rfl
                   rotate_left
                   ·simp only [Act.put, List.setIfInBounds_toArray, List.set_cons_zero, List.set_cons_succ, i64_w, i32_w]
                    rfl
                   refine pure_ (i := 1) (N := some 52) (v := ?_) (a' := ?_) #[true, true, false, false, false, false, false, false, false] rfl rfl (any_of HT_.out (by kernel_rfl)) (fun _ _ _ h => h) (Or.inl ⟨by rfl, ?_⟩) ?_ ?_
                   rotate_left
                   ·intro w'
                    go_simp
                    with_reducible rfl
                   rotate_left
                   ·simp only [Act.put, List.setIfInBounds_toArray, List.set_cons_zero, List.set_cons_succ, i64_w, i32_w]
                    rfl
                   refine pure_ (i := 2) (N := some 53) (v := ?_) (a' := ?_) #[true, true, true, false, false, false, false, false, false] rfl rfl (any_of HT_.out (by kernel_rfl)) (fun _ _ _ h => h) (Or.inl ⟨by rfl, ?_⟩) ?_ ?_
                   rotate_left
                   ·intro w'
                    go_simp
                    with_reducible rfl
                   rotate_left
                   ·simp only [Act.put, List.setIfInBounds_toArray, List.set_cons_zero, List.set_cons_succ, i64_w, i32_w]
                    rfl
                   refine pure_ (i := 4) (N := some 55) (v := ?_) (a' := ?_) #[true, true, true, false, true, false, false, false, false] rfl rfl (any_of HT_.out (by kernel_rfl)) (fun _ _ _ h => h) (Or.inl ⟨by rfl, ?_⟩) ?_ ?_
                   rotate_left
                   ·intro w'
                    go_simp
                    with_reducible rfl
                   rotate_left
                   ·simp only [Act.put, List.setIfInBounds_toArray, List.set_cons_zero, List.set_cons_succ, i64_w, i32_w]
                    rfl
                   refine pure_ (i := 5) (N := some 56) (v := ?_) (a' := ?_) #[true, true, true, false, true, true, false, false, false] rfl rfl (any_of HT_.out (by kernel_rfl)) (fun _ _ _ h => h) (Or.inl ⟨by rfl, ?_⟩) ?_ ?_
                   rotate_left
                   ·intro w'
                    go_simp
                    with_reducible rfl
                   rotate_left
                   ·simp only [Act.put, List.setIfInBounds_toArray, List.set_cons_zero, List.set_cons_succ, i64_w, i32_w]
                    rfl
                   refine pure_ (i := 6) (N := some 57) (v := ?_) (a' := ?_) #[true, true, true, false, true, true, true, false, false] rfl rfl (any_of HT_.out (by kernel_rfl)) (fun _ _ _ h => h) (Or.inl ⟨by rfl, ?_⟩) ?_ ?_
                   rotate_left
                   ·intro w'
                    go_simp
                    with_reducible rfl
                   rotate_left
                   ·simp only [Act.put, List.setIfInBounds_toArray, List.set_cons_zero, List.set_cons_succ, i64_w, i32_w]
                    rfl
                   refine take_ (i := 3) (N := some 54) (v := ?_) (a' := ?_) #[true, true, true, true, true, true, true, false, false] rfl rfl (take_ofW HT_.out HW_.out (by kernel_rfl)) (fun _ _ _ h => h) (Or.inl ⟨by rfl, ?_⟩) hHeld ?_ ?_
                   rotate_left
                   ·rintro w' ⟨s0, s1⟩
                    go_simp
                    with_reducible rfl
                   rotate_left
                   ·simp only [Act.put, List.setIfInBounds_toArray, List.set_cons_zero, List.set_cons_succ, i64_w, i32_w]
                    rfl
                   refine take_ (i := 7) (N := some 58) (v := ?_) (a' := ?_) #[true, true, true, true, true, true, true, true, false] rfl rfl (take_ofW HT_.out HW_.out (by kernel_rfl)) (fun _ _ _ h => h) (Or.inl ⟨by rfl, ?_⟩) hHeld ?_ ?_
                   rotate_left
                   ·rintro w' ⟨s0, s1⟩
                    go_simp
                    with_reducible rfl
                   rotate_left
                   ·simp only [Act.put, List.setIfInBounds_toArray, List.set_cons_zero, List.set_cons_succ, i64_w, i32_w]
                    rfl
                   refine pure_ (i := 8) (N := some 59) (v := ?_) (a' := ?_) #[true, true, true, true, true, true, true, true, true] rfl rfl (any_of HT_.out (by kernel_rfl)) (fun _ _ _ h => h) (Or.inl ⟨by rfl, ?_⟩) ?_ ?_
                   rotate_left
                   ·intro w'
                    go_simp
                    with_reducible rfl
                   rotate_left
                   ·simp only [Act.put, List.setIfInBounds_toArray, List.set_cons_zero, List.set_cons_succ, i64_w, i32_w]
                    rfl
                   refine done_ (done_of HT_.out (by kernel_rfl)) ?_
                   try go_wp2
                   go_roundg k3
                   case measure => have := HK1.out; have := HK2.out; have := HK3.out; omega
                   case rel => exact ⟨(x11_3), (wrap64 (x12_3 + 1)), (by first | rfl | (simp; done) | (simp [*]; done)), (by first | rfl | (simp; done) | (simp [*]; done)), H', ⟨by have := HK1.out; have := HK2.out; have := HK3.out; omega⟩, ⟨by (with_reducible repeat (first | apply Kd.R_alloc | apply Kd.R_drewN | apply Kd.R_drew)); exact HO_7.out⟩, ⟨by (with_reducible repeat (first | apply Kd.R_alloc | apply Kd.R_drewN | apply Kd.R_drew)); exact HO_8.out⟩, ⟨by (with_reducible repeat (first | apply Kd.R_alloc | apply Kd.R_drewN | apply Kd.R_drew)); exact HO_9.out⟩, ⟨by (with_reducible repeat (first | refine blk_drewN ?_ _ | refine blk_drew ?_ | refine blk_alloc ?_ _)); exact BK101.out⟩, ⟨gb_ HB.out⟩⟩
                 ·rw [if_neg c41] at H
                  exact absurd H (by simp)
                ·rw [if_neg c40] at H
                 exact absurd H (by simp)
               ·rw [if_neg c39] at H
                exact absurd H (by simp)
              ·rw [if_neg c38] at H
               exact absurd H (by simp)
             ·rw [if_neg c37] at H
              have c37b0 : decide (x12_3 < t104) = false := decide_eq_false c37
              clear c37
              by_cases c47 : 0 ≤ x11_3
              ·rw [if_pos c47] at H
               have c47b0 : decide (0 ≤ x11_3) = true := decide_eq_true c47
               clear c47
               by_cases c48 : x11_3 < (x9_2.length : Int)
               ·rw [if_pos c48] at H
                have c48b0 : decide (x11_3 < (x9_2.length : Int)) = true := decide_eq_true c48
                clear c48
                by_cases c49 : (rd x9_2 x11_3) = 0
                ·rw [if_pos c49] at H
                 have c49b0 : ((rd x9_2 x11_3) == 0) = true := beq_iff_eq.mpr c49
                 have c49b1 : ((rd x9_2 x11_3) != 0) = false := bne_eq_false_iff_eq.mpr c49
                 clear c49
                 simp only [Option.some.injEq, Prod.mk.injEq] at H
                 obtain ⟨rfl, rfl⟩ := H
                 obtain ⟨Ao50, co50, eo50⟩ := Kd.R_slice HO_9.out
                 subst eo50
                 have p119 : 0 ≤ (x11_3 : Int) := of_decide_eq_true (by first | (with_reducible assumption) | assumption)
                 have q119 : x11_3 < (x9_2.length : Int) := of_decide_eq_true (by first | (with_reducible assumption) | assumption)
                 obtain ⟨ad119, e119, hx119_0⟩ := Kd.at_int (Kd.R_reads' HO_9.out).2.2 x11_3 p119 q119
                 cases e119
                 replace p119 := eq_true p119
                 replace q119 := eq_true q119
                 go_wp2
                 go_ret2
                 exact ⟨_, by first | rfl | (simp [errW_none, errW_some] <;> rfl) | (simp [*, errW_none, errW_some] <;> rfl), by (with_reducible repeat (first | apply Kd.R_alloc | apply Kd.R_drewN | apply Kd.R_drew)); exact Kd.R_mono HO_7.out (fun _ hk => trivial), gb_ HB.out⟩
                ·rw [if_neg c49] at H
                 have c49b0 : ((rd x9_2 x11_3) == 0) = false := beq_eq_false_iff_ne.mpr c49
                 have c49b1 : ((rd x9_2 x11_3) != 0) = true := bne_iff_ne.mpr c49
                 replace H := Option.bind_eq_some_iff.mp H
                 obtain ⟨t120, A510, H⟩ := H
                 replace H : ((spec_l01Ball.f k3 l0_0 x11_3 a1).bind fun t123 => (spec_GreedyCode.l3 k3 a1 t104 t120 x8_2 x9_2 t123 0 l0_0)) = some (r1, r2) := H
                 have A51 := Aside0.mk A510
                 clear A510
                 replace H := Option.bind_eq_some_iff.mp H
                 obtain ⟨t123, A520, H⟩ := H
                 replace H : (spec_GreedyCode.l3 k3 a1 t104 t120 x8_2 x9_2 t123 0 l0_0) = some (r1, r2) := H
                 have A52 := Aside0.mk A520
                 clear A520
                 have H' := Aside0.mk H
                 clear H
                 obtain ⟨Ao53, co53, eo53⟩ := Kd.R_slice HO_9.out
                 subst eo53
                 have p119 : 0 ≤ (x11_3 : Int) := of_decide_eq_true (by first | (with_reducible assumption) | assumption)
                 have q119 : x11_3 < (x9_2.length : Int) := of_decide_eq_true (by first | (with_reducible assumption) | assumption)
                 obtain ⟨ad119, e119, hx119_0⟩ := Kd.at_int (Kd.R_reads' HO_9.out).2.2 x11_3 p119 q119
                 cases e119
                 replace p119 := eq_true p119
                 replace q119 := eq_true q119
                 obtain ⟨Ao54, co54, eo54⟩ := Kd.R_slice HO_7.out
                 subst eo54
                 go_wp2_with (first | ((with_reducible refine gate_callee (f := 64) rfl ?_); refine goesL_ (some 69) rfl rfl Try.func64 (by kernel_rfl) rfl #[.slice Ao54 x7_2.length co54, .int .i64 x11_3] rfl (by (try simp only [List.map_toArray, List.map_cons, List.map_nil]); first | done | rfl | (simp only [List.length_drop, List.length_take]; rfl)) ?_; (with_reducible refine (spec_l01Put.calls k3 (fun k_ => some k_ = (.slice Ao54 x7_2.length co54 : Value).ownBlock) (.slice Ao54 x7_2.length co54) x7_2 x11_3 t120 w _ ?side1 ?side2 A51.out).mono ?_); (case side1 => repeat (first | (with_reducible first | exact HB.out | apply below_alloc | apply pw_below_drewN | apply below_drew1 | refine below_set ?_ GE101.out) | exact HB.out)); (case side2 => exact Kd.R_tight rfl HO_7.out); rintro e w55 ⟨v121, rfl, ho0, hb, hkp⟩; refine ⟨_, rfl, ?_⟩; have n0_ := Aside0.mk (Kd.R_mono (ok' := fun k_ => True) (Kd.R_keptB ((Kd.R_apart' HO_8.out (Kd.R_typed HO_7.out) (by decide))) hkp (fun k_ hk_ hs_ => (hk_.2) hs_)) (fun k_ hk_ => trivial)); have n1_ := Aside0.mk (Kd.R_mono (ok' := fun k_ => OB_ k_ v121) (Kd.R_keptB (HO_9.out) hkp (fun k_ hk_ hs_ => (hk_) hs_)) (fun k_ hk_ => fun e_ => Or.elim (ho0.1 k_ e_.symm) (fun hs_ => hk_.2.1 hs_) (fun hn_ => Nat.not_le.2 hk_.2.2 hn_))); have n2_ := Aside0.mk (blk_kept (bb_ BK101.out) hkp (fun hs_ => (fun e_ => (Kd.R_ne HO_7.out BK101.out (by decide)) e_) hs_)); have n3_ := Aside0.mk (Kd.R_mono (ok' := fun k_ => OB_ k_ (.slice (some ad119) x9_2.length co53)) ho0 (fun k_ hk_ => Or.elim hk_ (fun hs_ => fun e_ => (((HO_9.out).1 k_ e_.symm)) hs_) (fun hn_ => (Kd.fresh' (Kd.R_lt (rb_ HO_9.out)) k_ hn_)))); have n4_ := Aside0.mk (hb); clear HO_8 HO_9 BK101 HB HO_7; have HO_8 := n0_; have HO_9 := n1_; have BK101 := n2_; have HO122 := n3_; have HB := n4_; clear n0_ n1_ n2_ n3_ n4_; (try clear hb); (try clear hkp); (try clear ho0); have hcz56_0 : w55.cell? ⟨gb101, 0, none⟩ = some (.slice A0_0 l0_0.length c0_0) := (blk_cell BK101.out 0).trans rfl; have hfz56_0 := blk_frozen BK101.out 0) | ((with_reducible refine gate_callee (f := 65) rfl ?_); refine goesL_ (some 73) rfl rfl Try.func65 (by kernel_rfl) rfl #[.agg #[.slice A0_0 l0_0.length c0_0], .int .i64 x11_3, .int .i64 a1] rfl (by (try simp only [List.map_toArray, List.map_cons, List.map_nil]); first | done | rfl | (simp only [List.length_drop, List.length_take]; rfl)) ?_; (with_reducible refine (spec_l01Ball.calls k3 _ _ l0_0 x11_3 a1 t123 _ ?side1 ?side2 A52.out).mono ?_); (case side1 => repeat (first | exact (Kd.C_below HR0_0.out HB.out) | (with_reducible refine Kd.C_alloc ?_ _) | (with_reducible refine Kd.C_drewN ?_ _) | (with_reducible refine Kd.C_drew ?_))); (case side2 => exact HC0_0.out); rintro e w57 ⟨v124, rfl, ho0, hb⟩; refine ⟨_, rfl, ?_⟩; have n0_ := Aside0.mk (Kd.R_below (rb_ HO_8.out) hb); have n1_ := Aside0.mk (Kd.R_elder' (rb_ HO_9.out) (Kd.R_base ho0) hb); have n2_ := Aside0.mk (Kd.R_elder' (rb_ HO122.out) (Kd.R_base ho0) hb); have n3_ := Aside0.mk (Kd.R_lower (Kd.R_new' (Kd.R_new' ho0 (Kd.R_lt (rb_ HO_9.out))) (Kd.R_lt (rb_ HO122.out))) (below_size (gb_ HB.out))); have n4_ := Aside0.mk (blk_below (g := gb101) (o := .cells #[.slice A0_0 l0_0.length c0_0] 26 (0, 0)) (bb_ BK101.out) hb); have n5_ := Aside0.mk (below_step (gb_ HB.out) hb); clear HO_8 HO_9 HO122 BK101 HB; have HO_8 := n0_; have HO_9 := n1_; have HO122 := n2_; have HO125 := n3_; have BK101 := n4_; have HB := n5_; clear n0_ n1_ n2_ n3_ n4_ n5_; (try clear hb); (try clear hb2); (try clear hk); (try clear hi); (try clear ho0)))
                 generalize ad119.add x11_3.toNat = aq_
                 go_loopg [14] k3 (fun kq v14 w' => ∃ (x8_4 : List Bool) (x9_4 : List Int) (x14_4 : Int), v14 = .int .i64 x14_4 ∧ Aside0 (spec_GreedyCode.l3 kq a1 t104 t120 x8_4 x9_4 t123 x14_4 l0_0 = some (r1, r2)) ∧ Aside0 (kq ≤ k3) ∧ Aside0 (Kd.R (Kd.int .i64) 2 w' w.heap.size (fun k_ => OB_ k_ (.slice (some ad119) x9_2.length co53) ∧ OB_ k_ v124) v121 t120) ∧ Aside0 (Kd.R Kd.bool 4 w' w.heap.size (fun _ => True) v109 x8_4) ∧ Aside0 (Kd.R (Kd.int .i64) 2 w' w.heap.size (fun k_ => OB_ k_ v121 ∧ OB_ k_ v124) (.slice (some ad119) x9_2.length co53) x9_4) ∧ Aside0 (Kd.R (Kd.int .i64) 2 w' w.heap.size (fun k_ => OB_ k_ v121 ∧ OB_ k_ (.slice (some ad119) x9_2.length co53)) v124 t123) ∧ Aside0 (w'.heap[gb101]? = some (.cells #[(.slice A0_0 l0_0.length c0_0)] 26 (0, 0))) ∧ Aside0 (Below w.heap.size w w'))
                 case atStart => exact ⟨(x8_2), (x9_2), (0), (by first | rfl | (simp; done) | (simp [*]; done)), H', ⟨Nat.le_refl _⟩, ⟨by (with_reducible repeat (first | apply Kd.R_alloc | apply Kd.R_drewN | apply Kd.R_drew)); exact HO122.out⟩, ⟨by (with_reducible repeat (first | apply Kd.R_alloc | apply Kd.R_drewN | apply Kd.R_drew)); exact HO_8.out⟩, ⟨by (with_reducible repeat (first | apply Kd.R_alloc | apply Kd.R_drewN | apply Kd.R_drew)); exact HO_9.out⟩, ⟨by (with_reducible repeat (first | apply Kd.R_alloc | apply Kd.R_drewN | apply Kd.R_drew)); exact Kd.R_mono HO125.out (fun _ hk => ⟨hk.2, hk.1.2⟩)⟩, ⟨by (with_reducible repeat (first | refine blk_drewN ?_ _ | refine blk_drew ?_ | refine blk_alloc ?_ _)); exact BK101.out⟩, ⟨gb_ HB.out⟩⟩
                 case round =>
                  clear H'
                  try clear c1
                  try clear p1
                  try clear q1
                  try clear hx1
                  try clear c2
                  try clear p2
                  try clear q2
                  try clear hx2
                  try clear hf2
                  try clear c3
                  try clear p3
                  try clear q3
                  try clear hx3
                  try clear hf3
                  try clear c4
                  try clear c6
                  try clear p6
                  try clear c8
                  try clear c8b0
                  try clear c8b1
                  try clear c9
                  try clear c9b0
                  try clear c9b1
                  try clear c10
                  try clear c10b0
                  try clear c10b1
                  try clear p11
                  try clear q11
                  try clear hx11
                  try clear c24
                  try clear c24b0
                  try clear c25
                  try clear c25b0
                  try clear c26
                  try clear c26b0
                  try clear p27
                  try clear q27
                  try clear hx27
                  try clear hf27
                  try clear c29
                  try clear c29b0
                  try clear p30
                  try clear q30
                  try clear hx30
                  try clear hf30
                  try clear c31
                  try clear c35
                  try clear c37
                  try clear c37b0
                  try clear c38
                  try clear c38b0
                  try clear c39
                  try clear c39b0
                  try clear c40
                  try clear c40b0
                  try clear c41
                  try clear c41b0
                  try clear c42
                  try clear c42b0
                  try clear c47
                  try clear c47b0
                  try clear c48
                  try clear c48b0
                  try clear c49
                  try clear c49b0
                  try clear c49b1
                  try clear hcz12_0
                  try clear hcz14_0
                  try clear hcz33_0
                  try clear hcz56_0
                  try clear hfz12_0
                  try clear hfz14_0
                  try clear hfz33_0
                  try clear hfz56_0
                  try clear hx117_0
                  try clear hx118_0
                  try clear hx119_0
                  try clear hx27_0
                  try clear hx30_0
                  try clear p117
                  try clear p118
                  try clear p119
                  try clear p2
                  try clear p27
                  try clear p3
                  try clear p30
                  try clear p6
                  try clear q117
                  try clear q118
                  try clear q119
                  try clear q2
                  try clear q27
                  try clear q3
                  try clear q30
                  obtain ⟨x8_4, x9_4, x14_4, rfl, HA, HK4, HO_7, HO_8, HO_9, HO_13, BK101, HB⟩ := hrel
                  have hl9_4 := (Kd.R_reads' HO_9.out).1
                  rw [hl9_4] at HO_9
                  (try simp only [hl9_4])
                  (try simp only [hl9_4] at BK101)
                  (try simp only [hl9_4] at HO_7)
                  (try simp only [hl9_4] at HO_8)
                  (try simp only [hl9_4] at HO_13)
                  cases gk with
                  | zero => exact absurd HA.out (by simp [spec_GreedyCode.l3])
                  | succ k4 =>
                   have H := HA.out
                   clear HA
                   simp only [spec_GreedyCode.l3] at H
                   by_cases c58 : x14_4 < (t123.length : Int)
                   ·rw [if_pos c58] at H
                    have c58b0 : decide (x14_4 < (t123.length : Int)) = true := decide_eq_true c58
                    clear c58
                    by_cases c59 : 0 ≤ x14_4
                    ·rw [if_pos c59] at H
                     have c59b0 : decide (0 ≤ x14_4) = true := decide_eq_true c59
                     clear c59
                     by_cases c60 : 0 ≤ (rd t123 x14_4)
                     ·rw [if_pos c60] at H
                      have c60b0 : decide (0 ≤ (rd t123 x14_4)) = true := decide_eq_true c60
                      clear c60
                      by_cases c61 : (rd t123 x14_4) < (x8_4.length : Int)
                      ·rw [if_pos c61] at H
                       have c61b0 : decide ((rd t123 x14_4) < (x8_4.length : Int)) = true := decide_eq_true c61
                       clear c61
                       obtain ⟨bq62, hbq62⟩ : ∃ b_ : Bool, b_ = (rdOf false x8_4 (rd t123 x14_4)) := ⟨_, rfl⟩
                       replace H : (if (bq62 = true) then ((spec_l01Ball.f k4 l0_0 (rd t123 x14_4) a1).bind fun t131 => (spec_GreedyCode.l4 k4 a1 t104 t120 (x8_4.set ((rd t123 x14_4) : Int).toNat false) x9_4 t123 x14_4 t131 0 l0_0)) else (spec_GreedyCode.l3 k4 a1 t104 t120 x8_4 x9_4 t123 (wrap64 (x14_4 + 1)) l0_0)) = some (r1, r2) := by rw [← hbq62] at H; exact H
                       have Nbq62 := Aside0.mk hbq62
                       clear hbq62
                       by_cases c63 : (bq62 = true)
                       ·subst c63
                        have H1 : ((spec_l01Ball.f k4 l0_0 (rd t123 x14_4) a1).bind fun t131 => (spec_GreedyCode.l4 k4 a1 t104 t120 (x8_4.set ((rd t123 x14_4) : Int).toNat false) x9_4 t123 x14_4 t131 0 l0_0)) = some (r1, r2) := by rw [if_pos rfl] at H; exact H
                        clear H
                        have H := H1
                        clear H1
                        obtain ⟨y129, hy129⟩ : ∃ y_ : List Bool, y_ = (x8_4.set ((rd t123 x14_4) : Int).toNat false) := ⟨_, rfl⟩
                        replace H : ((spec_l01Ball.f k4 l0_0 (rd t123 x14_4) a1).bind fun t131 => (spec_GreedyCode.l4 k4 a1 t104 t120 y129 x9_4 t123 x14_4 t131 0 l0_0)) = some (r1, r2) := by first | (rw [hy129]; with_reducible exact H) | (have H2_ := (Option.bind_some _ _).symm.trans H; rw [hy129]; with_reducible exact H2_) | (have H2_ := (Option.bind_some _ _).symm.trans H; with_reducible exact H2_) | with_reducible exact H | (rw [hy129]; exact H) | exact H
                        have Ny129 := Aside0.mk hy129
                        clear hy129
                        replace H := Option.bind_eq_some_iff.mp H
                        obtain ⟨t131, A650, H⟩ := H
                        replace H : (spec_GreedyCode.l4 k4 a1 t104 t120 y129 x9_4 t123 x14_4 t131 0 l0_0) = some (r1, r2) := H
                        have A65 := Aside0.mk A650
                        clear A650
                        have H' := Aside0.mk H
                        clear H
                        obtain ⟨Ao66, co66, eo66⟩ := Kd.R_slice HO_13.out
                        subst eo66
                        have p126 : 0 ≤ (x14_4 : Int) := of_decide_eq_true (by first | (with_reducible assumption) | assumption)
                        have q126 : x14_4 < (t123.length : Int) := of_decide_eq_true (by first | (with_reducible assumption) | assumption)
                        obtain ⟨ad126, e126, hx126_0⟩ := Kd.at_int (Kd.R_reads' HO_13.out).2.2 x14_4 p126 q126
                        cases e126
                        replace p126 := eq_true p126
                        replace q126 := eq_true q126
                        obtain ⟨Ao67, co67, eo67⟩ := Kd.R_slice HO_8.out
                        subst eo67
                        have p127 : 0 ≤ ((rd t123 x14_4) : Int) := of_decide_eq_true (by first | (with_reducible assumption) | assumption)
                        have q127 : (rd t123 x14_4) < (x8_4.length : Int) := of_decide_eq_true (by first | (with_reducible assumption) | assumption)
                        obtain ⟨ad127, e127, hx127_0⟩ := Kd.at_bool (Kd.R_reads' HO_8.out).2.2 (rd t123 x14_4) p127 q127
                        (try rw [← Nbq62.out] at hx127_0)
                        cases e127
                        replace p127 := eq_true p127
                        replace q127 := eq_true q127
                        have p128 : 0 ≤ (x14_4 : Int) := of_decide_eq_true (by first | (with_reducible assumption) | assumption)
                        have q128 : x14_4 < (t123.length : Int) := of_decide_eq_true (by first | (with_reducible assumption) | assumption)
                        obtain ⟨ad128, e128, hx128_0⟩ := Kd.at_int (Kd.R_reads' HO_13.out).2.2 x14_4 p128 q128
                        obtain rfl : ad126 = ad128 := (by injection e128)
                        replace p128 := eq_true p128
                        replace q128 := eq_true q128
                        have p64 : 0 ≤ ((rd t123 x14_4) : Int) := of_decide_eq_true (by first | (with_reducible assumption) | assumption)
                        have q64 : ((rd t123 x14_4) : Int) < ((x8_4.length : Int) : Int) := of_decide_eq_true (by first | (with_reducible assumption) | assumption)
                        obtain ⟨go64, co64, eo64, gb64, gl64, cl64, HG64⟩ := Kd.R_form HO_8.out (by omega)
                        (first | cases eo64 | (injection eo64 with ea_ en_ ec_; (first | subst ea_ | (injection ea_ with ea_; subst ea_)); subst ec_; clear en_))
                        have GB64 := Aside0.mk gb64
                        have GG64 := Aside0.mk HG64
                        clear gb64 gl64 HG64
                        (first | simp only [add_plain] at hx127_0 | skip)
                        obtain ⟨hx64_0, hf64_0⟩ := Kd.R_celln false HO_8.out ((rd t123 x14_4) : Int) p64 q64
                        replace p64 := eq_true p64
                        replace q64 := eq_true q64
                        have HP68 := Kd.R_putg HO_8.out ((rd t123 x14_4) : Int) false
                        try go_wp2_with (first | ((with_reducible refine gate_store (t := 4) (p := 93) rfl ?_); refine store_event (t := 4) (p := 93) (v := ?vo_w69) (w1 := (wr.setCell ⟨go64, ((rd t123 x14_4) : Int).toNat, none⟩ (.bool false))) ?hg ?ho ?hn ?hr ?_; (case ho => rfl); (case hg => rfl); (case hn => rfl); (case hr => first | (go_simp; done) | (go_simp; rfl)); intro w69 hw; have hg : wr.grownBy w69 (some go64) := (by rw [hw]; exact HP68.2); have hp_ : Kd.R Kd.bool 4 w69 w.heap.size (fun _ => True) (.slice (some ⟨go64, 0, none⟩) x8_4.length co67) y129 := (by rw [hw, Ny129.out]; exact HP68.1); clear HP68; have n0_ := Aside0.mk (Kd.R_over' (v := (.slice (some ⟨go64, 0, none⟩) x8_4.length co67)) (rb_ HO_7.out) (Kd.R_typed HO_8.out) (by decide) hg); have n1_ := Aside0.mk (hp_); have n2_ := Aside0.mk (Kd.R_over' (v := (.slice (some ⟨go64, 0, none⟩) x8_4.length co67)) (rb_ HO_9.out) (Kd.R_typed HO_8.out) (by decide) hg); have n3_ := Aside0.mk (Kd.R_over' (v := (.slice (some ⟨go64, 0, none⟩) x8_4.length co67)) (rb_ HO_13.out) (Kd.R_typed HO_8.out) (by decide) hg); have n4_ := Aside0.mk (blk_grown (g := gb101) (o := .cells #[.slice A0_0 l0_0.length c0_0] 26 (0, 0)) (bb_ BK101.out) hg (Kd.R_ne HO_8.out BK101.out (by decide))); have n5_ := Aside0.mk ((by rw [hw]; exact below_set (HB.out) GB64.out : Below w.heap.size w w69)); clear HO_7 HO_8 HO_9 HO_13 BK101 HB; have HO_7 := n0_; have HO_8 := n1_; have HO_9 := n2_; have HO_13 := n3_; have BK101 := n4_; have HB := n5_; clear n0_ n1_ n2_ n3_ n4_ n5_ hg hw hp_))
                        have n0_ := Aside0.mk (Kd.R_drew HO_7.out)
                        have n1_ := Aside0.mk (Kd.R_drew HO_8.out)
                        have n2_ := Aside0.mk (Kd.R_drew HO_9.out)
                        have n3_ := Aside0.mk (Kd.R_drew HO_13.out)
                        have n4_ := Aside0.mk (blk_drew BK101.out)
                        have n5_ := Aside0.mk (below_drew1 HB.out)
                        clear HO_7 HO_8 HO_9 HO_13 BK101 HB
                        have HO_7 := n0_
                        have HO_8 := n1_
                        have HO_9 := n2_
                        have HO_13 := n3_
                        have BK101 := n4_
                        have HB := n5_
                        clear n0_ n1_ n2_ n3_ n4_ n5_
                        have p130 : 0 ≤ (x14_4 : Int) := of_decide_eq_true (by first | (with_reducible assumption) | assumption)
                        have q130 : x14_4 < (t123.length : Int) := of_decide_eq_true (by first | (with_reducible assumption) | assumption)
                        obtain ⟨ad130, e130, hx130_0⟩ := Kd.at_int (Kd.R_reads' HO_13.out).2.2 x14_4 p130 q130
                        obtain rfl : ad126 = ad130 := (by injection e130)
                        replace p130 := eq_true p130
                        replace q130 := eq_true q130
                        refine start_ (n := 8) (S := fun w' => w'.cell? ⟨gb101, 0, none⟩ = some (.slice A0_0 l0_0.length c0_0) ∧ w'.cell? (ad126.add (x14_4).toNat) = some (.int .i64 (rd t123 x14_4))) (ds := []) #[false, false, false, false, false, false, false, false] (by kernel_rfl) rfl rfl ⟨(blk_cell BK101.out 0).trans rfl, hx130_0⟩ (fun hHeld => ?_); refine with_tabW spec_GreedyCode.tab27 spec_GreedyCode.bits27 (fun HT_ HW_ => ?_)
                        generalize w69.drew = w70 at HO_7 HO_8 HO_9 HO_13 BK101 HB hx130_0 hHeld ⊢
                        refine pure_ (i := 1) (N := some 95) (v := ?_) (a' := ?_) #[false, true, false, false, false, false, false, false] rfl rfl (any_of HT_.out (by kernel_rfl)) (fun _ _ _ h => h) (Or.inl ⟨by rfl, ?_⟩) ?_ ?_
                        rotate_left
                        ·intro w'
                         go_simp
                         with_reducible rfl
                        rotate_left
                        ·simp only [Act.put, List.setIfInBounds_toArray, List.set_cons_zero, List.set_cons_succ, i64_w, i32_w]
                         rfl
                        refine pure_ (i := 2) (N := some 96) (v := ?_) (a' := ?_) #[false, true, true, false, false, false, false, false] rfl rfl (any_of HT_.out (by kernel_rfl)) (fun _ _ _ h => h) (Or.inl ⟨by rfl, ?_⟩) ?_ ?_
                        rotate_left
                        ·intro w'
                         go_simp
                         with_reducible rfl
                        rotate_left
                        ·simp only [Act.put, List.setIfInBounds_toArray, List.set_cons_zero, List.set_cons_succ, i64_w, i32_w]
                         rfl
                        refine pure_ (i := 3) (N := some 97) (v := ?_) (a' := ?_) #[false, true, true, true, false, false, false, false] rfl rfl (any_of HT_.out (by kernel_rfl)) (fun _ _ _ h => h) (Or.inl ⟨by rfl, ?_⟩) ?_ ?_
                        rotate_left
                        ·intro w'
                         go_simp
                         with_reducible rfl
                        rotate_left
                        ·simp only [Act.put, List.setIfInBounds_toArray, List.set_cons_zero, List.set_cons_succ, i64_w, i32_w]
                         rfl
                        refine pure_ (i := 5) (N := some 99) (v := ?_) (a' := ?_) #[false, true, true, true, false, true, false, false] rfl rfl (any_of HT_.out (by kernel_rfl)) (fun _ _ _ h => h) (Or.inl ⟨by rfl, ?_⟩) ?_ ?_
                        rotate_left
                        ·intro w'
                         go_simp
                         with_reducible rfl
                        rotate_left
                        ·simp only [Act.put, List.setIfInBounds_toArray, List.set_cons_zero, List.set_cons_succ, i64_w, i32_w]
                         rfl
                        refine take_ (i := 0) (N := some 94) (v := ?_) (a' := ?_) #[true, true, true, true, false, true, false, false] rfl rfl (take_ofW HT_.out HW_.out (by kernel_rfl)) (fun _ _ _ h => h) (Or.inl ⟨by rfl, ?_⟩) hHeld ?_ ?_
                        rotate_left
                        ·rintro w' ⟨s0, s1⟩
                         go_simp
                         with_reducible rfl
                        rotate_left
                        ·simp only [Act.put, List.setIfInBounds_toArray, List.set_cons_zero, List.set_cons_succ, i64_w, i32_w]
                         rfl
                        refine take_ (i := 4) (N := some 98) (v := ?_) (a' := ?_) #[true, true, true, true, true, true, false, false] rfl rfl (take_ofW HT_.out HW_.out (by kernel_rfl)) (fun _ _ _ h => h) (Or.inl ⟨by rfl, ?_⟩) hHeld ?_ ?_
                        rotate_left
                        ·rintro w' ⟨s0, s1⟩
                         go_simp
                         with_reducible rfl
                        rotate_left
                        ·simp only [Act.put, List.setIfInBounds_toArray, List.set_cons_zero, List.set_cons_succ, i64_w, i32_w]
                         rfl
                        refine one_ (i := 6) (N := some 100) #[true, true, true, true, true, true, true, false] rfl rfl (one_of HT_.out (by kernel_rfl)) (by decide) (fun K hK => ?_)
                        refine goes_ Try.func65 (by kernel_rfl) rfl #[.agg #[.slice A0_0 l0_0.length c0_0], .int .i64 (rd t123 x14_4), .int .i64 a1] (by rfl) rfl rfl (by (try simp only [List.map_toArray, List.map_cons, List.map_nil]); first | done | rfl | (simp only [List.length_drop, List.length_take]; rfl)) ?_
                        with_reducible refine (spec_l01Ball.calls k4 _ _ l0_0 (rd t123 x14_4) a1 t131 _ ?side1 ?side2 A65.out).mono ?_
                        (case side1 => repeat (first | exact (Kd.C_below HR0_0.out HB.out) | (with_reducible refine Kd.C_alloc ?_ _) | (with_reducible refine Kd.C_drewN ?_ _) | (with_reducible refine Kd.C_drew ?_)))
                        (case side2 => exact HC0_0.out)
                        rintro e w71 ⟨v132, rfl, ho0, hb⟩
                        have HS1_ := (hb.cell (World.block_lt_of_cell? _ _ (hHeld.2))).trans (hHeld.2)
                        refine ⟨_, rfl, ?_⟩
                        have n0_ := Aside0.mk (Kd.R_elder' (rb_ HO_7.out) (Kd.R_base ho0) hb)
                        have n1_ := Aside0.mk (Kd.R_below (rb_ HO_8.out) hb)
                        have n2_ := Aside0.mk (Kd.R_elder' (rb_ HO_9.out) (Kd.R_base ho0) hb)
                        have n3_ := Aside0.mk (Kd.R_elder' (rb_ HO_13.out) (Kd.R_base ho0) hb)
                        have n4_ := Aside0.mk (Kd.R_lower (Kd.R_new' (Kd.R_new' (Kd.R_new' ho0 (Kd.R_lt (rb_ HO_7.out))) (Kd.R_lt (rb_ HO_9.out))) (Kd.R_lt (rb_ HO_13.out))) (below_size (gb_ HB.out)))
                        have n5_ := Aside0.mk (blk_below (g := gb101) (o := .cells #[.slice A0_0 l0_0.length c0_0] 26 (0, 0)) (bb_ BK101.out) hb)
                        have n6_ := Aside0.mk (below_step (gb_ HB.out) hb)
                        clear HO_7 HO_8 HO_9 HO_13 BK101 HB
                        have HO_7 := n0_
                        have HO_8 := n1_
                        have HO_9 := n2_
                        have HO_13 := n3_
                        have HO133 := n4_
                        have BK101 := n5_
                        have HB := n6_
                        clear n0_ n1_ n2_ n3_ n4_ n5_ n6_
                        (try clear hb)
                        (try clear hb2)
                        (try clear hk)
                        (try clear hi)
                        (try clear ho0)
                        refine hK.out _ _ ⟨(blk_cell BK101.out 0).trans rfl, HS1_⟩ (fun hHeld => ?_)
                        clear hK K
                        refine norm_ (a' := ?_) ?_ ?_
                        rotate_left
                        ·show Act.put _ (some 100) _ = _
                         simp only [Act.put, List.setIfInBounds_toArray, List.set_cons_zero, List.set_cons_succ, i64_w, i32_w]
                         rfl
                        refine pure_ (i := 7) (N := some 15) (v := ?_) (a' := ?_) #[true, true, true, true, true, true, true, true] rfl rfl (any_of HT_.out (by kernel_rfl)) (fun _ _ _ h => h) (Or.inl ⟨by rfl, ?_⟩) ?_ ?_
                        rotate_left
                        ·intro w'
                         go_simp
                         with_reducible rfl
                        rotate_left
                        ·simp only [Act.put, List.setIfInBounds_toArray, List.set_cons_zero, List.set_cons_succ, i64_w, i32_w]
                         rfl
                        refine done_ (done_of HT_.out (by kernel_rfl)) ?_
                        try go_wp2
                        go_loopg [16] k4 (fun kq v16 w' => ∃ (x9_5 : List Int) (x16_5 : Int), v16 = .int .i64 x16_5 ∧ Aside0 (spec_GreedyCode.l4 kq a1 t104 t120 y129 x9_5 t123 x14_4 t131 x16_5 l0_0 = some (r1, r2)) ∧ Aside0 (kq ≤ k4) ∧ Aside0 (Kd.R (Kd.int .i64) 2 w' w.heap.size (fun k_ => OB_ k_ (.slice (some ad119) x9_4.length co53) ∧ OB_ k_ (.slice (some ad126) t123.length co66) ∧ OB_ k_ v132) v121 t120) ∧ Aside0 (Kd.R Kd.bool 4 w' w.heap.size (fun _ => True) (.slice (some ⟨go64, 0, none⟩) x8_4.length co67) y129) ∧ Aside0 (Kd.R (Kd.int .i64) 2 w' w.heap.size (fun k_ => OB_ k_ v121 ∧ OB_ k_ (.slice (some ad126) t123.length co66) ∧ OB_ k_ v132) (.slice (some ad119) x9_4.length co53) x9_5) ∧ Aside0 (Kd.R (Kd.int .i64) 2 w' w.heap.size (fun k_ => OB_ k_ v121 ∧ OB_ k_ (.slice (some ad119) x9_4.length co53) ∧ OB_ k_ v132) (.slice (some ad126) t123.length co66) t123) ∧ Aside0 (Kd.R (Kd.int .i64) 2 w' w.heap.size (fun k_ => OB_ k_ v121 ∧ OB_ k_ (.slice (some ad119) x9_4.length co53) ∧ OB_ k_ (.slice (some ad126) t123.length co66)) v132 t131) ∧ Aside0 (w'.heap[gb101]? = some (.cells #[(.slice A0_0 l0_0.length c0_0)] 26 (0, 0))) ∧ Aside0 (Below w.heap.size w w'))
                        case atStart => exact ⟨(x9_4), (0), (by first | rfl | (simp; done) | (simp [*]; done)), H', ⟨Nat.le_refl _⟩, ⟨by (try simp only [hl9_4]); (with_reducible repeat (first | apply Kd.R_alloc | apply Kd.R_drewN | apply Kd.R_drew)); exact Kd.R_mono HO_7.out (fun _ hk => ⟨hk.1.1, ⟨hk.1.2, hk.2⟩⟩)⟩, ⟨by (try simp only [hl9_4]); (with_reducible repeat (first | apply Kd.R_alloc | apply Kd.R_drewN | apply Kd.R_drew)); exact HO_8.out⟩, ⟨by (try simp only [hl9_4]); (with_reducible repeat (first | apply Kd.R_alloc | apply Kd.R_drewN | apply Kd.R_drew)); exact Kd.R_mono HO_9.out (fun _ hk => ⟨hk.1.1, ⟨hk.1.2, hk.2⟩⟩)⟩, ⟨by (try simp only [hl9_4]); (with_reducible repeat (first | apply Kd.R_alloc | apply Kd.R_drewN | apply Kd.R_drew)); exact Kd.R_mono HO_13.out (fun _ hk => ⟨hk.1.1, ⟨hk.1.2, hk.2⟩⟩)⟩, ⟨by (try simp only [hl9_4]); (with_reducible repeat (first | apply Kd.R_alloc | apply Kd.R_drewN | apply Kd.R_drew)); exact Kd.R_mono HO133.out (fun _ hk => ⟨hk.1.1.2, ⟨hk.1.2, hk.2⟩⟩)⟩, ⟨by (try simp only [hl9_4]); (with_reducible repeat (first | refine blk_drewN ?_ _ | refine blk_drew ?_ | refine blk_alloc ?_ _)); exact BK101.out⟩, ⟨gb_ HB.out⟩⟩
                        case round =>
                         clear H'
                         try clear c1
                         try clear p1
                         try clear q1
                         try clear hx1
                         try clear c2
                         try clear p2
                         try clear q2
                         try clear hx2
                         try clear hf2
                         try clear c3
                         try clear p3
                         try clear q3
                         try clear hx3
                         try clear hf3
                         try clear c4
                         try clear c5
                         try clear c6
                         try clear p6
                         try clear q6
                         try clear hx6
                         try clear hf6
                         try clear c8
                         try clear c8b0
                         try clear c8b1
                         try clear c9
                         try clear c9b0
                         try clear c9b1
                         try clear c10
                         try clear c10b0
                         try clear c10b1
                         try clear p11
                         try clear q11
                         try clear hx11
                         try clear p12
                         try clear q12
                         try clear hx12
                         try clear p13
                         try clear q13
                         try clear hx13
                         try clear c24
                         try clear c24b0
                         try clear c25
                         try clear c25b0
                         try clear c26
                         try clear c26b0
                         try clear p27
                         try clear q27
                         try clear hx27
                         try clear hf27
                         try clear c29
                         try clear c29b0
                         try clear p30
                         try clear q30
                         try clear hx30
                         try clear hf30
                         try clear c31
                         try clear c35
                         try clear c37
                         try clear c37b0
                         try clear c38
                         try clear c38b0
                         try clear c39
                         try clear c39b0
                         try clear c40
                         try clear c40b0
                         try clear c41
                         try clear c41b0
                         try clear c42
                         try clear c42b0
                         try clear c47
                         try clear c47b0
                         try clear c48
                         try clear c48b0
                         try clear c49
                         try clear c49b0
                         try clear c49b1
                         try clear c58
                         try clear c58b0
                         try clear c59
                         try clear c59b0
                         try clear c60
                         try clear c60b0
                         try clear c61
                         try clear c61b0
                         try clear q62
                         try clear c63
                         try clear c64
                         try clear p64
                         try clear q64
                         try clear hx64
                         try clear hf64
                         try clear c65
                         try clear hcz12_0
                         try clear hcz14_0
                         try clear hcz33_0
                         try clear hcz56_0
                         try clear hfz12_0
                         try clear hfz14_0
                         try clear hfz33_0
                         try clear hfz56_0
                         try clear hx117_0
                         try clear hx118_0
                         try clear hx119_0
                         try clear hx126_0
                         try clear hx127_0
                         try clear hx128_0
                         try clear hx130_0
                         try clear hx27_0
                         try clear hx30_0
                         try clear hx64_0
                         try clear p1
                         try clear p11
                         try clear p117
                         try clear p118
                         try clear p119
                         try clear p126
                         try clear p127
                         try clear p128
                         try clear p130
                         try clear p2
                         try clear p27
                         try clear p3
                         try clear p30
                         try clear p6
                         try clear p64
                         try clear q1
                         try clear q11
                         try clear q117
                         try clear q118
                         try clear q119
                         try clear q126
                         try clear q127
                         try clear q128
                         try clear q130
                         try clear q2
                         try clear q27
                         try clear q3
                         try clear q30
                         try clear q64
                         obtain ⟨x9_5, x16_5, rfl, HA, HK5, HO_7, HO_8, HO_9, HO_13, HO_15, BK101, HB⟩ := hrel
                         have hl8_5 := (Kd.R_reads' HO_8.out).1
                         rw [hl8_5] at HO_8
                         (try simp only [hl8_5])
                         (try simp only [hl8_5] at BK101)
                         (try simp only [hl8_5] at HO_7)
                         (try simp only [hl8_5] at HO_9)
                         (try simp only [hl8_5] at HO_13)
                         (try simp only [hl8_5] at HO_15)
                         have hl9_5 := (Kd.R_reads' HO_9.out).1
                         rw [hl9_5] at HO_9
                         (try simp only [hl9_5])
                         (try simp only [hl9_5] at BK101)
                         (try simp only [hl9_5] at HO_7)
                         (try simp only [hl9_5] at HO_8)
                         (try simp only [hl9_5] at HO_13)
                         (try simp only [hl9_5] at HO_15)
                         cases gk with
                         | zero => exact absurd HA.out (by simp [spec_GreedyCode.l4])
                         | succ k5 =>
                          have H := HA.out
                          clear HA
                          simp only [spec_GreedyCode.l4] at H
                          by_cases c72 : x16_5 < (t131.length : Int)
                          ·rw [if_pos c72] at H
                           have c72b0 : decide (x16_5 < (t131.length : Int)) = true := decide_eq_true c72
                           clear c72
                           by_cases c73 : 0 ≤ x16_5
                           ·rw [if_pos c73] at H
                            have c73b0 : decide (0 ≤ x16_5) = true := decide_eq_true c73
                            clear c73
                            by_cases c74 : 0 ≤ (rd t131 x16_5)
                            ·rw [if_pos c74] at H
                             have c74b0 : decide (0 ≤ (rd t131 x16_5)) = true := decide_eq_true c74
                             clear c74
                             by_cases c75 : (rd t131 x16_5) < (x9_5.length : Int)
                             ·rw [if_pos c75] at H
                              have c75b0 : decide ((rd t131 x16_5) < (x9_5.length : Int)) = true := decide_eq_true c75
                              clear c75
                              obtain ⟨y136, hy136⟩ : ∃ y_ : List Int, y_ = (x9_5.set ((rd t131 x16_5) : Int).toNat (wrap64 ((rd x9_5 (rd t131 x16_5)) - 1))) := ⟨_, rfl⟩
                              replace H : (spec_GreedyCode.l4 k5 a1 t104 t120 y129 y136 t123 x14_4 t131 (wrap64 (x16_5 + 1)) l0_0) = some (r1, r2) := by first | (rw [hy136]; with_reducible exact H) | (have H2_ := (Option.bind_some _ _).symm.trans H; rw [hy136]; with_reducible exact H2_) | (have H2_ := (Option.bind_some _ _).symm.trans H; with_reducible exact H2_) | with_reducible exact H | (rw [hy136]; exact H) | exact H
                              have Ny136 := Aside0.mk hy136
                              clear hy136
                              have H' := Aside0.mk H
                              clear H
                              obtain ⟨Ao77, co77, eo77⟩ := Kd.R_slice HO_15.out
                              subst eo77
                              have p134 : 0 ≤ (x16_5 : Int) := of_decide_eq_true (by first | (with_reducible assumption) | assumption)
                              have q134 : x16_5 < (t131.length : Int) := of_decide_eq_true (by first | (with_reducible assumption) | assumption)
                              obtain ⟨ad134, e134, hx134_0⟩ := Kd.at_int (Kd.R_reads' HO_15.out).2.2 x16_5 p134 q134
                              cases e134
                              replace p134 := eq_true p134
                              replace q134 := eq_true q134
                              have p135 : 0 ≤ ((rd t131 x16_5) : Int) := of_decide_eq_true (by first | (with_reducible assumption) | assumption)
                              have q135 : (rd t131 x16_5) < (x9_5.length : Int) := of_decide_eq_true (by first | (with_reducible assumption) | assumption)
                              obtain ⟨ad135, e135, hx135_0⟩ := Kd.at_int (Kd.R_reads' HO_9.out).2.2 (rd t131 x16_5) p135 q135
                              obtain rfl : ad119 = ad135 := (by injection e135)
                              replace p135 := eq_true p135
                              replace q135 := eq_true q135
                              have p76 : 0 ≤ ((rd t131 x16_5) : Int) := of_decide_eq_true (by first | (with_reducible assumption) | assumption)
                              have q76 : ((rd t131 x16_5) : Int) < ((x9_5.length : Int) : Int) := of_decide_eq_true (by first | (with_reducible assumption) | assumption)
                              obtain ⟨go76, co76, eo76, gb76, gl76, cl76, HG76⟩ := Kd.R_form HO_9.out (by omega)
                              (first | cases eo76 | (injection eo76 with ea_ en_ ec_; (first | subst ea_ | (injection ea_ with ea_; subst ea_)); subst ec_; clear en_))
                              have GB76 := Aside0.mk gb76
                              have GG76 := Aside0.mk HG76
                              clear gb76 gl76 HG76
                              (first | simp only [add_plain] at hx119_0 | skip)
                              (first | simp only [add_plain] at hx135_0 | skip)
                              obtain ⟨hx76_0, hf76_0⟩ := Kd.R_celln 0 HO_9.out ((rd t131 x16_5) : Int) p76 q76
                              replace p76 := eq_true p76
                              replace q76 := eq_true q76
                              have HP78 := Kd.R_putg HO_9.out ((rd t131 x16_5) : Int) (wrap64 ((rd x9_5 (rd t131 x16_5)) - 1))
                              go_wp2_with (first | ((with_reducible refine gate_store (t := 2) (p := 115) rfl ?_); refine store_event (t := 2) (p := 115) (v := ?vo_w79) (w1 := (wr.setCell ⟨go76, ((rd t131 x16_5) : Int).toNat, none⟩ (.int .i64 (wrap64 ((rd x9_5 (rd t131 x16_5)) - 1))))) ?hg ?ho ?hn ?hr ?_; (case ho => rfl); (case hg => rfl); (case hn => rfl); (case hr => first | (go_simp; done) | (go_simp; rfl)); intro w79 hw; have hg : wr.grownBy w79 (some go76) := (by rw [hw]; exact HP78.2); have hp_ : Kd.R (Kd.int .i64) 2 w79 w.heap.size (fun k_ => OB_ k_ v121 ∧ OB_ k_ (.slice (some ad126) t123.length co66) ∧ OB_ k_ (.slice (some ad134) t131.length co77)) (.slice (some ⟨go76, 0, none⟩) x9_5.length co53) y136 := (by rw [hw, Ny136.out]; exact HP78.1); clear HP78; have n0_ := Aside0.mk (Kd.R_after (v := (.slice (some ⟨go76, 0, none⟩) x9_5.length co53)) (v1 := (.slice (some ⟨go76, 0, none⟩) x9_5.length co53)) (ok := (fun k_ => OB_ k_ (.slice (some ad126) t123.length co66) ∧ OB_ k_ (.slice (some ad134) t131.length co77))) (rb_ (Kd.R_mono HO_7.out (fun _ hk => ⟨⟨hk.2.1, hk.2.2⟩, hk.1⟩))) hg (.inl rfl)); have n1_ := Aside0.mk (Kd.R_over' (v := (.slice (some ⟨go76, 0, none⟩) x9_5.length co53)) (rb_ HO_8.out) (Kd.R_typed HO_9.out) (by decide) hg); have n2_ := Aside0.mk (hp_); have n3_ := Aside0.mk (Kd.R_after (v := (.slice (some ⟨go76, 0, none⟩) x9_5.length co53)) (v1 := (.slice (some ⟨go76, 0, none⟩) x9_5.length co53)) (ok := (fun k_ => OB_ k_ v121 ∧ OB_ k_ (.slice (some ad134) t131.length co77))) (rb_ (Kd.R_mono HO_13.out (fun _ hk => ⟨⟨hk.1, hk.2.2⟩, hk.2.1⟩))) hg (.inl rfl)); have n4_ := Aside0.mk (Kd.R_after (v := (.slice (some ⟨go76, 0, none⟩) x9_5.length co53)) (v1 := (.slice (some ⟨go76, 0, none⟩) x9_5.length co53)) (ok := (fun k_ => OB_ k_ v121 ∧ OB_ k_ (.slice (some ad126) t123.length co66))) (rb_ (Kd.R_mono HO_15.out (fun _ hk => ⟨⟨hk.1, hk.2.2⟩, hk.2.1⟩))) hg (.inl rfl)); have n5_ := Aside0.mk (blk_grown (g := gb101) (o := .cells #[.slice A0_0 l0_0.length c0_0] 26 (0, 0)) (bb_ BK101.out) hg (Kd.R_ne HO_9.out BK101.out (by decide))); have n6_ := Aside0.mk ((by rw [hw]; exact below_set (HB.out) GB76.out : Below w.heap.size w w79)); clear HO_7 HO_8 HO_9 HO_13 HO_15 BK101 HB; have HO_7 := n0_; have HO_8 := n1_; have HO_9 := n2_; have HO_13 := n3_; have HO_15 := n4_; have BK101 := n5_; have HB := n6_; clear n0_ n1_ n2_ n3_ n4_ n5_ n6_ hg hw hp_))
                              (try simp only [← hl8_5, ← hl9_5])
                              go_roundg k5
                              case measure => have := HK1.out; have := HK2.out; have := HK3.out; have := HK4.out; have := HK5.out; omega
                              case rel => exact ⟨(y136), (wrap64 (x16_5 + 1)), (by first | rfl | (simp; done) | (simp [*]; done)), H', ⟨by have := HK1.out; have := HK2.out; have := HK3.out; have := HK4.out; have := HK5.out; omega⟩, ⟨by (try simp only [hl9_4]); (try simp only [hl8_5]); (try simp only [hl9_5]); (with_reducible repeat (first | apply Kd.R_alloc | apply Kd.R_drewN | apply Kd.R_drew)); exact Kd.R_mono HO_7.out (fun _ hk => ⟨hk.2, ⟨hk.1.1, hk.1.2⟩⟩)⟩, ⟨by (try simp only [hl9_4]); (try simp only [hl8_5]); (try simp only [hl9_5]); (with_reducible repeat (first | apply Kd.R_alloc | apply Kd.R_drewN | apply Kd.R_drew)); exact HO_8.out⟩, ⟨by (try simp only [hl9_4]); (try simp only [hl8_5]); (try simp only [hl9_5]); (with_reducible repeat (first | apply Kd.R_alloc | apply Kd.R_drewN | apply Kd.R_drew)); exact HO_9.out⟩, ⟨by (try simp only [hl9_4]); (try simp only [hl8_5]); (try simp only [hl9_5]); (with_reducible repeat (first | apply Kd.R_alloc | apply Kd.R_drewN | apply Kd.R_drew)); exact Kd.R_mono HO_13.out (fun _ hk => ⟨hk.1.1, ⟨hk.2, hk.1.2⟩⟩)⟩, ⟨by (try simp only [hl9_4]); (try simp only [hl8_5]); (try simp only [hl9_5]); (with_reducible repeat (first | apply Kd.R_alloc | apply Kd.R_drewN | apply Kd.R_drew)); exact Kd.R_mono HO_15.out (fun _ hk => ⟨hk.1.1, ⟨hk.2, hk.1.2⟩⟩)⟩, ⟨by (try simp only [hl9_4]); (try simp only [hl8_5]); (try simp only [hl9_5]); (with_reducible repeat (first | refine blk_drewN ?_ _ | refine blk_drew ?_ | refine blk_alloc ?_ _)); exact BK101.out⟩, ⟨gb_ HB.out⟩⟩
                             ·rw [if_neg c75] at H
                              exact absurd H (by simp)
                            ·rw [if_neg c74] at H
                             exact absurd H (by simp)
                           ·rw [if_neg c73] at H
                            exact absurd H (by simp)
                          ·rw [if_neg c72] at H
                           have c72b0 : decide (x16_5 < (t131.length : Int)) = false := decide_eq_false c72
                           clear c72
                           have H' := Aside0.mk H
                           clear H
                           obtain ⟨Ao80, co80, eo80⟩ := Kd.R_slice HO_15.out
                           subst eo80
                           go_wp2
                           (try simp only [← hl9_4, ← hl8_5, ← hl9_5])
                           go_roundg k5
                           case measure => have := HK1.out; have := HK2.out; have := HK3.out; have := HK4.out; have := HK5.out; omega
                           case rel => exact ⟨(y129), (x9_5), (wrap64 (x14_4 + 1)), (by first | rfl | (simp; done) | (simp [*]; done)), H', ⟨by have := HK1.out; have := HK2.out; have := HK3.out; have := HK4.out; have := HK5.out; omega⟩, ⟨by (try simp only [hl9_4]); (try simp only [hl8_5]); (try simp only [hl9_5]); (with_reducible repeat (first | apply Kd.R_alloc | apply Kd.R_drewN | apply Kd.R_drew)); exact Kd.R_mono HO_7.out (fun _ hk => ⟨hk.1, hk.2.1⟩)⟩, ⟨by (try simp only [hl9_4]); (try simp only [hl8_5]); (try simp only [hl9_5]); (with_reducible repeat (first | apply Kd.R_alloc | apply Kd.R_drewN | apply Kd.R_drew)); exact HO_8.out⟩, ⟨by (try simp only [hl9_4]); (try simp only [hl8_5]); (try simp only [hl9_5]); (with_reducible repeat (first | apply Kd.R_alloc | apply Kd.R_drewN | apply Kd.R_drew)); exact Kd.R_mono HO_9.out (fun _ hk => ⟨hk.1, hk.2.1⟩)⟩, ⟨by (try simp only [hl9_4]); (try simp only [hl8_5]); (try simp only [hl9_5]); (with_reducible repeat (first | apply Kd.R_alloc | apply Kd.R_drewN | apply Kd.R_drew)); exact Kd.R_mono HO_13.out (fun _ hk => ⟨hk.1, hk.2.1⟩)⟩, ⟨by (try simp only [hl9_4]); (try simp only [hl8_5]); (try simp only [hl9_5]); (with_reducible repeat (first | refine blk_drewN ?_ _ | refine blk_drew ?_ | refine blk_alloc ?_ _)); exact BK101.out⟩, ⟨gb_ HB.out⟩⟩
                       ·replace c63 := Bool.eq_false_iff.mpr c63
                        subst c63
                        have H1 : (spec_GreedyCode.l3 k4 a1 t104 t120 x8_4 x9_4 t123 (wrap64 (x14_4 + 1)) l0_0) = some (r1, r2) := by rw [if_neg (show ¬ (false = true) by decide)] at H; exact H
                        clear H
                        have H := H1
                        clear H1
                        have H' := Aside0.mk H
                        clear H
                        obtain ⟨Ao81, co81, eo81⟩ := Kd.R_slice HO_13.out
                        subst eo81
                        have p126 : 0 ≤ (x14_4 : Int) := of_decide_eq_true (by first | (with_reducible assumption) | assumption)
                        have q126 : x14_4 < (t123.length : Int) := of_decide_eq_true (by first | (with_reducible assumption) | assumption)
                        obtain ⟨ad126, e126, hx126_0⟩ := Kd.at_int (Kd.R_reads' HO_13.out).2.2 x14_4 p126 q126
                        cases e126
                        replace p126 := eq_true p126
                        replace q126 := eq_true q126
                        obtain ⟨Ao82, co82, eo82⟩ := Kd.R_slice HO_8.out
                        subst eo82
                        have p127 : 0 ≤ ((rd t123 x14_4) : Int) := of_decide_eq_true (by first | (with_reducible assumption) | assumption)
                        have q127 : (rd t123 x14_4) < (x8_4.length : Int) := of_decide_eq_true (by first | (with_reducible assumption) | assumption)
                        obtain ⟨ad127, e127, hx127_0⟩ := Kd.at_bool (Kd.R_reads' HO_8.out).2.2 (rd t123 x14_4) p127 q127
                        (try rw [← Nbq62.out] at hx127_0)
                        cases e127
                        replace p127 := eq_true p127
                        replace q127 := eq_true q127
                        go_wp2
                        (try simp only [← hl9_4])
                        go_roundg k4
                        case measure => have := HK1.out; have := HK2.out; have := HK3.out; have := HK4.out; omega
                        case rel => exact ⟨(x8_4), (x9_4), (wrap64 (x14_4 + 1)), (by first | rfl | (simp; done) | (simp [*]; done)), H', ⟨by have := HK1.out; have := HK2.out; have := HK3.out; have := HK4.out; omega⟩, ⟨by (try simp only [hl9_4]); (with_reducible repeat (first | apply Kd.R_alloc | apply Kd.R_drewN | apply Kd.R_drew)); exact HO_7.out⟩, ⟨by (try simp only [hl9_4]); (with_reducible repeat (first | apply Kd.R_alloc | apply Kd.R_drewN | apply Kd.R_drew)); exact HO_8.out⟩, ⟨by (try simp only [hl9_4]); (with_reducible repeat (first | apply Kd.R_alloc | apply Kd.R_drewN | apply Kd.R_drew)); exact HO_9.out⟩, ⟨by (try simp only [hl9_4]); (with_reducible repeat (first | apply Kd.R_alloc | apply Kd.R_drewN | apply Kd.R_drew)); exact HO_13.out⟩, ⟨by (try simp only [hl9_4]); (with_reducible repeat (first | refine blk_drewN ?_ _ | refine blk_drew ?_ | refine blk_alloc ?_ _)); exact BK101.out⟩, ⟨gb_ HB.out⟩⟩
                      ·rw [if_neg c61] at H
                       exact absurd H (by simp)
                     ·rw [if_neg c60] at H
                      exact absurd H (by simp)
                    ·rw [if_neg c59] at H
                     exact absurd H (by simp)
                   ·rw [if_neg c58] at H
                    have c58b0 : decide (x14_4 < (t123.length : Int)) = false := decide_eq_false c58
                    clear c58
                    have H' := Aside0.mk H
                    clear H
                    obtain ⟨Ao83, co83, eo83⟩ := Kd.R_slice HO_13.out
                    subst eo83
                    go_wp2
                    (try simp only [← hl9_4])
                    go_roundg k4
                    case measure => have := HK1.out; have := HK2.out; have := HK3.out; have := HK4.out; omega
                    case rel => exact ⟨(t120), (x8_4), (x9_4), H', ⟨by have := HK1.out; have := HK2.out; have := HK3.out; have := HK4.out; omega⟩, ⟨by (try simp only [hl9_4]); (with_reducible repeat (first | apply Kd.R_alloc | apply Kd.R_drewN | apply Kd.R_drew)); exact Kd.R_mono HO_7.out (fun _ hk => hk.1)⟩, ⟨by (try simp only [hl9_4]); (with_reducible repeat (first | apply Kd.R_alloc | apply Kd.R_drewN | apply Kd.R_drew)); exact HO_8.out⟩, ⟨by (try simp only [hl9_4]); (with_reducible repeat (first | apply Kd.R_alloc | apply Kd.R_drewN | apply Kd.R_drew)); exact Kd.R_mono HO_9.out (fun _ hk => hk.1)⟩, ⟨by (try simp only [hl9_4]); (with_reducible repeat (first | refine blk_drewN ?_ _ | refine blk_drew ?_ | refine blk_alloc ?_ _)); exact BK101.out⟩, ⟨gb_ HB.out⟩⟩
               ·rw [if_neg c48] at H
                exact absurd H (by simp)
              ·rw [if_neg c47] at H
               exact absurd H (by simp)
     ·rw [if_neg c10] at H
      exact absurd H (by simp)
    ·rw [if_neg c9] at H
     exact absurd H (by simp)
   ·rw [if_neg c8] at H
    exact absurd H (by simp)
  ·replace c6 := Bool.eq_false_iff.mpr c6
   subst c6
   have H1 : (some (([] : List Int), 2)) = some (r1, r2) := by rw [if_neg (show ¬ (false = true) by decide)] at H; exact H
   clear H
   have H := H1
   clear H1
   simp only [Option.some.injEq, Prod.mk.injEq] at H
   obtain ⟨rfl, rfl⟩ := H
   go_enter Try.func26, Try.ntmps26
   go_wp2_with (first | ((with_reducible refine gate_dst (N := 2) rfl ?_); refine box_event ?hg (N := 2) ?hd (cs := #[.slice A0_0 l0_0.length c0_0]) (t := 26) ?hr ?_; (case hd => rfl); (case hg => rfl); (case hr => first | (go_simp; done) | (go_simp; rfl)); intro gb101 hg w84 hbox hb; have n0_ := Aside0.mk (below_step (gb_ HB.out) hb); have n1_ := Aside0.mk (hbox); have n2_ := Aside0.mk ((by rw [hg]; exact (below_size (gb_ HB.out)) : w.heap.size ≤ gb101)); have n3_ := Aside0.mk ((by rw [hg]; exact (below_size (gb_ HB.out)) : w.heap.size ≤ gb101)); clear HB; have HB := n0_; have BK101 := n1_; have GW101 := n2_; have GE101 := n3_; clear n0_ n1_ n2_ n3_ hb hbox hg; have hcz85_0 : w84.cell? ⟨gb101, 0, none⟩ = some (.slice A0_0 l0_0.length c0_0) := (blk_cell BK101.out 0).trans rfl; have hfz85_0 := blk_frozen BK101.out 0) | ((with_reducible refine gate_callee (f := 31) rfl ?_); refine goesL_ (some 19) rfl rfl Try.func31 (by kernel_rfl) rfl #[.agg #[.slice A0_0 l0_0.length c0_0]] rfl (by (try simp only [List.map_toArray, List.map_cons, List.map_nil]); first | done | rfl | (simp only [List.length_drop, List.length_take]; rfl)) ?_; (with_reducible refine (spec_l01Is.calls k _ _ l0_0 true _ ?side1 ?side2 A3.out).mono ?_); (case side1 => repeat (first | exact (Kd.C_below HR0_0.out HB.out) | (with_reducible refine Kd.C_alloc ?_ _) | (with_reducible refine Kd.C_drewN ?_ _) | (with_reducible refine Kd.C_drew ?_))); (case side2 => exact HC0_0.out); rintro e w86 ⟨rfl, hb⟩; refine ⟨_, rfl, ?_⟩; have n0_ := Aside0.mk (blk_below (g := gb101) (o := .cells #[.slice A0_0 l0_0.length c0_0] 26 (0, 0)) (bb_ BK101.out) hb); have n1_ := Aside0.mk (below_step (gb_ HB.out) hb); clear BK101 HB; have BK101 := n0_; have HB := n1_; clear n0_ n1_; (try clear hb); (try clear hb2); (try clear hk); (try clear hi)) | ((with_reducible refine gate_callee (f := 41) rfl ?_); refine goesL_ (some 23) rfl rfl Try.func41 (by kernel_rfl) rfl #[.int .i64 a1, .int .i64 0, .int .i64 8] rfl (by (try simp only [List.map_toArray, List.map_cons, List.map_nil]); first | done | rfl | (simp only [List.length_drop, List.length_take]; rfl)) ?_; (with_reducible refine (spec_l01In.calls a1 0 8 false _ A5.out).mono ?_); rintro e w' ⟨rfl, ⟨nd, rfl⟩⟩; refine ⟨_, rfl, ?_⟩))
   go_ret2
   exact ⟨_, by first | rfl | (simp [errW_none, errW_some] <;> rfl) | (simp [*, errW_none, errW_some] <;> rfl), by first | exact Kd.R_nil _ _ _ _ _ | exact Kd.N_nil _ _ _ _ _ | exact Kd.V_nil _ _ _ _ _ | exact Kd.Q_nil _ _ _ _ _ | exact Kd.S_nil _ _ _ _ _, gb_ HB.out⟩
 ·replace c4 := Bool.eq_false_iff.mpr c4
  subst c4
  have H1 : (some (([] : List Int), 1)) = some (r1, r2) := by rw [if_neg (show ¬ (false = true) by decide)] at H; exact H
  clear H
  have H := H1
  clear H1
  simp only [Option.some.injEq, Prod.mk.injEq] at H
  obtain ⟨rfl, rfl⟩ := H
  go_enter Try.func26, Try.ntmps26
  go_wp2_with (first | ((with_reducible refine gate_dst (N := 2) rfl ?_); refine box_event ?hg (N := 2) ?hd (cs := #[.slice A0_0 l0_0.length c0_0]) (t := 26) ?hr ?_; (case hd => rfl); (case hg => rfl); (case hr => first | (go_simp; done) | (go_simp; rfl)); intro gb101 hg w87 hbox hb; have n0_ := Aside0.mk (below_step (gb_ HB.out) hb); have n1_ := Aside0.mk (hbox); have n2_ := Aside0.mk ((by rw [hg]; exact (below_size (gb_ HB.out)) : w.heap.size ≤ gb101)); have n3_ := Aside0.mk ((by rw [hg]; exact (below_size (gb_ HB.out)) : w.heap.size ≤ gb101)); clear HB; have HB := n0_; have BK101 := n1_; have GW101 := n2_; have GE101 := n3_; clear n0_ n1_ n2_ n3_ hb hbox hg; have hcz88_0 : w87.cell? ⟨gb101, 0, none⟩ = some (.slice A0_0 l0_0.length c0_0) := (blk_cell BK101.out 0).trans rfl; have hfz88_0 := blk_frozen BK101.out 0) | ((with_reducible refine gate_callee (f := 31) rfl ?_); refine goesL_ (some 19) rfl rfl Try.func31 (by kernel_rfl) rfl #[.agg #[.slice A0_0 l0_0.length c0_0]] rfl (by (try simp only [List.map_toArray, List.map_cons, List.map_nil]); first | done | rfl | (simp only [List.length_drop, List.length_take]; rfl)) ?_; (with_reducible refine (spec_l01Is.calls k _ _ l0_0 false _ ?side1 ?side2 A3.out).mono ?_); (case side1 => repeat (first | exact (Kd.C_below HR0_0.out HB.out) | (with_reducible refine Kd.C_alloc ?_ _) | (with_reducible refine Kd.C_drewN ?_ _) | (with_reducible refine Kd.C_drew ?_))); (case side2 => exact HC0_0.out); rintro e w89 ⟨rfl, hb⟩; refine ⟨_, rfl, ?_⟩; have n0_ := Aside0.mk (blk_below (g := gb101) (o := .cells #[.slice A0_0 l0_0.length c0_0] 26 (0, 0)) (bb_ BK101.out) hb); have n1_ := Aside0.mk (below_step (gb_ HB.out) hb); clear BK101 HB; have BK101 := n0_; have HB := n1_; clear n0_ n1_; (try clear hb); (try clear hb2); (try clear hk); (try clear hi)))
  go_ret2
  exact ⟨_, by first | rfl | (simp [errW_none, errW_some] <;> rfl) | (simp [*, errW_none, errW_some] <;> rfl), by first | exact Kd.R_nil _ _ _ _ _ | exact Kd.N_nil _ _ _ _ _ | exact Kd.V_nil _ _ _ _ _ | exact Kd.Q_nil _ _ _ _ _ | exact Kd.S_nil _ _ _ _ _, gb_ HB.out⟩

end Go.Proofs.Ytbhgnphdhkmliaa.P
