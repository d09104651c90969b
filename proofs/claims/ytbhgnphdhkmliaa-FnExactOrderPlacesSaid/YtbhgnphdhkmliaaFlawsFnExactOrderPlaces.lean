/- Walks of Go functions, printed for this seat by this session's driver with the kit's print program: each says that a call returns what the plain Lean function beside it says. -/
import Derived.Test.YtbhgnphdhkmliaaF0
import Derived.Test.YtbhgnphdhkmliaaFBase
import Derived.Test.YtbhgnphdhkmliaaFspecOrderPlaces
import Derived.Test.YtbhgnphdhkmliaaHPlaces
namespace Go.Proofs.Ytbhgnphdhkmliaa.P
open Go.RowKit Go.Proofs.YtbhgnphdhkmliaaW.PrintWords Go.Proofs.YtbhgnphdhkmliaaW.PrintLast Go.Proofs.YtbhgnphdhkmliaaW.PrintMore
attribute [local go_sem] max2_int min2_int max_two min_two max_three min_three max_four min_four
set_option linter.unusedVariables false
set_option linter.unusedSimpArgs false

/-! ### laws_FnExactOrderPlaces: function 5 -/
mutual
def laws_FnExactOrderPlaces.j0 : Nat → List Int → List Int → List Int → Int → List Int → List Int → List Int → Int → Bool → List Int → List Int → List Int → List Int → Option (Bool)
  | 0, _, _, _, _, _, _, _, _, _, _, _, _, _ => none
  | k + 1, x1, x2, x9, x10, x12, x13, x15, x16, x73, x102000, x120000, x124000, x138000 => if x73 = true then (some false) else ((laws_toSpace.f k x102000).bind fun t140 => ((laws_eqSpace.f k x124000 t140).bind fun t143 => (if t143 = true then ((laws_toInt64S.f k x1).bind fun t144 => ((laws_eqInt64S.f k x12 t144).bind fun t147 => (if t147 = true then ((laws_toInt64S.f k x2).bind fun t148 => ((laws_eqInt64S.f k x13 t148).bind fun t151 => (if t151 = true then ((laws_markSpace.f k x124000 1).bind fun bt152 => ((laws_markInt64S.f k x12 bt152.1).bind fun bt154 => ((laws_markInt64S.f k x13 bt154.1).bind fun bt156 => (if bt156.1 < 0 then (laws_FnExactOrderPlaces.j1 k x1 x2 x9 x10 x15 true x102000 x120000 x138000) else ((laws_eqSpace.f k x138000 x120000).bind fun t158 => (if t158 = true then ((laws_eqInt64S.f k x15 x9).bind fun t159 => (if t159 = true then (laws_FnExactOrderPlaces.j1 k x1 x2 x9 x10 x15 (x16 != x10) x102000 x120000 x138000) else (laws_FnExactOrderPlaces.j1 k x1 x2 x9 x10 x15 true x102000 x120000 x138000))) else (laws_FnExactOrderPlaces.j1 k x1 x2 x9 x10 x15 true x102000 x120000 x138000))))))) else (some false)))) else (some false)))) else (some false))))
def laws_FnExactOrderPlaces.j1 : Nat → List Int → List Int → List Int → Int → List Int → Bool → List Int → List Int → List Int → Option (Bool)
  | 0, _, _, _, _, _, _, _, _, _ => none
  | k + 1, x1, x2, x9, x10, x15, x116, x102000, x120000, x138000 => if x116 = true then (some false) else ((laws_markSpace.f k x138000 1).bind fun bt160 => ((laws_markInt64S.f k x15 bt160.1).bind fun bt162 => ((laws_heldSpace.f k bt160.2 1).bind fun t164 => (if t164 < 0 then (some false) else ((laws_heldInt64S.f k bt162.2 t164).bind fun t165 => (if t165 < 0 then (some false) else (if t165 = bt162.1 then ((laws_toSpace.f k x102000).bind fun t166 => ((laws_toInt64S.f k x1).bind fun t169 => ((laws_toInt64S.f k x2).bind fun t172 => ((impl_OrderPlaces.f t166 t169 t172).bind fun bt175 => ((laws_eqSpace.f k bt175.1 x120000).bind fun t183 => (if t183 = true then ((laws_eqInt64S.f k bt175.2.1 x9).bind fun t184 => (if t184 = true then (laws_FnExactOrderPlaces.j2 k bt162.2 bt162.1 (bt175.2.2 != x10) bt160.2) else (laws_FnExactOrderPlaces.j2 k bt162.2 bt162.1 true bt160.2))) else (laws_FnExactOrderPlaces.j2 k bt162.2 bt162.1 true bt160.2))))))) else (some false))))))))
def laws_FnExactOrderPlaces.j2 : Nat → List Int → Int → Bool → List Int → Option (Bool)
  | 0, _, _, _, _ => none
  | k + 1, x15, x18, x161, x138000 => if x161 = true then (some false) else ((laws_heldSpace.f k x138000 1).bind fun t185 => (if t185 < 0 then (some false) else ((laws_heldInt64S.f k x15 t185).bind fun t186 => (if t186 < 0 then (some false) else (if t186 = x18 then (some true) else (some false))))))
end
def laws_FnExactOrderPlaces.f (k : Nat) (l0_0 : List Int) (l1 : List Int) (l2 : List Int) : Option (Bool) := if (l1.length : Int) > 1048576 then (some true) else (if (l2.length : Int) > 1048576 then (some true) else ((laws_szSpace.f l0_0 1048576).bind fun t102 => (if t102 < 0 then (some true) else ((laws_toSpace.f k l0_0).bind fun t103 => ((laws_toInt64S.f k l1).bind fun t106 => ((laws_toInt64S.f k l2).bind fun t109 => ((spec_OrderPlaces.f k t103 t106 t109).bind fun bt112 => ((laws_toSpace.f k l0_0).bind fun t120 => ((laws_toInt64S.f k l1).bind fun t124 => ((laws_toInt64S.f k l2).bind fun t127 => ((impl_OrderPlaces.f t120 t124 t127).bind fun bt130 => ((laws_eqSpace.f k bt130.1 bt112.1).bind fun t138 => (if t138 = true then ((laws_eqInt64S.f k bt130.2.1 bt112.2.1).bind fun t139 => (if t139 = true then (laws_FnExactOrderPlaces.j0 k l1 l2 bt112.2.1 bt112.2.2 t124 t127 bt130.2.1 bt130.2.2 (bt130.2.2 != bt112.2.2) l0_0 bt112.1 t120 bt130.1) else (laws_FnExactOrderPlaces.j0 k l1 l2 bt112.2.1 bt112.2.2 t124 t127 bt130.2.1 bt130.2.2 true l0_0 bt112.1 t120 bt130.1))) else (laws_FnExactOrderPlaces.j0 k l1 l2 bt112.2.1 bt112.2.2 t124 t127 bt130.2.1 bt130.2.2 true l0_0 bt112.1 t120 bt130.1))))))))))))))
theorem laws_FnExactOrderPlaces.mono_l : ∀ k, (∀ y0 y1 y2 y3 y4 y5 y6 y7 y8 y9 y10 y11 y12, LeO (laws_FnExactOrderPlaces.j0 k y0 y1 y2 y3 y4 y5 y6 y7 y8 y9 y10 y11 y12) (laws_FnExactOrderPlaces.j0 (k + 1) y0 y1 y2 y3 y4 y5 y6 y7 y8 y9 y10 y11 y12)) ∧ (∀ y0 y1 y2 y3 y4 y5 y6 y7 y8, LeO (laws_FnExactOrderPlaces.j1 k y0 y1 y2 y3 y4 y5 y6 y7 y8) (laws_FnExactOrderPlaces.j1 (k + 1) y0 y1 y2 y3 y4 y5 y6 y7 y8)) ∧ (∀ y0 y1 y2 y3, LeO (laws_FnExactOrderPlaces.j2 k y0 y1 y2 y3) (laws_FnExactOrderPlaces.j2 (k + 1) y0 y1 y2 y3))
  | 0 => ⟨fun _ _ _ _ _ _ _ _ _ _ _ _ _ r h => by simp [laws_FnExactOrderPlaces.j0] at h, fun _ _ _ _ _ _ _ _ _ r h => by simp [laws_FnExactOrderPlaces.j1] at h, fun _ _ _ _ r h => by simp [laws_FnExactOrderPlaces.j2] at h⟩
  | k + 1 => by
    obtain ⟨ih0, ih1, ih2⟩ := laws_FnExactOrderPlaces.mono_l k
    refine ⟨?_, ?_, ?_⟩
    · intro y0 y1 y2 y3 y4 y5 y6 y7 y8 y9 y10 y11 y12
      unfold laws_FnExactOrderPlaces.j0
      repeat' first
      | (with_reducible exact ih0 _ _ _ _ _ _ _ _ _ _ _ _ _)
      | (with_reducible exact ih1 _ _ _ _ _ _ _ _ _)
      | (with_reducible exact ih2 _ _ _ _)
      | (with_reducible exact laws_eqInt64S.mono _ _ _)
      | (with_reducible exact laws_eqSpace.mono _ _ _)
      | (with_reducible exact laws_heldInt64S.mono _ _ _)
      | (with_reducible exact laws_heldSpace.mono _ _ _)
      | (with_reducible exact laws_markInt64S.mono _ _ _)
      | (with_reducible exact laws_markSpace.mono _ _ _)
      | (with_reducible exact laws_toInt64S.mono _ _)
      | (with_reducible exact laws_toSpace.mono _ _)
      | (with_reducible exact spec_OrderPlaces.mono _ _ _ _)
      | (with_reducible exact LeO.refl _)
      | (with_reducible exact LeO.none _)
      | (with_reducible refine LeO.ite ?_ ?_)
      | (with_reducible refine LeO.bind ?_ (fun _ => ?_))
      | exact ih0 _ _ _ _ _ _ _ _ _ _ _ _ _
      | exact ih1 _ _ _ _ _ _ _ _ _
      | exact ih2 _ _ _ _
      | exact laws_eqInt64S.mono _ _ _
      | exact laws_eqSpace.mono _ _ _
      | exact laws_heldInt64S.mono _ _ _
      | exact laws_heldSpace.mono _ _ _
      | exact laws_markInt64S.mono _ _ _
      | exact laws_markSpace.mono _ _ _
      | exact laws_toInt64S.mono _ _
      | exact laws_toSpace.mono _ _
      | exact spec_OrderPlaces.mono _ _ _ _
      | exact LeO.none _
      | refine LeO.ite ?_ ?_
      | refine LeO.bind ?_ (fun _ => ?_)
    · intro y0 y1 y2 y3 y4 y5 y6 y7 y8
      unfold laws_FnExactOrderPlaces.j1
      repeat' first
      | (with_reducible exact ih0 _ _ _ _ _ _ _ _ _ _ _ _ _)
      | (with_reducible exact ih1 _ _ _ _ _ _ _ _ _)
      | (with_reducible exact ih2 _ _ _ _)
      | (with_reducible exact laws_eqInt64S.mono _ _ _)
      | (with_reducible exact laws_eqSpace.mono _ _ _)
      | (with_reducible exact laws_heldInt64S.mono _ _ _)
      | (with_reducible exact laws_heldSpace.mono _ _ _)
      | (with_reducible exact laws_markInt64S.mono _ _ _)
      | (with_reducible exact laws_markSpace.mono _ _ _)
      | (with_reducible exact laws_toInt64S.mono _ _)
      | (with_reducible exact laws_toSpace.mono _ _)
      | (with_reducible exact spec_OrderPlaces.mono _ _ _ _)
      | (with_reducible exact LeO.refl _)
      | (with_reducible exact LeO.none _)
      | (with_reducible refine LeO.ite ?_ ?_)
      | (with_reducible refine LeO.bind ?_ (fun _ => ?_))
      | exact ih0 _ _ _ _ _ _ _ _ _ _ _ _ _
      | exact ih1 _ _ _ _ _ _ _ _ _
      | exact ih2 _ _ _ _
      | exact laws_eqInt64S.mono _ _ _
      | exact laws_eqSpace.mono _ _ _
      | exact laws_heldInt64S.mono _ _ _
      | exact laws_heldSpace.mono _ _ _
      | exact laws_markInt64S.mono _ _ _
      | exact laws_markSpace.mono _ _ _
      | exact laws_toInt64S.mono _ _
      | exact laws_toSpace.mono _ _
      | exact spec_OrderPlaces.mono _ _ _ _
      | exact LeO.none _
      | refine LeO.ite ?_ ?_
      | refine LeO.bind ?_ (fun _ => ?_)
    · intro y0 y1 y2 y3
      unfold laws_FnExactOrderPlaces.j2
      repeat' first
      | (with_reducible exact ih0 _ _ _ _ _ _ _ _ _ _ _ _ _)
      | (with_reducible exact ih1 _ _ _ _ _ _ _ _ _)
      | (with_reducible exact ih2 _ _ _ _)
      | (with_reducible exact laws_eqInt64S.mono _ _ _)
      | (with_reducible exact laws_eqSpace.mono _ _ _)
      | (with_reducible exact laws_heldInt64S.mono _ _ _)
      | (with_reducible exact laws_heldSpace.mono _ _ _)
      | (with_reducible exact laws_markInt64S.mono _ _ _)
      | (with_reducible exact laws_markSpace.mono _ _ _)
      | (with_reducible exact laws_toInt64S.mono _ _)
      | (with_reducible exact laws_toSpace.mono _ _)
      | (with_reducible exact spec_OrderPlaces.mono _ _ _ _)
      | (with_reducible exact LeO.refl _)
      | (with_reducible exact LeO.none _)
      | (with_reducible refine LeO.ite ?_ ?_)
      | (with_reducible refine LeO.bind ?_ (fun _ => ?_))
      | exact ih0 _ _ _ _ _ _ _ _ _ _ _ _ _
      | exact ih1 _ _ _ _ _ _ _ _ _
      | exact ih2 _ _ _ _
      | exact laws_eqInt64S.mono _ _ _
      | exact laws_eqSpace.mono _ _ _
      | exact laws_heldInt64S.mono _ _ _
      | exact laws_heldSpace.mono _ _ _
      | exact laws_markInt64S.mono _ _ _
      | exact laws_markSpace.mono _ _ _
      | exact laws_toInt64S.mono _ _
      | exact laws_toSpace.mono _ _
      | exact spec_OrderPlaces.mono _ _ _ _
      | exact LeO.none _
      | refine LeO.ite ?_ ?_
      | refine LeO.bind ?_ (fun _ => ?_)
theorem laws_FnExactOrderPlaces.mono : ∀ a0 a1 a2 k, LeO (laws_FnExactOrderPlaces.f k a0 a1 a2) (laws_FnExactOrderPlaces.f (k + 1) a0 a1 a2) := by
  intro a0 a1 a2 k
  obtain ⟨ih0, ih1, ih2⟩ := laws_FnExactOrderPlaces.mono_l k
  unfold laws_FnExactOrderPlaces.f
  repeat' first
      | (with_reducible exact ih0 _ _ _ _ _ _ _ _ _ _ _ _ _)
      | (with_reducible exact ih1 _ _ _ _ _ _ _ _ _)
      | (with_reducible exact ih2 _ _ _ _)
      | (with_reducible exact laws_eqInt64S.mono _ _ _)
      | (with_reducible exact laws_eqSpace.mono _ _ _)
      | (with_reducible exact laws_heldInt64S.mono _ _ _)
      | (with_reducible exact laws_heldSpace.mono _ _ _)
      | (with_reducible exact laws_markInt64S.mono _ _ _)
      | (with_reducible exact laws_markSpace.mono _ _ _)
      | (with_reducible exact laws_toInt64S.mono _ _)
      | (with_reducible exact laws_toSpace.mono _ _)
      | (with_reducible exact spec_OrderPlaces.mono _ _ _ _)
      | (with_reducible exact LeO.refl _)
      | (with_reducible exact LeO.none _)
      | (with_reducible refine LeO.ite ?_ ?_)
      | (with_reducible refine LeO.bind ?_ (fun _ => ?_))
      | exact ih0 _ _ _ _ _ _ _ _ _ _ _ _ _
      | exact ih1 _ _ _ _ _ _ _ _ _
      | exact ih2 _ _ _ _
      | exact laws_eqInt64S.mono _ _ _
      | exact laws_eqSpace.mono _ _ _
      | exact laws_heldInt64S.mono _ _ _
      | exact laws_heldSpace.mono _ _ _
      | exact laws_markInt64S.mono _ _ _
      | exact laws_markSpace.mono _ _ _
      | exact laws_toInt64S.mono _ _
      | exact laws_toSpace.mono _ _
      | exact spec_OrderPlaces.mono _ _ _ _
      | exact LeO.none _
      | refine LeO.ite ?_ ?_
      | refine LeO.bind ?_ (fun _ => ?_)
set_option maxHeartbeats 8000000 in
set_option maxRecDepth 100000 in
theorem laws_FnExactOrderPlaces.calls (k : Nat) (A0_0 : Option Addr) (c0_0 : Nat) (l0_0 : List Int) (A1 : Option Addr) (c1 : Nat) (l1 : List Int) (A2 : Option Addr) (c2 : Nat) (l2 : List Int) (r : Bool) (w : World) (hr0_0 : Kd.C (Kd.int .i64) w A0_0 l0_0.length l0_0) (hc0_0 : l0_0.length ≤ c0_0) (hr1 : Kd.C (Kd.int .i64) w A1 l1.length l1) (hc1 : l1.length ≤ c1) (hr2 : Kd.C (Kd.int .i64) w A2 l2.length l2) (hc2 : l2.length ≤ c2) (h : laws_FnExactOrderPlaces.f k l0_0 l1 l2 = some r) :
  Calls Try.prog 5 #[.agg #[.slice A0_0 l0_0.length c0_0], .slice A1 l1.length c1, .slice A2 l2.length c2] w fun e w' => e = .returned (.bool r) ∧ Below w.heap.size w w' := by
 have hu24 := Try.underlying24
 have hu26 := Try.underlying26
 have HR0_0 := Aside0.mk hr0_0
 have HC0_0 := Aside0.mk hc0_0
 clear hr0_0 hc0_0
 have HR1 := Aside0.mk hr1
 have HC1 := Aside0.mk hc1
 clear hr1 hc1
 have HR2 := Aside0.mk hr2
 have HC2 := Aside0.mk hc2
 clear hr2 hc2
 have HB := Aside0.mk (Below.refl w.heap.size w)
 have H : (if (l1.length : Int) > 1048576 then (some true) else (if (l2.length : Int) > 1048576 then (some true) else ((laws_szSpace.f l0_0 1048576).bind fun t102 => (if t102 < 0 then (some true) else ((laws_toSpace.f k l0_0).bind fun t103 => ((laws_toInt64S.f k l1).bind fun t106 => ((laws_toInt64S.f k l2).bind fun t109 => ((spec_OrderPlaces.f k t103 t106 t109).bind fun bt112 => ((laws_toSpace.f k l0_0).bind fun t120 => ((laws_toInt64S.f k l1).bind fun t124 => ((laws_toInt64S.f k l2).bind fun t127 => ((impl_OrderPlaces.f t120 t124 t127).bind fun bt130 => ((laws_eqSpace.f k bt130.1 bt112.1).bind fun t138 => (if t138 = true then ((laws_eqInt64S.f k bt130.2.1 bt112.2.1).bind fun t139 => (if t139 = true then (laws_FnExactOrderPlaces.j0 k l1 l2 bt112.2.1 bt112.2.2 t124 t127 bt130.2.1 bt130.2.2 (bt130.2.2 != bt112.2.2) l0_0 bt112.1 t120 bt130.1) else (laws_FnExactOrderPlaces.j0 k l1 l2 bt112.2.1 bt112.2.2 t124 t127 bt130.2.1 bt130.2.2 true l0_0 bt112.1 t120 bt130.1))) else (laws_FnExactOrderPlaces.j0 k l1 l2 bt112.2.1 bt112.2.2 t124 t127 bt130.2.1 bt130.2.2 true l0_0 bt112.1 t120 bt130.1))))))))))))))) = some r := h
 clear h
 by_cases c4 : (l1.length : Int) > 1048576
 ·rw [if_pos c4] at H
  have c4b0 : decide (1048576 < (l1.length : Int)) = true := decide_eq_true c4
  have c4b1 : decide (1048576 < l1.length) = true := decide_eq_true (by omega)
  clear c4
  obtain rfl := Option.some.inj H
  go_enter Try.func5, Try.ntmps5
  go_wp2_with (first | ((with_reducible refine gate_dst (N := 3) rfl ?_); refine box_event ?hg (N := 3) ?hd (cs := #[.slice A0_0 l0_0.length c0_0]) (t := 24) ?hr ?_; (case hd => rfl); (case hg => rfl); (case hr => first | (go_simp; done) | (go_simp; rfl)); intro gb101 hg w5 hbox hb; have n0_ := Aside0.mk (below_step (gb_ HB.out) hb); have n1_ := Aside0.mk (hbox); have n2_ := Aside0.mk ((by rw [hg]; exact (below_size (gb_ HB.out)) : w.heap.size ≤ gb101)); have n3_ := Aside0.mk ((by rw [hg]; exact (below_size (gb_ HB.out)) : w.heap.size ≤ gb101)); clear HB; have HB := n0_; have BK101 := n1_; have GW101 := n2_; have GE101 := n3_; clear n0_ n1_ n2_ n3_ hb hbox hg))
  go_ret
  exact ⟨by first | rfl | (simp [errW_none, errW_some] <;> rfl) | (simp [*, errW_none, errW_some] <;> rfl), gb_ HB.out⟩
 ·rw [if_neg c4] at H
  have c4b0 : decide (1048576 < (l1.length : Int)) = false := decide_eq_false c4
  have c4b1 : decide (1048576 < l1.length) = false := decide_eq_false (by omega)
  clear c4
  by_cases c6 : (l2.length : Int) > 1048576
  ·rw [if_pos c6] at H
   have c6b0 : decide (1048576 < (l2.length : Int)) = true := decide_eq_true c6
   have c6b1 : decide (1048576 < l2.length) = true := decide_eq_true (by omega)
   clear c6
   obtain rfl := Option.some.inj H
   go_enter Try.func5, Try.ntmps5
   go_wp2_with (first | ((with_reducible refine gate_dst (N := 3) rfl ?_); refine box_event ?hg (N := 3) ?hd (cs := #[.slice A0_0 l0_0.length c0_0]) (t := 24) ?hr ?_; (case hd => rfl); (case hg => rfl); (case hr => first | (go_simp; done) | (go_simp; rfl)); intro gb101 hg w7 hbox hb; have n0_ := Aside0.mk (below_step (gb_ HB.out) hb); have n1_ := Aside0.mk (hbox); have n2_ := Aside0.mk ((by rw [hg]; exact (below_size (gb_ HB.out)) : w.heap.size ≤ gb101)); have n3_ := Aside0.mk ((by rw [hg]; exact (below_size (gb_ HB.out)) : w.heap.size ≤ gb101)); clear HB; have HB := n0_; have BK101 := n1_; have GW101 := n2_; have GE101 := n3_; clear n0_ n1_ n2_ n3_ hb hbox hg))
   go_ret
   exact ⟨by first | rfl | (simp [errW_none, errW_some] <;> rfl) | (simp [*, errW_none, errW_some] <;> rfl), gb_ HB.out⟩
  ·rw [if_neg c6] at H
   have c6b0 : decide (1048576 < (l2.length : Int)) = false := decide_eq_false c6
   have c6b1 : decide (1048576 < l2.length) = false := decide_eq_false (by omega)
   clear c6
   replace H := Option.bind_eq_some_iff.mp H
   obtain ⟨t102, A80, H⟩ := H
   replace H : (if t102 < 0 then (some true) else ((laws_toSpace.f k l0_0).bind fun t103 => ((laws_toInt64S.f k l1).bind fun t106 => ((laws_toInt64S.f k l2).bind fun t109 => ((spec_OrderPlaces.f k t103 t106 t109).bind fun bt112 => ((laws_toSpace.f k l0_0).bind fun t120 => ((laws_toInt64S.f k l1).bind fun t124 => ((laws_toInt64S.f k l2).bind fun t127 => ((impl_OrderPlaces.f t120 t124 t127).bind fun bt130 => ((laws_eqSpace.f k bt130.1 bt112.1).bind fun t138 => (if t138 = true then ((laws_eqInt64S.f k bt130.2.1 bt112.2.1).bind fun t139 => (if t139 = true then (laws_FnExactOrderPlaces.j0 k l1 l2 bt112.2.1 bt112.2.2 t124 t127 bt130.2.1 bt130.2.2 (bt130.2.2 != bt112.2.2) l0_0 bt112.1 t120 bt130.1) else (laws_FnExactOrderPlaces.j0 k l1 l2 bt112.2.1 bt112.2.2 t124 t127 bt130.2.1 bt130.2.2 true l0_0 bt112.1 t120 bt130.1))) else (laws_FnExactOrderPlaces.j0 k l1 l2 bt112.2.1 bt112.2.2 t124 t127 bt130.2.1 bt130.2.2 true l0_0 bt112.1 t120 bt130.1)))))))))))) = some r := H
   have A8 := Aside0.mk A80
   clear A80
   by_cases c9 : t102 < 0
   ·rw [if_pos c9] at H
    have c9b0 : decide (t102 < 0) = true := decide_eq_true c9
    clear c9
    obtain rfl := Option.some.inj H
    go_enter Try.func5, Try.ntmps5
    go_wp2_with (first | ((with_reducible refine gate_dst (N := 3) rfl ?_); refine box_event ?hg (N := 3) ?hd (cs := #[.slice A0_0 l0_0.length c0_0]) (t := 24) ?hr ?_; (case hd => rfl); (case hg => rfl); (case hr => first | (go_simp; done) | (go_simp; rfl)); intro gb101 hg w10 hbox hb; have n0_ := Aside0.mk (below_step (gb_ HB.out) hb); have n1_ := Aside0.mk (hbox); have n2_ := Aside0.mk ((by rw [hg]; exact (below_size (gb_ HB.out)) : w.heap.size ≤ gb101)); have n3_ := Aside0.mk ((by rw [hg]; exact (below_size (gb_ HB.out)) : w.heap.size ≤ gb101)); clear HB; have HB := n0_; have BK101 := n1_; have GW101 := n2_; have GE101 := n3_; clear n0_ n1_ n2_ n3_ hb hbox hg; have hcz11_0 : w10.cell? ⟨gb101, 0, none⟩ = some (.slice A0_0 l0_0.length c0_0) := (blk_cell BK101.out 0).trans rfl; have hfz11_0 := blk_frozen BK101.out 0) | ((with_reducible refine gate_callee (f := 9) rfl ?_); refine goesL_ (some 31) rfl rfl Try.func9 (by kernel_rfl) rfl #[.agg #[.slice A0_0 l0_0.length c0_0], .int .i64 1048576] rfl (by (try simp only [List.map_toArray, List.map_cons, List.map_nil]); first | done | rfl | (simp only [List.length_drop, List.length_take]; rfl)) ?_; (with_reducible refine (laws_szSpace.calls _ _ l0_0 1048576 t102 _ ?side1 ?side2 A8.out).mono ?_); (case side1 => exact c2_ HR0_0 HB); (case side2 => exact HC0_0.out); rintro e w12 ⟨rfl, hb⟩; refine ⟨_, rfl, ?_⟩; replace BK101 := a2_ BK101 hb; replace HB := Aside0.mk (below_step (gb_ HB.out) hb); (try clear hb); (try clear hb2); (try clear hk); (try clear hi)))
    go_ret
    exact ⟨by first | rfl | (simp [errW_none, errW_some] <;> rfl) | (simp [*, errW_none, errW_some] <;> rfl), gb_ HB.out⟩
   ·rw [if_neg c9] at H
    have c9b0 : decide (t102 < 0) = false := decide_eq_false c9
    clear c9
    replace H := Option.bind_eq_some_iff.mp H
    obtain ⟨t103, A130, H⟩ := H
    replace H : ((laws_toInt64S.f k l1).bind fun t106 => ((laws_toInt64S.f k l2).bind fun t109 => ((spec_OrderPlaces.f k t103 t106 t109).bind fun bt112 => ((laws_toSpace.f k l0_0).bind fun t120 => ((laws_toInt64S.f k l1).bind fun t124 => ((laws_toInt64S.f k l2).bind fun t127 => ((impl_OrderPlaces.f t120 t124 t127).bind fun bt130 => ((laws_eqSpace.f k bt130.1 bt112.1).bind fun t138 => (if t138 = true then ((laws_eqInt64S.f k bt130.2.1 bt112.2.1).bind fun t139 => (if t139 = true then (laws_FnExactOrderPlaces.j0 k l1 l2 bt112.2.1 bt112.2.2 t124 t127 bt130.2.1 bt130.2.2 (bt130.2.2 != bt112.2.2) l0_0 bt112.1 t120 bt130.1) else (laws_FnExactOrderPlaces.j0 k l1 l2 bt112.2.1 bt112.2.2 t124 t127 bt130.2.1 bt130.2.2 true l0_0 bt112.1 t120 bt130.1))) else (laws_FnExactOrderPlaces.j0 k l1 l2 bt112.2.1 bt112.2.2 t124 t127 bt130.2.1 bt130.2.2 true l0_0 bt112.1 t120 bt130.1)))))))))) = some r := H
    have A13 := Aside0.mk A130
    clear A130
    replace H := Option.bind_eq_some_iff.mp H
    obtain ⟨t106, A140, H⟩ := H
    replace H : ((laws_toInt64S.f k l2).bind fun t109 => ((spec_OrderPlaces.f k t103 t106 t109).bind fun bt112 => ((laws_toSpace.f k l0_0).bind fun t120 => ((laws_toInt64S.f k l1).bind fun t124 => ((laws_toInt64S.f k l2).bind fun t127 => ((impl_OrderPlaces.f t120 t124 t127).bind fun bt130 => ((laws_eqSpace.f k bt130.1 bt112.1).bind fun t138 => (if t138 = true then ((laws_eqInt64S.f k bt130.2.1 bt112.2.1).bind fun t139 => (if t139 = true then (laws_FnExactOrderPlaces.j0 k l1 l2 bt112.2.1 bt112.2.2 t124 t127 bt130.2.1 bt130.2.2 (bt130.2.2 != bt112.2.2) l0_0 bt112.1 t120 bt130.1) else (laws_FnExactOrderPlaces.j0 k l1 l2 bt112.2.1 bt112.2.2 t124 t127 bt130.2.1 bt130.2.2 true l0_0 bt112.1 t120 bt130.1))) else (laws_FnExactOrderPlaces.j0 k l1 l2 bt112.2.1 bt112.2.2 t124 t127 bt130.2.1 bt130.2.2 true l0_0 bt112.1 t120 bt130.1))))))))) = some r := H
    have A14 := Aside0.mk A140
    clear A140
    replace H := Option.bind_eq_some_iff.mp H
    obtain ⟨t109, A150, H⟩ := H
    replace H : ((spec_OrderPlaces.f k t103 t106 t109).bind fun bt112 => ((laws_toSpace.f k l0_0).bind fun t120 => ((laws_toInt64S.f k l1).bind fun t124 => ((laws_toInt64S.f k l2).bind fun t127 => ((impl_OrderPlaces.f t120 t124 t127).bind fun bt130 => ((laws_eqSpace.f k bt130.1 bt112.1).bind fun t138 => (if t138 = true then ((laws_eqInt64S.f k bt130.2.1 bt112.2.1).bind fun t139 => (if t139 = true then (laws_FnExactOrderPlaces.j0 k l1 l2 bt112.2.1 bt112.2.2 t124 t127 bt130.2.1 bt130.2.2 (bt130.2.2 != bt112.2.2) l0_0 bt112.1 t120 bt130.1) else (laws_FnExactOrderPlaces.j0 k l1 l2 bt112.2.1 bt112.2.2 t124 t127 bt130.2.1 bt130.2.2 true l0_0 bt112.1 t120 bt130.1))) else (laws_FnExactOrderPlaces.j0 k l1 l2 bt112.2.1 bt112.2.2 t124 t127 bt130.2.1 bt130.2.2 true l0_0 bt112.1 t120 bt130.1)))))))) = some r := H
    have A15 := Aside0.mk A150
    clear A150
    replace H := Option.bind_eq_some_iff.mp H
    obtain ⟨⟨t112, t115, t118⟩, A160, H⟩ := H
    replace H : ((laws_toSpace.f k l0_0).bind fun t120 => ((laws_toInt64S.f k l1).bind fun t124 => ((laws_toInt64S.f k l2).bind fun t127 => ((impl_OrderPlaces.f t120 t124 t127).bind fun bt130 => ((laws_eqSpace.f k bt130.1 t112).bind fun t138 => (if t138 = true then ((laws_eqInt64S.f k bt130.2.1 t115).bind fun t139 => (if t139 = true then (laws_FnExactOrderPlaces.j0 k l1 l2 t115 t118 t124 t127 bt130.2.1 bt130.2.2 (bt130.2.2 != t118) l0_0 t112 t120 bt130.1) else (laws_FnExactOrderPlaces.j0 k l1 l2 t115 t118 t124 t127 bt130.2.1 bt130.2.2 true l0_0 t112 t120 bt130.1))) else (laws_FnExactOrderPlaces.j0 k l1 l2 t115 t118 t124 t127 bt130.2.1 bt130.2.2 true l0_0 t112 t120 bt130.1))))))) = some r := H
    have A16 := Aside0.mk A160
    clear A160
    replace H := Option.bind_eq_some_iff.mp H
    obtain ⟨t120, A170, H⟩ := H
    replace H : ((laws_toInt64S.f k l1).bind fun t124 => ((laws_toInt64S.f k l2).bind fun t127 => ((impl_OrderPlaces.f t120 t124 t127).bind fun bt130 => ((laws_eqSpace.f k bt130.1 t112).bind fun t138 => (if t138 = true then ((laws_eqInt64S.f k bt130.2.1 t115).bind fun t139 => (if t139 = true then (laws_FnExactOrderPlaces.j0 k l1 l2 t115 t118 t124 t127 bt130.2.1 bt130.2.2 (bt130.2.2 != t118) l0_0 t112 t120 bt130.1) else (laws_FnExactOrderPlaces.j0 k l1 l2 t115 t118 t124 t127 bt130.2.1 bt130.2.2 true l0_0 t112 t120 bt130.1))) else (laws_FnExactOrderPlaces.j0 k l1 l2 t115 t118 t124 t127 bt130.2.1 bt130.2.2 true l0_0 t112 t120 bt130.1)))))) = some r := H
    have A17 := Aside0.mk A170
    clear A170
    replace H := Option.bind_eq_some_iff.mp H
    obtain ⟨t124, A180, H⟩ := H
    replace H : ((laws_toInt64S.f k l2).bind fun t127 => ((impl_OrderPlaces.f t120 t124 t127).bind fun bt130 => ((laws_eqSpace.f k bt130.1 t112).bind fun t138 => (if t138 = true then ((laws_eqInt64S.f k bt130.2.1 t115).bind fun t139 => (if t139 = true then (laws_FnExactOrderPlaces.j0 k l1 l2 t115 t118 t124 t127 bt130.2.1 bt130.2.2 (bt130.2.2 != t118) l0_0 t112 t120 bt130.1) else (laws_FnExactOrderPlaces.j0 k l1 l2 t115 t118 t124 t127 bt130.2.1 bt130.2.2 true l0_0 t112 t120 bt130.1))) else (laws_FnExactOrderPlaces.j0 k l1 l2 t115 t118 t124 t127 bt130.2.1 bt130.2.2 true l0_0 t112 t120 bt130.1))))) = some r := H
    have A18 := Aside0.mk A180
    clear A180
    replace H := Option.bind_eq_some_iff.mp H
    obtain ⟨t127, A190, H⟩ := H
    replace H : ((impl_OrderPlaces.f t120 t124 t127).bind fun bt130 => ((laws_eqSpace.f k bt130.1 t112).bind fun t138 => (if t138 = true then ((laws_eqInt64S.f k bt130.2.1 t115).bind fun t139 => (if t139 = true then (laws_FnExactOrderPlaces.j0 k l1 l2 t115 t118 t124 t127 bt130.2.1 bt130.2.2 (bt130.2.2 != t118) l0_0 t112 t120 bt130.1) else (laws_FnExactOrderPlaces.j0 k l1 l2 t115 t118 t124 t127 bt130.2.1 bt130.2.2 true l0_0 t112 t120 bt130.1))) else (laws_FnExactOrderPlaces.j0 k l1 l2 t115 t118 t124 t127 bt130.2.1 bt130.2.2 true l0_0 t112 t120 bt130.1)))) = some r := H
    have A19 := Aside0.mk A190
    clear A190
    replace H := Option.bind_eq_some_iff.mp H
    obtain ⟨⟨t130, t133, t136⟩, A200, H⟩ := H
    replace H : ((laws_eqSpace.f k t130 t112).bind fun t138 => (if t138 = true then ((laws_eqInt64S.f k t133 t115).bind fun t139 => (if t139 = true then (laws_FnExactOrderPlaces.j0 k l1 l2 t115 t118 t124 t127 t133 t136 (t136 != t118) l0_0 t112 t120 t130) else (laws_FnExactOrderPlaces.j0 k l1 l2 t115 t118 t124 t127 t133 t136 true l0_0 t112 t120 t130))) else (laws_FnExactOrderPlaces.j0 k l1 l2 t115 t118 t124 t127 t133 t136 true l0_0 t112 t120 t130))) = some r := H
    have A20 := Aside0.mk A200
    clear A200
    have HC21 := Aside0.mk H
    clear H
    go_enter Try.func5, Try.ntmps5
    go_upto_region 14 with (first | ((with_reducible refine gate_dst (N := 3) rfl ?_); refine box_event ?hg (N := 3) ?hd (cs := #[.slice A0_0 l0_0.length c0_0]) (t := 24) ?hr ?_; (case hd => rfl); (case hg => rfl); (case hr => first | (go_simp; done) | (go_simp; rfl)); intro gb101 hg w22 hbox hb; have n0_ := Aside0.mk (below_step (gb_ HB.out) hb); have n1_ := Aside0.mk (hbox); have n2_ := Aside0.mk ((by rw [hg]; exact (below_size (gb_ HB.out)) : w.heap.size ≤ gb101)); have n3_ := Aside0.mk ((by rw [hg]; exact (below_size (gb_ HB.out)) : w.heap.size ≤ gb101)); clear HB; have HB := n0_; have BK101 := n1_; have GW101 := n2_; have GE101 := n3_; clear n0_ n1_ n2_ n3_ hb hbox hg; have hcz23_0 : w22.cell? ⟨gb101, 0, none⟩ = some (.slice A0_0 l0_0.length c0_0) := (blk_cell BK101.out 0).trans rfl; have hfz23_0 := blk_frozen BK101.out 0) | ((with_reducible refine gate_callee (f := 9) rfl ?_); refine goesL_ (some 31) rfl rfl Try.func9 (by kernel_rfl) rfl #[.agg #[.slice A0_0 l0_0.length c0_0], .int .i64 1048576] rfl (by (try simp only [List.map_toArray, List.map_cons, List.map_nil]); first | done | rfl | (simp only [List.length_drop, List.length_take]; rfl)) ?_; (with_reducible refine (laws_szSpace.calls _ _ l0_0 1048576 t102 _ ?side1 ?side2 A8.out).mono ?_); (case side1 => exact c2_ HR0_0 HB); (case side2 => exact HC0_0.out); rintro e w24 ⟨rfl, hb⟩; refine ⟨_, rfl, ?_⟩; replace BK101 := a2_ BK101 hb; replace HB := Aside0.mk (below_step (gb_ HB.out) hb); (try clear hb); (try clear hb2); (try clear hk); (try clear hi); have hcz25_0 : w24.cell? ⟨gb101, 0, none⟩ = some (.slice A0_0 l0_0.length c0_0) := (blk_cell BK101.out 0).trans rfl; have hfz25_0 := blk_frozen BK101.out 0) | ((with_reducible refine gate_callee (f := 11) rfl ?_); refine goesL_ (some 36) rfl rfl Try.func11 (by kernel_rfl) rfl #[.agg #[.slice A0_0 l0_0.length c0_0]] rfl (by (try simp only [List.map_toArray, List.map_cons, List.map_nil]); first | done | rfl | (simp only [List.length_drop, List.length_take]; rfl)) ?_; (with_reducible refine (laws_toSpace.calls k _ _ l0_0 t103 _ ?side1 ?side2 A13.out).mono ?_); (case side1 => exact c2_ HR0_0 HB); (case side2 => exact HC0_0.out); rintro e w26 ⟨v104, rfl, ho0, hb⟩; refine ⟨_, rfl, ?_⟩; have HO105 := Aside0.mk (Kd.R_lower ho0 (below_size (gb_ HB.out))); replace BK101 := a2_ BK101 hb; replace HB := Aside0.mk (below_step (gb_ HB.out) hb); (try clear hb); (try clear hb2); (try clear hk); (try clear hi); (try clear ho0)) | ((with_reducible refine gate_callee (f := 12) rfl ?_); refine goesL_ (some 38) rfl rfl Try.func12 (by kernel_rfl) rfl #[.slice A1 l1.length c1] rfl (by (try simp only [List.map_toArray, List.map_cons, List.map_nil]); first | done | rfl | (simp only [List.length_drop, List.length_take]; rfl)) ?_; (with_reducible refine (laws_toInt64S.calls k _ _ l1 t106 _ ?side1 ?side2 A14.out).mono ?_); (case side1 => exact c2_ HR1 HB); (case side2 => exact HC1.out); rintro e w27 ⟨v107, rfl, ho0, hb⟩; refine ⟨_, rfl, ?_⟩; have HO108 := Aside0.mk (Kd.R_lower (Kd.R_new' ho0 (Kd.R_lt (rb_ HO105.out))) (below_size (gb_ HB.out))); replace HO105 := a5_ HO105 ho0 hb; replace BK101 := a2_ BK101 hb; replace HB := Aside0.mk (below_step (gb_ HB.out) hb); (try clear hb); (try clear hb2); (try clear hk); (try clear hi); (try clear ho0)) | ((with_reducible refine gate_callee (f := 12) rfl ?_); refine goesL_ (some 40) rfl rfl Try.func12 (by kernel_rfl) rfl #[.slice A2 l2.length c2] rfl (by (try simp only [List.map_toArray, List.map_cons, List.map_nil]); first | done | rfl | (simp only [List.length_drop, List.length_take]; rfl)) ?_; (with_reducible refine (laws_toInt64S.calls k _ _ l2 t109 _ ?side1 ?side2 A15.out).mono ?_); (case side1 => exact c2_ HR2 HB); (case side2 => exact HC2.out); rintro e w28 ⟨v110, rfl, ho0, hb⟩; refine ⟨_, rfl, ?_⟩; have HO111 := Aside0.mk (Kd.R_lower (Kd.R_new' (Kd.R_new' ho0 (Kd.R_lt (rb_ HO105.out))) (Kd.R_lt (rb_ HO108.out))) (below_size (gb_ HB.out))); replace HO105 := a5_ HO105 ho0 hb; replace HO108 := a5_ HO108 ho0 hb; replace BK101 := a2_ BK101 hb; replace HB := Aside0.mk (below_step (gb_ HB.out) hb); (try clear hb); (try clear hb2); (try clear hk); (try clear hi); (try clear ho0); obtain ⟨Ao29, co29, eo29⟩ := Kd.R_slice HO105.out; subst eo29; obtain ⟨Ao30, co30, eo30⟩ := Kd.R_slice HO108.out; subst eo30; obtain ⟨Ao31, co31, eo31⟩ := Kd.R_slice HO111.out; subst eo31) | ((with_reducible refine gate_callee (f := 22) rfl ?_); refine goesL_ (some 41) rfl rfl Try.func22 (by kernel_rfl) rfl #[.agg #[.slice Ao29 t103.length co29], .slice Ao30 t106.length co30, .slice Ao31 t109.length co31] rfl (by (try simp only [List.map_toArray, List.map_cons, List.map_nil]); first | done | rfl | (simp only [List.length_drop, List.length_take]; rfl)) ?_; (with_reducible refine (spec_OrderPlaces.calls k _ _ t103 _ _ t106 _ _ t109 t112 t115 t118 _ ?side1 ?side2 ?side3 ?side4 ?side5 ?side6 A16.out).mono ?_); (case side1 => exact c1_ HO105); (case side2 => exact (Kd.R_reads' HO105.out).2.1); (case side3 => exact c1_ HO108); (case side4 => exact (Kd.R_reads' HO108.out).2.1); (case side5 => exact c1_ HO111); (case side6 => exact (Kd.R_reads' HO111.out).2.1); rintro e w32 ⟨v113, v116, rfl, ho0, ho1, hb⟩; refine ⟨_, rfl, ?_⟩; have HO114 := Aside0.mk (Kd.R_lower (Kd.R_new' (Kd.R_new' (Kd.R_new' ho0 (Kd.R_lt (rb_ HO105.out))) (Kd.R_lt (rb_ HO108.out))) (Kd.R_lt (rb_ HO111.out))) (below_size (gb_ HB.out))); have HO117 := Aside0.mk (Kd.R_lower (Kd.R_new' (Kd.R_new' (Kd.R_new' ho1 (Kd.R_lt (rb_ HO105.out))) (Kd.R_lt (rb_ HO108.out))) (Kd.R_lt (rb_ HO111.out))) (below_size (gb_ HB.out))); replace HO105 := Aside0.mk (Kd.R_mono (Kd.R_told (Kd.R_told (Kd.R_old (rb_ HO105.out) hb) (Kd.R_base ho0)) (Kd.R_base ho1)) (fun _ h_ => h_.1)); replace HO108 := Aside0.mk (Kd.R_mono (Kd.R_told (Kd.R_told (Kd.R_old (rb_ HO108.out) hb) (Kd.R_base ho0)) (Kd.R_base ho1)) (fun _ h_ => h_.1)); replace HO111 := Aside0.mk (Kd.R_mono (Kd.R_told (Kd.R_told (Kd.R_old (rb_ HO111.out) hb) (Kd.R_base ho0)) (Kd.R_base ho1)) (fun _ h_ => h_.1)); replace BK101 := a2_ BK101 hb; replace HB := Aside0.mk (below_step (gb_ HB.out) hb); (try clear hb); (try clear hb2); (try clear hk); (try clear hi); (try clear ho0); (try clear ho1)) | ((with_reducible refine gate_dst (N := 8) rfl ?_); refine box_event ?hg (N := 8) ?hd (cs := #[.slice none 0 0]) (t := 26) ?hr ?_; (case hd => rfl); (case hg => rfl); (case hr => first | (go_simp; done) | (go_simp; rfl)); intro gb119 hg w33 hbox hb; have n0_ := a1_ HO105 hb; have n1_ := a1_ HO108 hb; have n2_ := a1_ HO111 hb; have n3_ := a1_ HO114 hb; have n4_ := a1_ HO117 hb; have n5_ := a2_ BK101 hb; have n6_ := Aside0.mk (below_step (gb_ HB.out) hb); have n7_ := Aside0.mk (hbox); have n8_ := Aside0.mk ((by rw [hg]; exact (below_size (gb_ HB.out)) : w.heap.size ≤ gb119)); have n9_ := Aside0.mk ((by rw [hg]; exact (below_size (gb_ HB.out)) : w.heap.size ≤ gb119)); have n10_ := Aside0.mk ((by rw [hg]; exact Nat.ne_of_lt (blk_lt (g := gb101) (o := .cells #[.slice A0_0 l0_0.length c0_0] 24 (0, 0)) (bb_ BK101.out)) : gb101 ≠ gb119)); have n11_ := Aside0.mk ((by rw [hg]; exact Nat.ne_of_gt (blk_lt (g := gb101) (o := .cells #[.slice A0_0 l0_0.length c0_0] 24 (0, 0)) (bb_ BK101.out)) : gb119 ≠ gb101)); clear HO105 HO108 HO111 HO114 HO117 BK101 HB; have HO105 := n0_; have HO108 := n1_; have HO111 := n2_; have HO114 := n3_; have HO117 := n4_; have BK101 := n5_; have HB := n6_; have BK119 := n7_; have GW119 := n8_; have GE119 := n9_; have NB101_119 := n10_; have NB119_101 := n11_; clear n0_ n1_ n2_ n3_ n4_ n5_ n6_ n7_ n8_ n9_ n10_ n11_ hb hbox hg; obtain ⟨Ao34, co34, eo34⟩ := Kd.R_slice HO114.out; subst eo34; have hnb35 := NB119_101.out; have hnc35 := NB101_119.out; have hcz36_0 : w33.cell? ⟨gb119, 0, none⟩ = some (.slice none 0 0) := (blk_cell BK119.out 0).trans rfl; have hfz36_0 := blk_frozen BK119.out 0; have hcz37_0 : w33.cell? ⟨gb101, 0, none⟩ = some (.slice A0_0 l0_0.length c0_0) := (blk_cell BK101.out 0).trans rfl; have hfz37_0 := blk_frozen BK101.out 0) | ((with_reducible refine gate_callee (f := 11) rfl ?_); refine goesL_ (some 46) rfl rfl Try.func11 (by kernel_rfl) rfl #[.agg #[.slice A0_0 l0_0.length c0_0]] rfl (by (try simp only [List.map_toArray, List.map_cons, List.map_nil]); first | done | rfl | (simp only [List.length_drop, List.length_take]; rfl)) ?_; (with_reducible refine (laws_toSpace.calls k _ _ l0_0 t120 _ ?side1 ?side2 A17.out).mono ?_); (case side1 => exact Kd.C_below HR0_0.out (gb_ HB.out)); (case side2 => exact HC0_0.out); rintro e w38 ⟨v121, rfl, ho0, hb⟩; refine ⟨_, rfl, ?_⟩; have HO122 := Aside0.mk (Kd.R_lower (Kd.R_new' (Kd.R_new' (Kd.R_new' (Kd.R_new' (Kd.R_new' ho0 (Kd.R_lt (rb_ (Kd.R_mono (Kd.R_far (p := ⟨gb119, 0, none⟩) (Kd.R_types HO105.out BK119.out (by decide)) (fun _ hk => hk.2) (.slice Ao34 t112.length co34)) (fun _ h_ => h_.1))))) (Kd.R_lt (rb_ (Kd.R_mono (Kd.R_far (p := ⟨gb119, 0, none⟩) (Kd.R_types HO108.out BK119.out (by decide)) (fun _ hk => hk.2) (.slice Ao34 t112.length co34)) (fun _ h_ => h_.1))))) (Kd.R_lt (rb_ (Kd.R_mono (Kd.R_far (p := ⟨gb119, 0, none⟩) (Kd.R_types HO111.out BK119.out (by decide)) (fun _ hk => hk.2) (.slice Ao34 t112.length co34)) (fun _ h_ => h_.1))))) (Kd.R_lt (rb_ (Kd.R_mono (Kd.R_far (p := ⟨gb119, 0, none⟩) (Kd.R_types HO114.out BK119.out (by decide)) (fun _ hk => hk.2) (.slice Ao34 t112.length co34)) (fun _ h_ => h_.1))))) (Kd.R_lt (rb_ (Kd.R_mono (Kd.R_far (p := ⟨gb119, 0, none⟩) (Kd.R_types HO117.out BK119.out (by decide)) (fun _ hk => hk.2) (.slice Ao34 t112.length co34)) (fun _ h_ => h_.1))))) (below_size (gb_ HB.out))); replace HO105 := a8_ HO105 BK119 ho0 hb; replace HO108 := a8_ HO108 BK119 ho0 hb; replace HO111 := a8_ HO111 BK119 ho0 hb; replace HO114 := a8_ HO114 BK119 ho0 hb; replace HO117 := a8_ HO117 BK119 ho0 hb; replace BK101 := a3_ BK101 NB101_119 hb; replace BK119 := Aside0.mk (blk_below (g := gb119) (o := .cells #[.slice Ao34 t112.length co34] 26 (0, 0)) (by (with_reducible repeat (first | refine blk_drewN ?_ _ | refine blk_drew ?_ | refine blk_alloc ?_ _)); refine blk_put (cs := #[.slice none 0 0]) ?_ 0 _ rfl; (with_reducible repeat (first | refine blk_drewN ?_ _ | refine blk_drew ?_ | refine blk_alloc ?_ _)); exact BK119.out) hb); replace HB := Aside0.mk (below_step (gb_ HB.out) hb); (try clear hb); (try clear hb2); (try clear hk); (try clear hi); (try clear ho0)) | ((with_reducible refine gate_dst (N := 11) rfl ?_); refine box_event ?hg (N := 11) ?hd (cs := #[.slice none 0 0]) (t := 26) ?hr ?_; (case hd => rfl); (case hg => rfl); (case hr => first | (go_simp; done) | (go_simp; rfl)); intro gb123 hg w39 hbox hb; have n0_ := a1_ HO105 hb; have n1_ := a1_ HO108 hb; have n2_ := a1_ HO111 hb; have n3_ := a1_ HO114 hb; have n4_ := a1_ HO117 hb; have n5_ := a1_ HO122 hb; have n6_ := a2_ BK101 hb; have n7_ := a2_ BK119 hb; have n8_ := Aside0.mk (below_step (gb_ HB.out) hb); have n9_ := Aside0.mk (hbox); have n10_ := Aside0.mk ((by rw [hg]; exact (below_size (gb_ HB.out)) : w.heap.size ≤ gb123)); have n11_ := Aside0.mk ((by rw [hg]; exact (below_size (gb_ HB.out)) : w.heap.size ≤ gb123)); have n12_ := Aside0.mk ((by rw [hg]; exact Nat.ne_of_lt (blk_lt (g := gb101) (o := .cells #[.slice A0_0 l0_0.length c0_0] 24 (0, 0)) (bb_ BK101.out)) : gb101 ≠ gb123)); have n13_ := Aside0.mk ((by rw [hg]; exact Nat.ne_of_gt (blk_lt (g := gb101) (o := .cells #[.slice A0_0 l0_0.length c0_0] 24 (0, 0)) (bb_ BK101.out)) : gb123 ≠ gb101)); have n14_ := Aside0.mk ((by rw [hg]; exact Nat.ne_of_lt (blk_lt (g := gb119) (o := .cells #[.slice Ao34 t112.length co34] 26 (0, 0)) (bb_ BK119.out)) : gb119 ≠ gb123)); have n15_ := Aside0.mk ((by rw [hg]; exact Nat.ne_of_gt (blk_lt (g := gb119) (o := .cells #[.slice Ao34 t112.length co34] 26 (0, 0)) (bb_ BK119.out)) : gb123 ≠ gb119)); clear HO105 HO108 HO111 HO114 HO117 HO122 BK101 BK119 HB; have HO105 := n0_; have HO108 := n1_; have HO111 := n2_; have HO114 := n3_; have HO117 := n4_; have HO122 := n5_; have BK101 := n6_; have BK119 := n7_; have HB := n8_; have BK123 := n9_; have GW123 := n10_; have GE123 := n11_; have NB101_123 := n12_; have NB123_101 := n13_; have NB119_123 := n14_; have NB123_119 := n15_; clear n0_ n1_ n2_ n3_ n4_ n5_ n6_ n7_ n8_ n9_ n10_ n11_ n12_ n13_ n14_ n15_ hb hbox hg; obtain ⟨Ao40, co40, eo40⟩ := Kd.R_slice HO122.out; subst eo40; have hnb41 := NB123_101.out; have hnc41 := NB101_123.out; have hnb42 := NB123_119.out; have hnc42 := NB119_123.out; have hcz43_0 : w39.cell? ⟨gb123, 0, none⟩ = some (.slice none 0 0) := (blk_cell BK123.out 0).trans rfl; have hfz43_0 := blk_frozen BK123.out 0) | ((with_reducible refine gate_callee (f := 12) rfl ?_); refine goesL_ (some 48) rfl rfl Try.func12 (by kernel_rfl) rfl #[.slice A1 l1.length c1] rfl (by (try simp only [List.map_toArray, List.map_cons, List.map_nil]); first | done | rfl | (simp only [List.length_drop, List.length_take]; rfl)) ?_; (with_reducible refine (laws_toInt64S.calls k _ _ l1 t124 _ ?side1 ?side2 A18.out).mono ?_); (case side1 => exact Kd.C_below HR1.out (gb_ HB.out)); (case side2 => exact HC1.out); rintro e w44 ⟨v125, rfl, ho0, hb⟩; refine ⟨_, rfl, ?_⟩; have HO126 := Aside0.mk (Kd.R_lower (Kd.R_new' (Kd.R_new' (Kd.R_new' (Kd.R_new' (Kd.R_new' (Kd.R_new' ho0 (Kd.R_lt (rb_ (Kd.R_mono (Kd.R_far (p := ⟨gb123, 0, none⟩) (Kd.R_types HO105.out BK123.out (by decide)) (fun _ hk => hk.2) (.slice Ao40 t120.length co40)) (fun _ h_ => h_.1))))) (Kd.R_lt (rb_ (Kd.R_mono (Kd.R_far (p := ⟨gb123, 0, none⟩) (Kd.R_types HO108.out BK123.out (by decide)) (fun _ hk => hk.2) (.slice Ao40 t120.length co40)) (fun _ h_ => h_.1))))) (Kd.R_lt (rb_ (Kd.R_mono (Kd.R_far (p := ⟨gb123, 0, none⟩) (Kd.R_types HO111.out BK123.out (by decide)) (fun _ hk => hk.2) (.slice Ao40 t120.length co40)) (fun _ h_ => h_.1))))) (Kd.R_lt (rb_ (Kd.R_mono (Kd.R_far (p := ⟨gb123, 0, none⟩) (Kd.R_types HO114.out BK123.out (by decide)) (fun _ hk => hk.2) (.slice Ao40 t120.length co40)) (fun _ h_ => h_.1))))) (Kd.R_lt (rb_ (Kd.R_mono (Kd.R_far (p := ⟨gb123, 0, none⟩) (Kd.R_types HO117.out BK123.out (by decide)) (fun _ hk => hk.2) (.slice Ao40 t120.length co40)) (fun _ h_ => h_.1))))) (Kd.R_lt (rb_ (Kd.R_mono (Kd.R_far (p := ⟨gb123, 0, none⟩) (Kd.R_types HO122.out BK123.out (by decide)) (fun _ hk => hk.2) (.slice Ao40 t120.length co40)) (fun _ h_ => h_.1))))) (below_size (gb_ HB.out))); replace HO105 := a8_ HO105 BK123 ho0 hb; replace HO108 := a8_ HO108 BK123 ho0 hb; replace HO111 := a8_ HO111 BK123 ho0 hb; replace HO114 := a8_ HO114 BK123 ho0 hb; replace HO117 := a8_ HO117 BK123 ho0 hb; replace HO122 := a8_ HO122 BK123 ho0 hb; replace BK101 := a3_ BK101 NB101_123 hb; replace BK119 := a3_ BK119 NB119_123 hb; replace BK123 := Aside0.mk (blk_below (g := gb123) (o := .cells #[.slice Ao40 t120.length co40] 26 (0, 0)) (by (with_reducible repeat (first | refine blk_drewN ?_ _ | refine blk_drew ?_ | refine blk_alloc ?_ _)); refine blk_put (cs := #[.slice none 0 0]) ?_ 0 _ rfl; (with_reducible repeat (first | refine blk_drewN ?_ _ | refine blk_drew ?_ | refine blk_alloc ?_ _)); exact BK123.out) hb); replace HB := Aside0.mk (below_step (gb_ HB.out) hb); (try clear hb); (try clear hb2); (try clear hk); (try clear hi); (try clear ho0)) | ((with_reducible refine gate_callee (f := 12) rfl ?_); refine goesL_ (some 50) rfl rfl Try.func12 (by kernel_rfl) rfl #[.slice A2 l2.length c2] rfl (by (try simp only [List.map_toArray, List.map_cons, List.map_nil]); first | done | rfl | (simp only [List.length_drop, List.length_take]; rfl)) ?_; (with_reducible refine (laws_toInt64S.calls k _ _ l2 t127 _ ?side1 ?side2 A19.out).mono ?_); (case side1 => exact c2_ HR2 HB); (case side2 => exact HC2.out); rintro e w45 ⟨v128, rfl, ho0, hb⟩; refine ⟨_, rfl, ?_⟩; have HO129 := Aside0.mk (Kd.R_lower (Kd.R_new' (Kd.R_new' (Kd.R_new' (Kd.R_new' (Kd.R_new' (Kd.R_new' (Kd.R_new' ho0 (Kd.R_lt (rb_ HO105.out))) (Kd.R_lt (rb_ HO108.out))) (Kd.R_lt (rb_ HO111.out))) (Kd.R_lt (rb_ HO114.out))) (Kd.R_lt (rb_ HO117.out))) (Kd.R_lt (rb_ HO122.out))) (Kd.R_lt (rb_ HO126.out))) (below_size (gb_ HB.out))); replace HO105 := a5_ HO105 ho0 hb; replace HO108 := a5_ HO108 ho0 hb; replace HO111 := a5_ HO111 ho0 hb; replace HO114 := a5_ HO114 ho0 hb; replace HO117 := a5_ HO117 ho0 hb; replace HO122 := a5_ HO122 ho0 hb; replace HO126 := a5_ HO126 ho0 hb; replace BK101 := a2_ BK101 hb; replace BK119 := a2_ BK119 hb; replace BK123 := a2_ BK123 hb; replace HB := Aside0.mk (below_step (gb_ HB.out) hb); (try clear hb); (try clear hb2); (try clear hk); (try clear hi); (try clear ho0); have hcz46_0 : w45.cell? ⟨gb123, 0, none⟩ = some (.slice Ao40 t120.length co40) := (blk_cell BK123.out 0).trans rfl; have hfz46_0 := blk_frozen BK123.out 0; obtain ⟨Ao47, co47, eo47⟩ := Kd.R_slice HO126.out; subst eo47; obtain ⟨Ao48, co48, eo48⟩ := Kd.R_slice HO129.out; subst eo48) | ((with_reducible refine gate_callee (f := 23) rfl ?_); refine goesL_ (some 55) rfl rfl Try.func23 (by kernel_rfl) rfl #[.agg #[.slice Ao40 t120.length co40], .slice Ao47 t124.length co47, .slice Ao48 t127.length co48] rfl (by (try simp only [List.map_toArray, List.map_cons, List.map_nil]); first | done | rfl | (simp only [List.length_drop, List.length_take]; rfl)) ?_; (with_reducible refine (impl_OrderPlaces.calls _ _ t120 _ _ t124 _ _ t127 t130 t133 t136 _ ?side1 ?side2 ?side3 ?side4 ?side5 ?side6 A20.out).mono ?_); (case side1 => exact c1_ HO122); (case side2 => exact (Kd.R_reads' HO122.out).2.1); (case side3 => exact c1_ HO126); (case side4 => exact (Kd.R_reads' HO126.out).2.1); (case side5 => exact c1_ HO129); (case side6 => exact (Kd.R_reads' HO129.out).2.1); rintro e w49 ⟨v131, v134, rfl, ho0, ho1, hb⟩; refine ⟨_, rfl, ?_⟩; have HO132 := Aside0.mk (Kd.R_lower (Kd.R_new' (Kd.R_new' (Kd.R_new' (Kd.R_new' (Kd.R_new' (Kd.R_new' (Kd.R_new' (Kd.R_new' ho0 (Kd.R_lt (rb_ HO105.out))) (Kd.R_lt (rb_ HO108.out))) (Kd.R_lt (rb_ HO111.out))) (Kd.R_lt (rb_ HO114.out))) (Kd.R_lt (rb_ HO117.out))) (Kd.R_lt (rb_ HO122.out))) (Kd.R_lt (rb_ HO126.out))) (Kd.R_lt (rb_ HO129.out))) (below_size (gb_ HB.out))); have HO135 := Aside0.mk (Kd.R_lower (Kd.R_new' (Kd.R_new' (Kd.R_new' (Kd.R_new' (Kd.R_new' (Kd.R_new' (Kd.R_new' (Kd.R_new' ho1 (Kd.R_lt (rb_ HO105.out))) (Kd.R_lt (rb_ HO108.out))) (Kd.R_lt (rb_ HO111.out))) (Kd.R_lt (rb_ HO114.out))) (Kd.R_lt (rb_ HO117.out))) (Kd.R_lt (rb_ HO122.out))) (Kd.R_lt (rb_ HO126.out))) (Kd.R_lt (rb_ HO129.out))) (below_size (gb_ HB.out))); replace HO105 := Aside0.mk (Kd.R_mono (Kd.R_told (Kd.R_told (Kd.R_old (rb_ HO105.out) hb) (Kd.R_base ho0)) (Kd.R_base ho1)) (fun _ h_ => h_.1)); replace HO108 := Aside0.mk (Kd.R_mono (Kd.R_told (Kd.R_told (Kd.R_old (rb_ HO108.out) hb) (Kd.R_base ho0)) (Kd.R_base ho1)) (fun _ h_ => h_.1)); replace HO111 := Aside0.mk (Kd.R_mono (Kd.R_told (Kd.R_told (Kd.R_old (rb_ HO111.out) hb) (Kd.R_base ho0)) (Kd.R_base ho1)) (fun _ h_ => h_.1)); replace HO114 := Aside0.mk (Kd.R_mono (Kd.R_told (Kd.R_told (Kd.R_old (rb_ HO114.out) hb) (Kd.R_base ho0)) (Kd.R_base ho1)) (fun _ h_ => h_.1)); replace HO117 := Aside0.mk (Kd.R_mono (Kd.R_told (Kd.R_told (Kd.R_old (rb_ HO117.out) hb) (Kd.R_base ho0)) (Kd.R_base ho1)) (fun _ h_ => h_.1)); replace HO122 := Aside0.mk (Kd.R_mono (Kd.R_told (Kd.R_told (Kd.R_old (rb_ HO122.out) hb) (Kd.R_base ho0)) (Kd.R_base ho1)) (fun _ h_ => h_.1)); replace HO126 := Aside0.mk (Kd.R_mono (Kd.R_told (Kd.R_told (Kd.R_old (rb_ HO126.out) hb) (Kd.R_base ho0)) (Kd.R_base ho1)) (fun _ h_ => h_.1)); replace HO129 := Aside0.mk (Kd.R_mono (Kd.R_told (Kd.R_told (Kd.R_old (rb_ HO129.out) hb) (Kd.R_base ho0)) (Kd.R_base ho1)) (fun _ h_ => h_.1)); replace BK101 := a2_ BK101 hb; replace BK119 := a2_ BK119 hb; replace BK123 := a2_ BK123 hb; replace HB := Aside0.mk (below_step (gb_ HB.out) hb); (try clear hb); (try clear hb2); (try clear hk); (try clear hi); (try clear ho0); (try clear ho1)) | ((with_reducible refine gate_dst (N := 14) rfl ?_); refine box_event ?hg (N := 14) ?hd (cs := #[.slice none 0 0]) (t := 26) ?hr ?_; (case hd => rfl); (case hg => rfl); (case hr => first | (go_simp; done) | (go_simp; rfl)); intro gb137 hg w50 hbox hb; have n0_ := a1_ HO105 hb; have n1_ := a1_ HO108 hb; have n2_ := a1_ HO111 hb; have n3_ := a1_ HO114 hb; have n4_ := a1_ HO117 hb; have n5_ := a1_ HO122 hb; have n6_ := a1_ HO126 hb; have n7_ := a1_ HO129 hb; have n8_ := a1_ HO132 hb; have n9_ := a1_ HO135 hb; have n10_ := a2_ BK101 hb; have n11_ := a2_ BK119 hb; have n12_ := a2_ BK123 hb; have n13_ := Aside0.mk (below_step (gb_ HB.out) hb); have n14_ := Aside0.mk (hbox); have n15_ := Aside0.mk ((by rw [hg]; exact (below_size (gb_ HB.out)) : w.heap.size ≤ gb137)); have n16_ := Aside0.mk ((by rw [hg]; exact (below_size (gb_ HB.out)) : w.heap.size ≤ gb137)); have n17_ := Aside0.mk ((by rw [hg]; exact Nat.ne_of_lt (blk_lt (g := gb101) (o := .cells #[.slice A0_0 l0_0.length c0_0] 24 (0, 0)) (bb_ BK101.out)) : gb101 ≠ gb137)); have n18_ := Aside0.mk ((by rw [hg]; exact Nat.ne_of_gt (blk_lt (g := gb101) (o := .cells #[.slice A0_0 l0_0.length c0_0] 24 (0, 0)) (bb_ BK101.out)) : gb137 ≠ gb101)); have n19_ := Aside0.mk ((by rw [hg]; exact Nat.ne_of_lt (blk_lt (g := gb119) (o := .cells #[.slice Ao34 t112.length co34] 26 (0, 0)) (bb_ BK119.out)) : gb119 ≠ gb137)); have n20_ := Aside0.mk ((by rw [hg]; exact Nat.ne_of_gt (blk_lt (g := gb119) (o := .cells #[.slice Ao34 t112.length co34] 26 (0, 0)) (bb_ BK119.out)) : gb137 ≠ gb119)); have n21_ := Aside0.mk ((by rw [hg]; exact Nat.ne_of_lt (blk_lt (g := gb123) (o := .cells #[.slice Ao40 t120.length co40] 26 (0, 0)) (bb_ BK123.out)) : gb123 ≠ gb137)); have n22_ := Aside0.mk ((by rw [hg]; exact Nat.ne_of_gt (blk_lt (g := gb123) (o := .cells #[.slice Ao40 t120.length co40] 26 (0, 0)) (bb_ BK123.out)) : gb137 ≠ gb123)); clear HO105 HO108 HO111 HO114 HO117 HO122 HO126 HO129 HO132 HO135 BK101 BK119 BK123 HB; have HO105 := n0_; have HO108 := n1_; have HO111 := n2_; have HO114 := n3_; have HO117 := n4_; have HO122 := n5_; have HO126 := n6_; have HO129 := n7_; have HO132 := n8_; have HO135 := n9_; have BK101 := n10_; have BK119 := n11_; have BK123 := n12_; have HB := n13_; have BK137 := n14_; have GW137 := n15_; have GE137 := n16_; have NB101_137 := n17_; have NB137_101 := n18_; have NB119_137 := n19_; have NB137_119 := n20_; have NB123_137 := n21_; have NB137_123 := n22_; clear n0_ n1_ n2_ n3_ n4_ n5_ n6_ n7_ n8_ n9_ n10_ n11_ n12_ n13_ n14_ n15_ n16_ n17_ n18_ n19_ n20_ n21_ n22_ hb hbox hg; obtain ⟨Ao51, co51, eo51⟩ := Kd.R_slice HO132.out; subst eo51; have hnb52 := NB137_101.out; have hnc52 := NB101_137.out; have hnb53 := NB137_119.out; have hnc53 := NB119_137.out; have hnb54 := NB137_123.out; have hnc54 := NB123_137.out; have hcz55_0 : w50.cell? ⟨gb137, 0, none⟩ = some (.slice none 0 0) := (blk_cell BK137.out 0).trans rfl; have hfz55_0 := blk_frozen BK137.out 0))
    (try simp only [Act.put, List.setIfInBounds_toArray, List.set_cons_zero, List.set_cons_succ])
    go_cut [73] (fun cs_73 wc => ∃ (kq : Nat) (x73_20 : Bool), cs_73 = .bool x73_20 ∧ Aside0 (laws_FnExactOrderPlaces.j0 kq l1 l2 t115 t118 t124 t127 t133 t136 x73_20 l0_0 t112 t120 t130 = some r) ∧ Aside0 (kq ≤ k) ∧ Aside0 (Kd.R (Kd.int .i64) 2 wc w.heap.size (fun k_ => OB_ k_ (.slice Ao47 t124.length co47) ∧ OB_ k_ (.slice Ao48 t127.length co48) ∧ OB_ k_ v134 ∧ OB_ k_ (.slice Ao34 t112.length co34) ∧ OB_ k_ (.slice Ao40 t120.length co40) ∧ OB_ k_ (.slice Ao51 t130.length co51)) v116 t115) ∧ Aside0 (Kd.R (Kd.int .i64) 2 wc w.heap.size (fun k_ => OB_ k_ v116 ∧ OB_ k_ (.slice Ao48 t127.length co48) ∧ OB_ k_ v134 ∧ OB_ k_ (.slice Ao34 t112.length co34) ∧ OB_ k_ (.slice Ao40 t120.length co40) ∧ OB_ k_ (.slice Ao51 t130.length co51)) (.slice Ao47 t124.length co47) t124) ∧ Aside0 (Kd.R (Kd.int .i64) 2 wc w.heap.size (fun k_ => OB_ k_ v116 ∧ OB_ k_ (.slice Ao47 t124.length co47) ∧ OB_ k_ v134 ∧ OB_ k_ (.slice Ao34 t112.length co34) ∧ OB_ k_ (.slice Ao40 t120.length co40) ∧ OB_ k_ (.slice Ao51 t130.length co51)) (.slice Ao48 t127.length co48) t127) ∧ Aside0 (Kd.R (Kd.int .i64) 2 wc w.heap.size (fun k_ => OB_ k_ v116 ∧ OB_ k_ (.slice Ao47 t124.length co47) ∧ OB_ k_ (.slice Ao48 t127.length co48) ∧ OB_ k_ (.slice Ao34 t112.length co34) ∧ OB_ k_ (.slice Ao40 t120.length co40) ∧ OB_ k_ (.slice Ao51 t130.length co51)) v134 t133) ∧ Aside0 (Kd.R (Kd.int .i64) 2 wc w.heap.size (fun k_ => OB_ k_ v116 ∧ OB_ k_ (.slice Ao47 t124.length co47) ∧ OB_ k_ (.slice Ao48 t127.length co48) ∧ OB_ k_ v134 ∧ OB_ k_ (.slice Ao40 t120.length co40) ∧ OB_ k_ (.slice Ao51 t130.length co51)) (.slice Ao34 t112.length co34) t112) ∧ Aside0 (Kd.R (Kd.int .i64) 2 wc w.heap.size (fun k_ => OB_ k_ v116 ∧ OB_ k_ (.slice Ao47 t124.length co47) ∧ OB_ k_ (.slice Ao48 t127.length co48) ∧ OB_ k_ v134 ∧ OB_ k_ (.slice Ao34 t112.length co34) ∧ OB_ k_ (.slice Ao51 t130.length co51)) (.slice Ao40 t120.length co40) t120) ∧ Aside0 (Kd.R (Kd.int .i64) 2 wc w.heap.size (fun k_ => OB_ k_ v116 ∧ OB_ k_ (.slice Ao47 t124.length co47) ∧ OB_ k_ (.slice Ao48 t127.length co48) ∧ OB_ k_ v134 ∧ OB_ k_ (.slice Ao34 t112.length co34) ∧ OB_ k_ (.slice Ao40 t120.length co40)) (.slice Ao51 t130.length co51) t130) ∧ Aside0 (wc.heap[gb101]? = some (.cells #[(.slice A0_0 l0_0.length c0_0)] 24 (0, 0))) ∧ Aside0 (wc.heap[gb119]? = some (.cells #[(.slice Ao34 t112.length co34)] 26 (0, 0))) ∧ Aside0 (wc.heap[gb123]? = some (.cells #[(.slice Ao40 t120.length co40)] 26 (0, 0))) ∧ Aside0 (wc.heap[gb137]? = some (.cells #[(.slice Ao51 t130.length co51)] 26 (0, 0))) ∧ Aside0 (Below w.heap.size w wc))
    case first =>
     have H := HC21.out
     clear HC21
     replace H := Option.bind_eq_some_iff.mp H
     obtain ⟨t138, A560, H⟩ := H
     replace H : (if t138 = true then ((laws_eqInt64S.f k t133 t115).bind fun t139 => (if t139 = true then (laws_FnExactOrderPlaces.j0 k l1 l2 t115 t118 t124 t127 t133 t136 (t136 != t118) l0_0 t112 t120 t130) else (laws_FnExactOrderPlaces.j0 k l1 l2 t115 t118 t124 t127 t133 t136 true l0_0 t112 t120 t130))) else (laws_FnExactOrderPlaces.j0 k l1 l2 t115 t118 t124 t127 t133 t136 true l0_0 t112 t120 t130)) = some r := H
     have A56 := Aside0.mk A560
     clear A560
     by_cases c57 : t138 = true
     ·subst c57
      have H1 : ((laws_eqInt64S.f k t133 t115).bind fun t139 => (if t139 = true then (laws_FnExactOrderPlaces.j0 k l1 l2 t115 t118 t124 t127 t133 t136 (t136 != t118) l0_0 t112 t120 t130) else (laws_FnExactOrderPlaces.j0 k l1 l2 t115 t118 t124 t127 t133 t136 true l0_0 t112 t120 t130))) = some r := by rw [if_pos rfl] at H; exact H
      clear H
      have H := H1
      clear H1
      replace H := Option.bind_eq_some_iff.mp H
      obtain ⟨t139, A580, H⟩ := H
      replace H : (if t139 = true then (laws_FnExactOrderPlaces.j0 k l1 l2 t115 t118 t124 t127 t133 t136 (t136 != t118) l0_0 t112 t120 t130) else (laws_FnExactOrderPlaces.j0 k l1 l2 t115 t118 t124 t127 t133 t136 true l0_0 t112 t120 t130)) = some r := H
      have A58 := Aside0.mk A580
      clear A580
      by_cases c59 : t139 = true
      ·subst c59
       have H1 : (laws_FnExactOrderPlaces.j0 k l1 l2 t115 t118 t124 t127 t133 t136 (t136 != t118) l0_0 t112 t120 t130) = some r := by rw [if_pos rfl] at H; exact H
       clear H
       have H := H1
       clear H1
       have H' := Aside0.mk H
       clear H
       have hnb60 := NB137_101.out
       have hnc60 := NB101_137.out
       have hnb61 := NB137_119.out
       have hnc61 := NB119_137.out
       have hnb62 := NB137_123.out
       have hnc62 := NB123_137.out
       have hcz63_0 : w50.cell? ⟨gb137, 0, none⟩ = some (.slice none 0 0) := (blk_cell BK137.out 0).trans rfl
       have hfz63_0 := blk_frozen BK137.out 0
       have hnb64 := NB119_101.out
       have hnc64 := NB101_119.out
       have hnb65 := NB119_123.out
       have hnc65 := NB123_119.out
       have hcz66_0 : w50.cell? ⟨gb119, 0, none⟩ = some (.slice Ao34 t112.length co34) := (blk_cell BK119.out 0).trans rfl
       have hfz66_0 := blk_frozen BK119.out 0
       go_wp2_with (first | ((with_reducible refine gate_callee (f := 14) rfl ?_); refine goesL_ (some 61) rfl rfl Try.func14 (by kernel_rfl) rfl #[.agg #[.slice Ao51 t130.length co51], .agg #[.slice Ao34 t112.length co34]] rfl (by (try simp only [List.map_toArray, List.map_cons, List.map_nil]); first | done | rfl | (simp only [List.length_drop, List.length_take]; rfl)) ?_; (with_reducible refine (laws_eqSpace.calls k _ _ t130 _ _ t112 true _ ?side1 ?side2 ?side3 ?side4 A56.out).mono ?_); (case side1 => refine (Kd.R_reads' (e := 2) (base := w.heap.size) (ok := fun _ => True) (n := t130.length) (c := co51) ?_).2.2; exact (rb_ (Kd.R_mono (Kd.R_far (p := ⟨gb137, 0, none⟩) (Kd.R_types HO132.out BK137.out (by decide)) (fun _ hk => hk.2) (.slice Ao51 t130.length co51)) (fun _ _ => trivial)))); (case side2 => exact (Kd.R_reads' HO132.out).2.1); (case side3 => refine (Kd.R_reads' (e := 2) (base := w.heap.size) (ok := fun _ => True) (n := t112.length) (c := co34) ?_).2.2; exact (rb_ (Kd.R_mono (Kd.R_far (p := ⟨gb137, 0, none⟩) (Kd.R_types HO114.out BK137.out (by decide)) (fun _ hk => hk.2) (.slice Ao51 t130.length co51)) (fun _ _ => trivial)))); (case side4 => exact (Kd.R_reads' HO114.out).2.1); rintro e w67 ⟨rfl, hb⟩; refine ⟨_, rfl, ?_⟩; replace HO105 := a4_ HO105 BK137 hb; replace HO108 := a4_ HO108 BK137 hb; replace HO111 := a4_ HO111 BK137 hb; replace HO114 := a4_ HO114 BK137 hb; replace HO117 := a4_ HO117 BK137 hb; replace HO122 := a4_ HO122 BK137 hb; replace HO126 := a4_ HO126 BK137 hb; replace HO129 := a4_ HO129 BK137 hb; replace HO132 := a4_ HO132 BK137 hb; replace HO135 := a4_ HO135 BK137 hb; replace BK101 := a3_ BK101 NB101_137 hb; replace BK119 := a3_ BK119 NB119_137 hb; replace BK123 := a3_ BK123 NB123_137 hb; replace BK137 := Aside0.mk (blk_below (g := gb137) (o := .cells #[.slice Ao51 t130.length co51] 26 (0, 0)) (by (with_reducible repeat (first | refine blk_drewN ?_ _ | refine blk_drew ?_ | refine blk_alloc ?_ _)); refine blk_put (cs := #[.slice none 0 0]) ?_ 0 _ rfl; (with_reducible repeat (first | refine blk_drewN ?_ _ | refine blk_drew ?_ | refine blk_alloc ?_ _)); exact BK137.out) hb); replace HB := Aside0.mk (below_step (gb_ HB.out) hb); (try clear hb); (try clear hb2); (try clear hk); (try clear hi); obtain ⟨Ao68, co68, eo68⟩ := Kd.R_slice HO135.out; subst eo68; obtain ⟨Ao69, co69, eo69⟩ := Kd.R_slice HO117.out; subst eo69) | (go_at_call 15; (with_reducible refine (laws_eqInt64S.calls k _ _ t133 _ _ t115 true _ ?side1 ?side2 ?side3 ?side4 A58.out).mono ?_); (case side1 => exact c1_ HO135); (case side2 => exact (Kd.R_reads' HO135.out).2.1); (case side3 => exact c1_ HO117); (case side4 => exact (Kd.R_reads' HO117.out).2.1); rintro e w' ⟨rfl, ⟨nd, rfl⟩⟩))
       go_meet
       case rel => exact ⟨_, ((t136 != t118)), (by first | rfl | (simp; done) | (simp [*]; done)), H', ⟨by first | omega | exact Nat.le_refl _⟩, ⟨by (with_reducible repeat (first | apply Kd.R_alloc | apply Kd.R_drewN | apply Kd.R_drew)); exact Kd.R_mono HO117.out (fun _ hk => by grind)⟩, ⟨by (with_reducible repeat (first | apply Kd.R_alloc | apply Kd.R_drewN | apply Kd.R_drew)); exact Kd.R_mono HO126.out (fun _ hk => by grind)⟩, ⟨by (with_reducible repeat (first | apply Kd.R_alloc | apply Kd.R_drewN | apply Kd.R_drew)); exact Kd.R_mono HO129.out (fun _ hk => by grind)⟩, ⟨by (with_reducible repeat (first | apply Kd.R_alloc | apply Kd.R_drewN | apply Kd.R_drew)); exact Kd.R_mono HO135.out (fun _ hk => by grind)⟩, ⟨by (with_reducible repeat (first | apply Kd.R_alloc | apply Kd.R_drewN | apply Kd.R_drew)); exact Kd.R_mono HO114.out (fun _ hk => by grind)⟩, ⟨by (with_reducible repeat (first | apply Kd.R_alloc | apply Kd.R_drewN | apply Kd.R_drew)); exact Kd.R_mono HO122.out (fun _ hk => by grind)⟩, ⟨by (with_reducible repeat (first | apply Kd.R_alloc | apply Kd.R_drewN | apply Kd.R_drew)); exact Kd.R_mono HO132.out (fun _ hk => by grind)⟩, ⟨by (with_reducible repeat (first | refine blk_drewN ?_ _ | refine blk_drew ?_ | refine blk_alloc ?_ _)); exact BK101.out⟩, ⟨by (with_reducible repeat (first | refine blk_drewN ?_ _ | refine blk_drew ?_ | refine blk_alloc ?_ _)); exact BK119.out⟩, ⟨by (with_reducible repeat (first | refine blk_drewN ?_ _ | refine blk_drew ?_ | refine blk_alloc ?_ _)); exact BK123.out⟩, ⟨by (with_reducible repeat (first | refine blk_drewN ?_ _ | refine blk_drew ?_ | refine blk_alloc ?_ _)); exact BK137.out⟩, ⟨gb_ HB.out⟩⟩
      ·replace c59 := Bool.eq_false_iff.mpr c59
       subst c59
       have H1 : (laws_FnExactOrderPlaces.j0 k l1 l2 t115 t118 t124 t127 t133 t136 true l0_0 t112 t120 t130) = some r := by rw [if_neg (show ¬ (false = true) by decide)] at H; exact H
       clear H
       have H := H1
       clear H1
       have H' := Aside0.mk H
       clear H
       have hnb70 := NB137_101.out
       have hnc70 := NB101_137.out
       have hnb71 := NB137_119.out
       have hnc71 := NB119_137.out
       have hnb72 := NB137_123.out
       have hnc72 := NB123_137.out
       have hcz73_0 : w50.cell? ⟨gb137, 0, none⟩ = some (.slice none 0 0) := (blk_cell BK137.out 0).trans rfl
       have hfz73_0 := blk_frozen BK137.out 0
       have hnb74 := NB119_101.out
       have hnc74 := NB101_119.out
       have hnb75 := NB119_123.out
       have hnc75 := NB123_119.out
       have hcz76_0 : w50.cell? ⟨gb119, 0, none⟩ = some (.slice Ao34 t112.length co34) := (blk_cell BK119.out 0).trans rfl
       have hfz76_0 := blk_frozen BK119.out 0
       go_wp2_with (first | ((with_reducible refine gate_callee (f := 14) rfl ?_); refine goesL_ (some 61) rfl rfl Try.func14 (by kernel_rfl) rfl #[.agg #[.slice Ao51 t130.length co51], .agg #[.slice Ao34 t112.length co34]] rfl (by (try simp only [List.map_toArray, List.map_cons, List.map_nil]); first | done | rfl | (simp only [List.length_drop, List.length_take]; rfl)) ?_; (with_reducible refine (laws_eqSpace.calls k _ _ t130 _ _ t112 true _ ?side1 ?side2 ?side3 ?side4 A56.out).mono ?_); (case side1 => refine (Kd.R_reads' (e := 2) (base := w.heap.size) (ok := fun _ => True) (n := t130.length) (c := co51) ?_).2.2; exact (rb_ (Kd.R_mono (Kd.R_far (p := ⟨gb137, 0, none⟩) (Kd.R_types HO132.out BK137.out (by decide)) (fun _ hk => hk.2) (.slice Ao51 t130.length co51)) (fun _ _ => trivial)))); (case side2 => exact (Kd.R_reads' HO132.out).2.1); (case side3 => refine (Kd.R_reads' (e := 2) (base := w.heap.size) (ok := fun _ => True) (n := t112.length) (c := co34) ?_).2.2; exact (rb_ (Kd.R_mono (Kd.R_far (p := ⟨gb137, 0, none⟩) (Kd.R_types HO114.out BK137.out (by decide)) (fun _ hk => hk.2) (.slice Ao51 t130.length co51)) (fun _ _ => trivial)))); (case side4 => exact (Kd.R_reads' HO114.out).2.1); rintro e w77 ⟨rfl, hb⟩; refine ⟨_, rfl, ?_⟩; replace HO105 := a4_ HO105 BK137 hb; replace HO108 := a4_ HO108 BK137 hb; replace HO111 := a4_ HO111 BK137 hb; replace HO114 := a4_ HO114 BK137 hb; replace HO117 := a4_ HO117 BK137 hb; replace HO122 := a4_ HO122 BK137 hb; replace HO126 := a4_ HO126 BK137 hb; replace HO129 := a4_ HO129 BK137 hb; replace HO132 := a4_ HO132 BK137 hb; replace HO135 := a4_ HO135 BK137 hb; replace BK101 := a3_ BK101 NB101_137 hb; replace BK119 := a3_ BK119 NB119_137 hb; replace BK123 := a3_ BK123 NB123_137 hb; replace BK137 := Aside0.mk (blk_below (g := gb137) (o := .cells #[.slice Ao51 t130.length co51] 26 (0, 0)) (by (with_reducible repeat (first | refine blk_drewN ?_ _ | refine blk_drew ?_ | refine blk_alloc ?_ _)); refine blk_put (cs := #[.slice none 0 0]) ?_ 0 _ rfl; (with_reducible repeat (first | refine blk_drewN ?_ _ | refine blk_drew ?_ | refine blk_alloc ?_ _)); exact BK137.out) hb); replace HB := Aside0.mk (below_step (gb_ HB.out) hb); (try clear hb); (try clear hb2); (try clear hk); (try clear hi); obtain ⟨Ao78, co78, eo78⟩ := Kd.R_slice HO135.out; subst eo78; obtain ⟨Ao79, co79, eo79⟩ := Kd.R_slice HO117.out; subst eo79) | (go_at_call 15; (with_reducible refine (laws_eqInt64S.calls k _ _ t133 _ _ t115 false _ ?side1 ?side2 ?side3 ?side4 A58.out).mono ?_); (case side1 => exact c1_ HO135); (case side2 => exact (Kd.R_reads' HO135.out).2.1); (case side3 => exact c1_ HO117); (case side4 => exact (Kd.R_reads' HO117.out).2.1); rintro e w' ⟨rfl, ⟨nd, rfl⟩⟩))
       go_meet
       case rel => exact ⟨_, (true), (by first | rfl | (simp; done) | (simp [*]; done)), H', ⟨by first | omega | exact Nat.le_refl _⟩, ⟨by (with_reducible repeat (first | apply Kd.R_alloc | apply Kd.R_drewN | apply Kd.R_drew)); exact Kd.R_mono HO117.out (fun _ hk => by grind)⟩, ⟨by (with_reducible repeat (first | apply Kd.R_alloc | apply Kd.R_drewN | apply Kd.R_drew)); exact Kd.R_mono HO126.out (fun _ hk => by grind)⟩, ⟨by (with_reducible repeat (first | apply Kd.R_alloc | apply Kd.R_drewN | apply Kd.R_drew)); exact Kd.R_mono HO129.out (fun _ hk => by grind)⟩, ⟨by (with_reducible repeat (first | apply Kd.R_alloc | apply Kd.R_drewN | apply Kd.R_drew)); exact Kd.R_mono HO135.out (fun _ hk => by grind)⟩, ⟨by (with_reducible repeat (first | apply Kd.R_alloc | apply Kd.R_drewN | apply Kd.R_drew)); exact Kd.R_mono HO114.out (fun _ hk => by grind)⟩, ⟨by (with_reducible repeat (first | apply Kd.R_alloc | apply Kd.R_drewN | apply Kd.R_drew)); exact Kd.R_mono HO122.out (fun _ hk => by grind)⟩, ⟨by (with_reducible repeat (first | apply Kd.R_alloc | apply Kd.R_drewN | apply Kd.R_drew)); exact Kd.R_mono HO132.out (fun _ hk => by grind)⟩, ⟨by (with_reducible repeat (first | refine blk_drewN ?_ _ | refine blk_drew ?_ | refine blk_alloc ?_ _)); exact BK101.out⟩, ⟨by (with_reducible repeat (first | refine blk_drewN ?_ _ | refine blk_drew ?_ | refine blk_alloc ?_ _)); exact BK119.out⟩, ⟨by (with_reducible repeat (first | refine blk_drewN ?_ _ | refine blk_drew ?_ | refine blk_alloc ?_ _)); exact BK123.out⟩, ⟨by (with_reducible repeat (first | refine blk_drewN ?_ _ | refine blk_drew ?_ | refine blk_alloc ?_ _)); exact BK137.out⟩, ⟨gb_ HB.out⟩⟩
     ·replace c57 := Bool.eq_false_iff.mpr c57
      subst c57
      have H1 : (laws_FnExactOrderPlaces.j0 k l1 l2 t115 t118 t124 t127 t133 t136 true l0_0 t112 t120 t130) = some r := by rw [if_neg (show ¬ (false = true) by decide)] at H; exact H
      clear H
      have H := H1
      clear H1
      have H' := Aside0.mk H
      clear H
      have hnb80 := NB137_101.out
      have hnc80 := NB101_137.out
      have hnb81 := NB137_119.out
      have hnc81 := NB119_137.out
      have hnb82 := NB137_123.out
      have hnc82 := NB123_137.out
      have hcz83_0 : w50.cell? ⟨gb137, 0, none⟩ = some (.slice none 0 0) := (blk_cell BK137.out 0).trans rfl
      have hfz83_0 := blk_frozen BK137.out 0
      have hnb84 := NB119_101.out
      have hnc84 := NB101_119.out
      have hnb85 := NB119_123.out
      have hnc85 := NB123_119.out
      have hcz86_0 : w50.cell? ⟨gb119, 0, none⟩ = some (.slice Ao34 t112.length co34) := (blk_cell BK119.out 0).trans rfl
      have hfz86_0 := blk_frozen BK119.out 0
      go_wp2_with (first | ((with_reducible refine gate_callee (f := 14) rfl ?_); refine goesL_ (some 61) rfl rfl Try.func14 (by kernel_rfl) rfl #[.agg #[.slice Ao51 t130.length co51], .agg #[.slice Ao34 t112.length co34]] rfl (by (try simp only [List.map_toArray, List.map_cons, List.map_nil]); first | done | rfl | (simp only [List.length_drop, List.length_take]; rfl)) ?_; (with_reducible refine (laws_eqSpace.calls k _ _ t130 _ _ t112 false _ ?side1 ?side2 ?side3 ?side4 A56.out).mono ?_); (case side1 => refine (Kd.R_reads' (e := 2) (base := w.heap.size) (ok := fun _ => True) (n := t130.length) (c := co51) ?_).2.2; exact (rb_ (Kd.R_mono (Kd.R_far (p := ⟨gb137, 0, none⟩) (Kd.R_types HO132.out BK137.out (by decide)) (fun _ hk => hk.2) (.slice Ao51 t130.length co51)) (fun _ _ => trivial)))); (case side2 => exact (Kd.R_reads' HO132.out).2.1); (case side3 => refine (Kd.R_reads' (e := 2) (base := w.heap.size) (ok := fun _ => True) (n := t112.length) (c := co34) ?_).2.2; exact (rb_ (Kd.R_mono (Kd.R_far (p := ⟨gb137, 0, none⟩) (Kd.R_types HO114.out BK137.out (by decide)) (fun _ hk => hk.2) (.slice Ao51 t130.length co51)) (fun _ _ => trivial)))); (case side4 => exact (Kd.R_reads' HO114.out).2.1); rintro e w87 ⟨rfl, hb⟩; refine ⟨_, rfl, ?_⟩; replace HO105 := a4_ HO105 BK137 hb; replace HO108 := a4_ HO108 BK137 hb; replace HO111 := a4_ HO111 BK137 hb; replace HO114 := a4_ HO114 BK137 hb; replace HO117 := a4_ HO117 BK137 hb; replace HO122 := a4_ HO122 BK137 hb; replace HO126 := a4_ HO126 BK137 hb; replace HO129 := a4_ HO129 BK137 hb; replace HO132 := a4_ HO132 BK137 hb; replace HO135 := a4_ HO135 BK137 hb; replace BK101 := a3_ BK101 NB101_137 hb; replace BK119 := a3_ BK119 NB119_137 hb; replace BK123 := a3_ BK123 NB123_137 hb; replace BK137 := Aside0.mk (blk_below (g := gb137) (o := .cells #[.slice Ao51 t130.length co51] 26 (0, 0)) (by (with_reducible repeat (first | refine blk_drewN ?_ _ | refine blk_drew ?_ | refine blk_alloc ?_ _)); refine blk_put (cs := #[.slice none 0 0]) ?_ 0 _ rfl; (with_reducible repeat (first | refine blk_drewN ?_ _ | refine blk_drew ?_ | refine blk_alloc ?_ _)); exact BK137.out) hb); replace HB := Aside0.mk (below_step (gb_ HB.out) hb); (try clear hb); (try clear hb2); (try clear hk); (try clear hi)))
      go_meet
      case rel => exact ⟨_, (true), (by first | rfl | (simp; done) | (simp [*]; done)), H', ⟨by first | omega | exact Nat.le_refl _⟩, ⟨by (with_reducible repeat (first | apply Kd.R_alloc | apply Kd.R_drewN | apply Kd.R_drew)); exact Kd.R_mono HO117.out (fun _ hk => by grind)⟩, ⟨by (with_reducible repeat (first | apply Kd.R_alloc | apply Kd.R_drewN | apply Kd.R_drew)); exact Kd.R_mono HO126.out (fun _ hk => by grind)⟩, ⟨by (with_reducible repeat (first | apply Kd.R_alloc | apply Kd.R_drewN | apply Kd.R_drew)); exact Kd.R_mono HO129.out (fun _ hk => by grind)⟩, ⟨by (with_reducible repeat (first | apply Kd.R_alloc | apply Kd.R_drewN | apply Kd.R_drew)); exact Kd.R_mono HO135.out (fun _ hk => by grind)⟩, ⟨by (with_reducible repeat (first | apply Kd.R_alloc | apply Kd.R_drewN | apply Kd.R_drew)); exact Kd.R_mono HO114.out (fun _ hk => by grind)⟩, ⟨by (with_reducible repeat (first | apply Kd.R_alloc | apply Kd.R_drewN | apply Kd.R_drew)); exact Kd.R_mono HO122.out (fun _ hk => by grind)⟩, ⟨by (with_reducible repeat (first | apply Kd.R_alloc | apply Kd.R_drewN | apply Kd.R_drew)); exact Kd.R_mono HO132.out (fun _ hk => by grind)⟩, ⟨by (with_reducible repeat (first | refine blk_drewN ?_ _ | refine blk_drew ?_ | refine blk_alloc ?_ _)); exact BK101.out⟩, ⟨by (with_reducible repeat (first | refine blk_drewN ?_ _ | refine blk_drew ?_ | refine blk_alloc ?_ _)); exact BK119.out⟩, ⟨by (with_reducible repeat (first | refine blk_drewN ?_ _ | refine blk_drew ?_ | refine blk_alloc ?_ _)); exact BK123.out⟩, ⟨by (with_reducible repeat (first | refine blk_drewN ?_ _ | refine blk_drew ?_ | refine blk_alloc ?_ _)); exact BK137.out⟩, ⟨gb_ HB.out⟩⟩
    case rest =>
     clear HC21
     try clear c1
     try clear c2
     try clear p2
     try clear c3
     try clear c4
     try clear c4b0
     try clear c4b1
     try clear c5
     try clear c6
     try clear c6b0
     try clear c6b1
     try clear c7
     try clear c8
     try clear c9
     try clear c9b0
     try clear c11
     try clear c12
     try clear c14
     try clear c22
     try clear c23
     try clear c35
     try clear c41
     try clear c42
     try clear c52
     try clear c53
     try clear c54
     try clear c57
     try clear c59
     try clear c60
     try clear c61
     try clear c62
     try clear c64
     try clear c65
     try clear c70
     try clear c71
     try clear c72
     try clear c74
     try clear c75
     try clear c80
     try clear c81
     try clear c82
     try clear c84
     try clear c85
     try clear hcz11_0
     try clear hcz23_0
     try clear hcz25_0
     try clear hcz36_0
     try clear hcz37_0
     try clear hcz43_0
     try clear hcz46_0
     try clear hcz55_0
     try clear hcz63_0
     try clear hcz66_0
     try clear hcz73_0
     try clear hcz76_0
     try clear hcz83_0
     try clear hcz86_0
     try clear hfz11_0
     try clear hfz23_0
     try clear hfz25_0
     try clear hfz36_0
     try clear hfz37_0
     try clear hfz43_0
     try clear hfz46_0
     try clear hfz55_0
     try clear hfz63_0
     try clear hfz66_0
     try clear hfz73_0
     try clear hfz76_0
     try clear hfz83_0
     try clear hfz86_0
     obtain ⟨kq, x73_20, rfl, HA, HJ20, HO_9, HO_12, HO_13, HO_15, HO_120000, HO_124000, HO_138000, BK101, BK119, BK123, BK137, HB⟩ := hcut
     cases kq with
     | zero => exact absurd HA.out (by simp [laws_FnExactOrderPlaces.j0])
     | succ kj20 =>
      have H := HA.out
      clear HA
      simp only [laws_FnExactOrderPlaces.j0] at H
      by_cases c88 : x73_20 = true
      ·subst c88
       have H1 : (some false) = some r := by rw [if_pos rfl] at H; exact H
       clear H
       have H := H1
       clear H1
       obtain rfl := Option.some.inj H
       go_wp2
       go_ret
       exact ⟨by first | rfl | (simp [errW_none, errW_some] <;> rfl) | (simp [*, errW_none, errW_some] <;> rfl), gb_ HB.out⟩
      ·replace c88 := Bool.eq_false_iff.mpr c88
       subst c88
       have H1 : ((laws_toSpace.f kj20 l0_0).bind fun t140 => ((laws_eqSpace.f kj20 t120 t140).bind fun t143 => (if t143 = true then ((laws_toInt64S.f kj20 l1).bind fun t144 => ((laws_eqInt64S.f kj20 t124 t144).bind fun t147 => (if t147 = true then ((laws_toInt64S.f kj20 l2).bind fun t148 => ((laws_eqInt64S.f kj20 t127 t148).bind fun t151 => (if t151 = true then ((laws_markSpace.f kj20 t120 1).bind fun bt152 => ((laws_markInt64S.f kj20 t124 bt152.1).bind fun bt154 => ((laws_markInt64S.f kj20 t127 bt154.1).bind fun bt156 => (if bt156.1 < 0 then (laws_FnExactOrderPlaces.j1 kj20 l1 l2 t115 t118 t133 true l0_0 t112 t130) else ((laws_eqSpace.f kj20 t130 t112).bind fun t158 => (if t158 = true then ((laws_eqInt64S.f kj20 t133 t115).bind fun t159 => (if t159 = true then (laws_FnExactOrderPlaces.j1 kj20 l1 l2 t115 t118 t133 (t136 != t118) l0_0 t112 t130) else (laws_FnExactOrderPlaces.j1 kj20 l1 l2 t115 t118 t133 true l0_0 t112 t130))) else (laws_FnExactOrderPlaces.j1 kj20 l1 l2 t115 t118 t133 true l0_0 t112 t130))))))) else (some false)))) else (some false)))) else (some false)))) = some r := by rw [if_neg (show ¬ (false = true) by decide)] at H; exact H
       clear H
       have H := H1
       clear H1
       replace H := Option.bind_eq_some_iff.mp H
       obtain ⟨t140, A890, H⟩ := H
       replace H : ((laws_eqSpace.f kj20 t120 t140).bind fun t143 => (if t143 = true then ((laws_toInt64S.f kj20 l1).bind fun t144 => ((laws_eqInt64S.f kj20 t124 t144).bind fun t147 => (if t147 = true then ((laws_toInt64S.f kj20 l2).bind fun t148 => ((laws_eqInt64S.f kj20 t127 t148).bind fun t151 => (if t151 = true then ((laws_markSpace.f kj20 t120 1).bind fun bt152 => ((laws_markInt64S.f kj20 t124 bt152.1).bind fun bt154 => ((laws_markInt64S.f kj20 t127 bt154.1).bind fun bt156 => (if bt156.1 < 0 then (laws_FnExactOrderPlaces.j1 kj20 l1 l2 t115 t118 t133 true l0_0 t112 t130) else ((laws_eqSpace.f kj20 t130 t112).bind fun t158 => (if t158 = true then ((laws_eqInt64S.f kj20 t133 t115).bind fun t159 => (if t159 = true then (laws_FnExactOrderPlaces.j1 kj20 l1 l2 t115 t118 t133 (t136 != t118) l0_0 t112 t130) else (laws_FnExactOrderPlaces.j1 kj20 l1 l2 t115 t118 t133 true l0_0 t112 t130))) else (laws_FnExactOrderPlaces.j1 kj20 l1 l2 t115 t118 t133 true l0_0 t112 t130))))))) else (some false)))) else (some false)))) else (some false))) = some r := H
       have A89 := Aside0.mk A890
       clear A890
       replace H := Option.bind_eq_some_iff.mp H
       obtain ⟨t143, A900, H⟩ := H
       replace H : (if t143 = true then ((laws_toInt64S.f kj20 l1).bind fun t144 => ((laws_eqInt64S.f kj20 t124 t144).bind fun t147 => (if t147 = true then ((laws_toInt64S.f kj20 l2).bind fun t148 => ((laws_eqInt64S.f kj20 t127 t148).bind fun t151 => (if t151 = true then ((laws_markSpace.f kj20 t120 1).bind fun bt152 => ((laws_markInt64S.f kj20 t124 bt152.1).bind fun bt154 => ((laws_markInt64S.f kj20 t127 bt154.1).bind fun bt156 => (if bt156.1 < 0 then (laws_FnExactOrderPlaces.j1 kj20 l1 l2 t115 t118 t133 true l0_0 t112 t130) else ((laws_eqSpace.f kj20 t130 t112).bind fun t158 => (if t158 = true then ((laws_eqInt64S.f kj20 t133 t115).bind fun t159 => (if t159 = true then (laws_FnExactOrderPlaces.j1 kj20 l1 l2 t115 t118 t133 (t136 != t118) l0_0 t112 t130) else (laws_FnExactOrderPlaces.j1 kj20 l1 l2 t115 t118 t133 true l0_0 t112 t130))) else (laws_FnExactOrderPlaces.j1 kj20 l1 l2 t115 t118 t133 true l0_0 t112 t130))))))) else (some false)))) else (some false)))) else (some false)) = some r := H
       have A90 := Aside0.mk A900
       clear A900
       by_cases c91 : t143 = true
       ·subst c91
        have H1 : ((laws_toInt64S.f kj20 l1).bind fun t144 => ((laws_eqInt64S.f kj20 t124 t144).bind fun t147 => (if t147 = true then ((laws_toInt64S.f kj20 l2).bind fun t148 => ((laws_eqInt64S.f kj20 t127 t148).bind fun t151 => (if t151 = true then ((laws_markSpace.f kj20 t120 1).bind fun bt152 => ((laws_markInt64S.f kj20 t124 bt152.1).bind fun bt154 => ((laws_markInt64S.f kj20 t127 bt154.1).bind fun bt156 => (if bt156.1 < 0 then (laws_FnExactOrderPlaces.j1 kj20 l1 l2 t115 t118 t133 true l0_0 t112 t130) else ((laws_eqSpace.f kj20 t130 t112).bind fun t158 => (if t158 = true then ((laws_eqInt64S.f kj20 t133 t115).bind fun t159 => (if t159 = true then (laws_FnExactOrderPlaces.j1 kj20 l1 l2 t115 t118 t133 (t136 != t118) l0_0 t112 t130) else (laws_FnExactOrderPlaces.j1 kj20 l1 l2 t115 t118 t133 true l0_0 t112 t130))) else (laws_FnExactOrderPlaces.j1 kj20 l1 l2 t115 t118 t133 true l0_0 t112 t130))))))) else (some false)))) else (some false)))) = some r := by rw [if_pos rfl] at H; exact H
        clear H
        have H := H1
        clear H1
        replace H := Option.bind_eq_some_iff.mp H
        obtain ⟨t144, A920, H⟩ := H
        replace H : ((laws_eqInt64S.f kj20 t124 t144).bind fun t147 => (if t147 = true then ((laws_toInt64S.f kj20 l2).bind fun t148 => ((laws_eqInt64S.f kj20 t127 t148).bind fun t151 => (if t151 = true then ((laws_markSpace.f kj20 t120 1).bind fun bt152 => ((laws_markInt64S.f kj20 t124 bt152.1).bind fun bt154 => ((laws_markInt64S.f kj20 t127 bt154.1).bind fun bt156 => (if bt156.1 < 0 then (laws_FnExactOrderPlaces.j1 kj20 l1 l2 t115 t118 t133 true l0_0 t112 t130) else ((laws_eqSpace.f kj20 t130 t112).bind fun t158 => (if t158 = true then ((laws_eqInt64S.f kj20 t133 t115).bind fun t159 => (if t159 = true then (laws_FnExactOrderPlaces.j1 kj20 l1 l2 t115 t118 t133 (t136 != t118) l0_0 t112 t130) else (laws_FnExactOrderPlaces.j1 kj20 l1 l2 t115 t118 t133 true l0_0 t112 t130))) else (laws_FnExactOrderPlaces.j1 kj20 l1 l2 t115 t118 t133 true l0_0 t112 t130))))))) else (some false)))) else (some false))) = some r := H
        have A92 := Aside0.mk A920
        clear A920
        replace H := Option.bind_eq_some_iff.mp H
        obtain ⟨t147, A930, H⟩ := H
        replace H : (if t147 = true then ((laws_toInt64S.f kj20 l2).bind fun t148 => ((laws_eqInt64S.f kj20 t127 t148).bind fun t151 => (if t151 = true then ((laws_markSpace.f kj20 t120 1).bind fun bt152 => ((laws_markInt64S.f kj20 t124 bt152.1).bind fun bt154 => ((laws_markInt64S.f kj20 t127 bt154.1).bind fun bt156 => (if bt156.1 < 0 then (laws_FnExactOrderPlaces.j1 kj20 l1 l2 t115 t118 t133 true l0_0 t112 t130) else ((laws_eqSpace.f kj20 t130 t112).bind fun t158 => (if t158 = true then ((laws_eqInt64S.f kj20 t133 t115).bind fun t159 => (if t159 = true then (laws_FnExactOrderPlaces.j1 kj20 l1 l2 t115 t118 t133 (t136 != t118) l0_0 t112 t130) else (laws_FnExactOrderPlaces.j1 kj20 l1 l2 t115 t118 t133 true l0_0 t112 t130))) else (laws_FnExactOrderPlaces.j1 kj20 l1 l2 t115 t118 t133 true l0_0 t112 t130))))))) else (some false)))) else (some false)) = some r := H
        have A93 := Aside0.mk A930
        clear A930
        by_cases c94 : t147 = true
        ·subst c94
         have H1 : ((laws_toInt64S.f kj20 l2).bind fun t148 => ((laws_eqInt64S.f kj20 t127 t148).bind fun t151 => (if t151 = true then ((laws_markSpace.f kj20 t120 1).bind fun bt152 => ((laws_markInt64S.f kj20 t124 bt152.1).bind fun bt154 => ((laws_markInt64S.f kj20 t127 bt154.1).bind fun bt156 => (if bt156.1 < 0 then (laws_FnExactOrderPlaces.j1 kj20 l1 l2 t115 t118 t133 true l0_0 t112 t130) else ((laws_eqSpace.f kj20 t130 t112).bind fun t158 => (if t158 = true then ((laws_eqInt64S.f kj20 t133 t115).bind fun t159 => (if t159 = true then (laws_FnExactOrderPlaces.j1 kj20 l1 l2 t115 t118 t133 (t136 != t118) l0_0 t112 t130) else (laws_FnExactOrderPlaces.j1 kj20 l1 l2 t115 t118 t133 true l0_0 t112 t130))) else (laws_FnExactOrderPlaces.j1 kj20 l1 l2 t115 t118 t133 true l0_0 t112 t130))))))) else (some false)))) = some r := by rw [if_pos rfl] at H; exact H
         clear H
         have H := H1
         clear H1
         replace H := Option.bind_eq_some_iff.mp H
         obtain ⟨t148, A950, H⟩ := H
         replace H : ((laws_eqInt64S.f kj20 t127 t148).bind fun t151 => (if t151 = true then ((laws_markSpace.f kj20 t120 1).bind fun bt152 => ((laws_markInt64S.f kj20 t124 bt152.1).bind fun bt154 => ((laws_markInt64S.f kj20 t127 bt154.1).bind fun bt156 => (if bt156.1 < 0 then (laws_FnExactOrderPlaces.j1 kj20 l1 l2 t115 t118 t133 true l0_0 t112 t130) else ((laws_eqSpace.f kj20 t130 t112).bind fun t158 => (if t158 = true then ((laws_eqInt64S.f kj20 t133 t115).bind fun t159 => (if t159 = true then (laws_FnExactOrderPlaces.j1 kj20 l1 l2 t115 t118 t133 (t136 != t118) l0_0 t112 t130) else (laws_FnExactOrderPlaces.j1 kj20 l1 l2 t115 t118 t133 true l0_0 t112 t130))) else (laws_FnExactOrderPlaces.j1 kj20 l1 l2 t115 t118 t133 true l0_0 t112 t130))))))) else (some false))) = some r := H
         have A95 := Aside0.mk A950
         clear A950
         replace H := Option.bind_eq_some_iff.mp H
         obtain ⟨t151, A960, H⟩ := H
         replace H : (if t151 = true then ((laws_markSpace.f kj20 t120 1).bind fun bt152 => ((laws_markInt64S.f kj20 t124 bt152.1).bind fun bt154 => ((laws_markInt64S.f kj20 t127 bt154.1).bind fun bt156 => (if bt156.1 < 0 then (laws_FnExactOrderPlaces.j1 kj20 l1 l2 t115 t118 t133 true l0_0 t112 t130) else ((laws_eqSpace.f kj20 t130 t112).bind fun t158 => (if t158 = true then ((laws_eqInt64S.f kj20 t133 t115).bind fun t159 => (if t159 = true then (laws_FnExactOrderPlaces.j1 kj20 l1 l2 t115 t118 t133 (t136 != t118) l0_0 t112 t130) else (laws_FnExactOrderPlaces.j1 kj20 l1 l2 t115 t118 t133 true l0_0 t112 t130))) else (laws_FnExactOrderPlaces.j1 kj20 l1 l2 t115 t118 t133 true l0_0 t112 t130))))))) else (some false)) = some r := H
         have A96 := Aside0.mk A960
         clear A960
         by_cases c97 : t151 = true
         ·subst c97
          have H1 : ((laws_markSpace.f kj20 t120 1).bind fun bt152 => ((laws_markInt64S.f kj20 t124 bt152.1).bind fun bt154 => ((laws_markInt64S.f kj20 t127 bt154.1).bind fun bt156 => (if bt156.1 < 0 then (laws_FnExactOrderPlaces.j1 kj20 l1 l2 t115 t118 t133 true l0_0 t112 t130) else ((laws_eqSpace.f kj20 t130 t112).bind fun t158 => (if t158 = true then ((laws_eqInt64S.f kj20 t133 t115).bind fun t159 => (if t159 = true then (laws_FnExactOrderPlaces.j1 kj20 l1 l2 t115 t118 t133 (t136 != t118) l0_0 t112 t130) else (laws_FnExactOrderPlaces.j1 kj20 l1 l2 t115 t118 t133 true l0_0 t112 t130))) else (laws_FnExactOrderPlaces.j1 kj20 l1 l2 t115 t118 t133 true l0_0 t112 t130))))))) = some r := by rw [if_pos rfl] at H; exact H
          clear H
          have H := H1
          clear H1
          replace H := Option.bind_eq_some_iff.mp H
          obtain ⟨⟨t152, t153⟩, A980, H⟩ := H
          replace H : ((laws_markInt64S.f kj20 t124 t152).bind fun bt154 => ((laws_markInt64S.f kj20 t127 bt154.1).bind fun bt156 => (if bt156.1 < 0 then (laws_FnExactOrderPlaces.j1 kj20 l1 l2 t115 t118 t133 true l0_0 t112 t130) else ((laws_eqSpace.f kj20 t130 t112).bind fun t158 => (if t158 = true then ((laws_eqInt64S.f kj20 t133 t115).bind fun t159 => (if t159 = true then (laws_FnExactOrderPlaces.j1 kj20 l1 l2 t115 t118 t133 (t136 != t118) l0_0 t112 t130) else (laws_FnExactOrderPlaces.j1 kj20 l1 l2 t115 t118 t133 true l0_0 t112 t130))) else (laws_FnExactOrderPlaces.j1 kj20 l1 l2 t115 t118 t133 true l0_0 t112 t130)))))) = some r := H
          have A98 := Aside0.mk A980
          clear A980
          replace H := Option.bind_eq_some_iff.mp H
          obtain ⟨⟨t154, t155⟩, A990, H⟩ := H
          replace H : ((laws_markInt64S.f kj20 t127 t154).bind fun bt156 => (if bt156.1 < 0 then (laws_FnExactOrderPlaces.j1 kj20 l1 l2 t115 t118 t133 true l0_0 t112 t130) else ((laws_eqSpace.f kj20 t130 t112).bind fun t158 => (if t158 = true then ((laws_eqInt64S.f kj20 t133 t115).bind fun t159 => (if t159 = true then (laws_FnExactOrderPlaces.j1 kj20 l1 l2 t115 t118 t133 (t136 != t118) l0_0 t112 t130) else (laws_FnExactOrderPlaces.j1 kj20 l1 l2 t115 t118 t133 true l0_0 t112 t130))) else (laws_FnExactOrderPlaces.j1 kj20 l1 l2 t115 t118 t133 true l0_0 t112 t130))))) = some r := H
          have A99 := Aside0.mk A990
          clear A990
          replace H := Option.bind_eq_some_iff.mp H
          obtain ⟨⟨t156, t157⟩, A1000, H⟩ := H
          replace H : (if t156 < 0 then (laws_FnExactOrderPlaces.j1 kj20 l1 l2 t115 t118 t133 true l0_0 t112 t130) else ((laws_eqSpace.f kj20 t130 t112).bind fun t158 => (if t158 = true then ((laws_eqInt64S.f kj20 t133 t115).bind fun t159 => (if t159 = true then (laws_FnExactOrderPlaces.j1 kj20 l1 l2 t115 t118 t133 (t136 != t118) l0_0 t112 t130) else (laws_FnExactOrderPlaces.j1 kj20 l1 l2 t115 t118 t133 true l0_0 t112 t130))) else (laws_FnExactOrderPlaces.j1 kj20 l1 l2 t115 t118 t133 true l0_0 t112 t130)))) = some r := H
          have A100 := Aside0.mk A1000
          clear A1000
          have HC101 := Aside0.mk H
          clear H
          try go_wp2
          replace HO_9 := Aside0.mk (Kd.R_drew HO_9.out)
          replace HO_12 := Aside0.mk (Kd.R_drew HO_12.out)
          replace HO_13 := Aside0.mk (Kd.R_drew HO_13.out)
          replace HO_15 := Aside0.mk (Kd.R_drew HO_15.out)
          replace HO_120000 := Aside0.mk (Kd.R_drew HO_120000.out)
          replace HO_124000 := Aside0.mk (Kd.R_drew HO_124000.out)
          replace HO_138000 := Aside0.mk (Kd.R_drew HO_138000.out)
          replace BK101 := Aside0.mk (blk_drew BK101.out)
          replace BK119 := Aside0.mk (blk_drew BK119.out)
          replace BK123 := Aside0.mk (blk_drew BK123.out)
          replace BK137 := Aside0.mk (blk_drew BK137.out)
          replace HB := Aside0.mk (below_drew1 HB.out)
          refine start_ (n := 5) (S := fun w' => w'.cell? ⟨gb123, 0, none⟩ = some (.slice Ao40 t120.length co40) ∧ w'.cell? ⟨gb101, 0, none⟩ = some (.slice A0_0 l0_0.length c0_0)) (ds := []) #[false, false, false, false, false] (by kernel_rfl) rfl rfl ⟨(blk_cell BK123.out 0).trans rfl, (blk_cell BK101.out 0).trans rfl⟩ (fun hHeld => ?_)
          generalize wc.drew = w102 at HO_9 HO_12 HO_13 HO_15 HO_120000 HO_124000 HO_138000 BK101 BK119 BK123 BK137 HB hHeld ⊢
          refine take_ (i := 0) (N := some 74) (v := ?_) (a' := ?_) #[true, false, false, false, false] rfl rfl (by kernel_rfl) (fun _ _ _ h => h) (Or.inl ⟨by rfl, ?_⟩) hHeld ?_ ?_
          rotate_left
          ·rintro w' ⟨s0, s1⟩
           go_simp
           with_reducible rfl
          rotate_left
          ·simp only [Act.put, List.setIfInBounds_toArray, List.set_cons_zero, List.set_cons_succ, i64_w, i32_w]
           rfl
          refine take_ (i := 1) (N := some 75) (v := ?_) (a' := ?_) #[true, true, false, false, false] rfl rfl (by kernel_rfl) (fun _ _ _ h => h) (Or.inl ⟨by rfl, ?_⟩) hHeld ?_ ?_
          rotate_left
          ·rintro w' ⟨s0, s1⟩
           go_simp
           with_reducible rfl
          rotate_left
          ·simp only [Act.put, List.setIfInBounds_toArray, List.set_cons_zero, List.set_cons_succ, i64_w, i32_w]
           rfl
          refine one_ (i := 2) (N := some 76) #[true, true, true, false, false] rfl rfl (by kernel_rfl) (by decide) (fun K hK => ?_)
          refine goes_ Try.func11 (by kernel_rfl) rfl #[.agg #[.slice A0_0 l0_0.length c0_0]] (by rfl) rfl rfl (by (try simp only [List.map_toArray, List.map_cons, List.map_nil]); first | done | rfl | (simp only [List.length_drop, List.length_take]; rfl)) ?_
          with_reducible refine (laws_toSpace.calls kj20 _ _ l0_0 t140 _ ?side1 ?side2 A89.out).mono ?_
          (case side1 => exact c2_ HR0_0 HB)
          (case side2 => exact HC0_0.out)
          rintro e w103 ⟨v141, rfl, ho0, hb⟩
          refine ⟨_, rfl, ?_⟩
          have HO142 := Aside0.mk (Kd.R_lower (Kd.R_new' (Kd.R_new' (Kd.R_new' (Kd.R_new' (Kd.R_new' (Kd.R_new' (Kd.R_new' ho0 (Kd.R_lt (rb_ HO_9.out))) (Kd.R_lt (rb_ HO_12.out))) (Kd.R_lt (rb_ HO_13.out))) (Kd.R_lt (rb_ HO_15.out))) (Kd.R_lt (rb_ HO_120000.out))) (Kd.R_lt (rb_ HO_124000.out))) (Kd.R_lt (rb_ HO_138000.out))) (below_size (gb_ HB.out)))
          replace HO_9 := a5_ HO_9 ho0 hb
          replace HO_12 := a5_ HO_12 ho0 hb
          replace HO_13 := a5_ HO_13 ho0 hb
          replace HO_15 := a5_ HO_15 ho0 hb
          replace HO_120000 := a5_ HO_120000 ho0 hb
          replace HO_124000 := a5_ HO_124000 ho0 hb
          replace HO_138000 := a5_ HO_138000 ho0 hb
          replace BK101 := a2_ BK101 hb
          replace BK119 := a2_ BK119 hb
          replace BK123 := a2_ BK123 hb
          replace BK137 := a2_ BK137 hb
          replace HB := Aside0.mk (below_step (gb_ HB.out) hb)
          (try clear hb)
          (try clear hb2)
          (try clear hk)
          (try clear hi)
          (try clear ho0)
          obtain ⟨Ao104, co104, eo104⟩ := Kd.R_slice HO142.out
          (first | subst eo104 | (injection eo104 with f1_ f2_ f3_; have f4_ := f1_.symm; have f5_ := f3_.symm; clear f1_ f2_ f3_; subst f4_; subst f5_))
          refine hK.out _ _ ⟨(blk_cell BK123.out 0).trans rfl, (blk_cell BK101.out 0).trans rfl⟩ (fun hHeld => ?_)
          clear hK K
          refine norm_ (a' := ?_) ?_ ?_
          rotate_left
          ·show Act.put _ (some 76) _ = _
           simp only [Act.put, List.setIfInBounds_toArray, List.set_cons_zero, List.set_cons_succ, i64_w, i32_w]
           rfl
          refine one_ (i := 3) (N := some 77) #[true, true, true, true, false] rfl rfl (by kernel_rfl) (by decide) (fun K hK => ?_)
          refine goes_ Try.func14 (by kernel_rfl) rfl #[.agg #[.slice Ao40 t120.length co40], .agg #[.slice Ao104 t140.length co104]] (by rfl) rfl rfl (by (try simp only [List.map_toArray, List.map_cons, List.map_nil]); first | done | rfl | (simp only [List.length_drop, List.length_take]; rfl)) ?_
          with_reducible refine (laws_eqSpace.calls kj20 _ _ t120 _ _ t140 true _ ?side1 ?side2 ?side3 ?side4 A90.out).mono ?_
          (case side1 => exact c1_ HO_124000)
          (case side2 => exact (Kd.R_reads' HO_124000.out).2.1)
          (case side3 => exact c1_ HO142)
          (case side4 => exact (Kd.R_reads' HO142.out).2.1)
          rintro e w105 ⟨rfl, hb⟩
          refine ⟨_, rfl, ?_⟩
          replace HO_9 := a1_ HO_9 hb
          replace HO_12 := a1_ HO_12 hb
          replace HO_13 := a1_ HO_13 hb
          replace HO_15 := a1_ HO_15 hb
          replace HO_120000 := a1_ HO_120000 hb
          replace HO_124000 := a1_ HO_124000 hb
          replace HO_138000 := a1_ HO_138000 hb
          replace HO142 := a1_ HO142 hb
          replace BK101 := a2_ BK101 hb
          replace BK119 := a2_ BK119 hb
          replace BK123 := a2_ BK123 hb
          replace BK137 := a2_ BK137 hb
          replace HB := Aside0.mk (below_step (gb_ HB.out) hb)
          (try clear hb)
          (try clear hb2)
          (try clear hk)
          (try clear hi)
          refine hK.out _ _ ⟨(blk_cell BK123.out 0).trans rfl, (blk_cell BK101.out 0).trans rfl⟩ (fun hHeld => ?_)
          clear hK K
          refine norm_ (a' := ?_) ?_ ?_
          rotate_left
          ·show Act.put _ (some 77) _ = _
           simp only [Act.put, List.setIfInBounds_toArray, List.set_cons_zero, List.set_cons_succ, i64_w, i32_w]
           rfl
          refine pure_ (i := 4) (N := some 78) (v := ?_) (a' := ?_) #[true, true, true, true, true] rfl rfl (by kernel_rfl) (fun _ _ _ h => h) (Or.inl ⟨by rfl, ?_⟩) ?_ ?_
          rotate_left
          ·intro w'
           go_simp
           with_reducible rfl
          rotate_left
          ·simp only [Act.put, List.setIfInBounds_toArray, List.set_cons_zero, List.set_cons_succ, i64_w, i32_w]
           rfl
          refine done_ (by kernel_rfl) ?_
          go_upto_region 26 with (first | ((with_reducible refine gate_callee (f := 12) rfl ?_); refine goesL_ (some 81) rfl rfl Try.func12 (by kernel_rfl) rfl #[.slice A1 l1.length c1] rfl (by (try simp only [List.map_toArray, List.map_cons, List.map_nil]); first | done | rfl | (simp only [List.length_drop, List.length_take]; rfl)) ?_; (with_reducible refine (laws_toInt64S.calls kj20 _ _ l1 t144 _ ?side1 ?side2 A92.out).mono ?_); (case side1 => exact c2_ HR1 HB); (case side2 => exact HC1.out); rintro e w106 ⟨v145, rfl, ho0, hb⟩; refine ⟨_, rfl, ?_⟩; have HO146 := Aside0.mk (Kd.R_lower (Kd.R_new' (Kd.R_new' (Kd.R_new' (Kd.R_new' (Kd.R_new' (Kd.R_new' (Kd.R_new' (Kd.R_new' ho0 (Kd.R_lt (rb_ HO_9.out))) (Kd.R_lt (rb_ HO_12.out))) (Kd.R_lt (rb_ HO_13.out))) (Kd.R_lt (rb_ HO_15.out))) (Kd.R_lt (rb_ HO_120000.out))) (Kd.R_lt (rb_ HO_124000.out))) (Kd.R_lt (rb_ HO_138000.out))) (Kd.R_lt (rb_ HO142.out))) (below_size (gb_ HB.out))); replace HO_9 := a5_ HO_9 ho0 hb; replace HO_12 := a5_ HO_12 ho0 hb; replace HO_13 := a5_ HO_13 ho0 hb; replace HO_15 := a5_ HO_15 ho0 hb; replace HO_120000 := a5_ HO_120000 ho0 hb; replace HO_124000 := a5_ HO_124000 ho0 hb; replace HO_138000 := a5_ HO_138000 ho0 hb; replace HO142 := a5_ HO142 ho0 hb; replace BK101 := a2_ BK101 hb; replace BK119 := a2_ BK119 hb; replace BK123 := a2_ BK123 hb; replace BK137 := a2_ BK137 hb; replace HB := Aside0.mk (below_step (gb_ HB.out) hb); (try clear hb); (try clear hb2); (try clear hk); (try clear hi); (try clear ho0); obtain ⟨Ao107, co107, eo107⟩ := Kd.R_slice HO146.out; subst eo107) | ((with_reducible refine gate_callee (f := 15) rfl ?_); refine goesL_ (some 82) rfl rfl Try.func15 (by kernel_rfl) rfl #[.slice Ao47 t124.length co47, .slice Ao107 t144.length co107] rfl (by (try simp only [List.map_toArray, List.map_cons, List.map_nil]); first | done | rfl | (simp only [List.length_drop, List.length_take]; rfl)) ?_; (with_reducible refine (laws_eqInt64S.calls kj20 _ _ t124 _ _ t144 true _ ?side1 ?side2 ?side3 ?side4 A93.out).mono ?_); (case side1 => exact c1_ HO_12); (case side2 => exact (Kd.R_reads' HO_12.out).2.1); (case side3 => exact c1_ HO146); (case side4 => exact (Kd.R_reads' HO146.out).2.1); rintro e w' ⟨rfl, ⟨nd, rfl⟩⟩; refine ⟨_, rfl, ?_⟩) | ((with_reducible refine gate_callee (f := 12) rfl ?_); refine goesL_ (some 86) rfl rfl Try.func12 (by kernel_rfl) rfl #[.slice A2 l2.length c2] rfl (by (try simp only [List.map_toArray, List.map_cons, List.map_nil]); first | done | rfl | (simp only [List.length_drop, List.length_take]; rfl)) ?_; (with_reducible refine (laws_toInt64S.calls kj20 _ _ l2 t148 _ ?side1 ?side2 A95.out).mono ?_); (case side1 => repeat (first | exact (Kd.C_below HR2.out (gb_ HB.out)) | (with_reducible refine Kd.C_alloc ?_ _) | (with_reducible refine Kd.C_drewN ?_ _) | (with_reducible refine Kd.C_drew ?_))); (case side2 => exact HC2.out); rintro e w108 ⟨v149, rfl, ho0, hb⟩; refine ⟨_, rfl, ?_⟩; have HO150 := Aside0.mk (Kd.R_lower (Kd.R_new' (Kd.R_new' (Kd.R_new' (Kd.R_new' (Kd.R_new' (Kd.R_new' (Kd.R_new' (Kd.R_new' (Kd.R_new' ho0 (Kd.R_lt (rb_ HO_9.out))) (Kd.R_lt (rb_ HO_12.out))) (Kd.R_lt (rb_ HO_13.out))) (Kd.R_lt (rb_ HO_15.out))) (Kd.R_lt (rb_ HO_120000.out))) (Kd.R_lt (rb_ HO_124000.out))) (Kd.R_lt (rb_ HO_138000.out))) (Kd.R_lt (rb_ HO142.out))) (Kd.R_lt (rb_ HO146.out))) (below_size (gb_ HB.out))); replace HO_9 := a5_ HO_9 ho0 hb; replace HO_12 := a5_ HO_12 ho0 hb; replace HO_13 := a5_ HO_13 ho0 hb; replace HO_15 := a5_ HO_15 ho0 hb; replace HO_120000 := a5_ HO_120000 ho0 hb; replace HO_124000 := a5_ HO_124000 ho0 hb; replace HO_138000 := a5_ HO_138000 ho0 hb; replace HO142 := a5_ HO142 ho0 hb; replace HO146 := a5_ HO146 ho0 hb; replace BK101 := a2_ BK101 hb; replace BK119 := a2_ BK119 hb; replace BK123 := a2_ BK123 hb; replace BK137 := a2_ BK137 hb; replace HB := Aside0.mk (below_step (gb_ HB.out) hb); (try clear hb); (try clear hb2); (try clear hk); (try clear hi); (try clear ho0); obtain ⟨Ao109, co109, eo109⟩ := Kd.R_slice HO150.out; subst eo109) | ((with_reducible refine gate_callee (f := 15) rfl ?_); refine goesL_ (some 87) rfl rfl Try.func15 (by kernel_rfl) rfl #[.slice Ao48 t127.length co48, .slice Ao109 t148.length co109] rfl (by (try simp only [List.map_toArray, List.map_cons, List.map_nil]); first | done | rfl | (simp only [List.length_drop, List.length_take]; rfl)) ?_; (with_reducible refine (laws_eqInt64S.calls kj20 _ _ t127 _ _ t148 true _ ?side1 ?side2 ?side3 ?side4 A96.out).mono ?_); (case side1 => exact c1_ HO_13); (case side2 => exact (Kd.R_reads' HO_13.out).2.1); (case side3 => exact c1_ HO150); (case side4 => exact (Kd.R_reads' HO150.out).2.1); rintro e w' ⟨rfl, ⟨nd, rfl⟩⟩; refine ⟨_, rfl, ?_⟩; have hnb110 := NB123_101.out; have hnc110 := NB101_123.out; have hnb111 := NB123_119.out; have hnc111 := NB119_123.out; have hnb112 := NB123_137.out; have hnc112 := NB137_123.out; have hcz113_0 : w108.cell? ⟨gb123, 0, none⟩ = some (.slice Ao40 t120.length co40) := (blk_cell BK123.out 0).trans rfl; have hfz113_0 := blk_frozen BK123.out 0) | ((with_reducible refine gate_callee (f := 16) rfl ?_); refine goesL_ (some 91) rfl rfl Try.func16 (by kernel_rfl) rfl #[.agg #[.slice Ao40 t120.length co40], .int .i64 1] rfl (by (try simp only [List.map_toArray, List.map_cons, List.map_nil]); first | done | rfl | (simp only [List.length_drop, List.length_take]; rfl)) ?_; (with_reducible refine (laws_markSpace.calls kj20 (fun k_ => some k_ = (.slice Ao40 t120.length co40 : Value).ownBlock) (.slice Ao40 t120.length co40) t120 1 t152 t153 w _ ?side1 ?side2 A98.out).mono ?_); (case side1 => exact gb_ HB.out); (case side2 => exact Kd.R_tight rfl HO_124000.out); rintro e w114 ⟨rfl, hy0, hb, hkp⟩; refine ⟨_, rfl, ?_⟩; replace HO_9 := Aside0.mk (Kd.R_mono (ok' := fun k_ => OB_ k_ (.slice Ao47 t124.length co47) ∧ OB_ k_ (.slice Ao48 t127.length co48) ∧ OB_ k_ v134 ∧ OB_ k_ (.slice Ao34 t112.length co34) ∧ OB_ k_ (.slice Ao40 t120.length co40) ∧ OB_ k_ (.slice Ao51 t130.length co51) ∧ OB_ k_ (.slice Ao104 t140.length co104) ∧ OB_ k_ (.slice Ao107 t144.length co107) ∧ OB_ k_ (.slice Ao109 t148.length co109)) (Kd.R_keptB (HO_9.out) hkp (fun k_ hk_ hs_ => (hk_.1.1.1.2.2.2.2.1) hs_)) (fun k_ hk_ => ⟨hk_.1.1.1.1.1, hk_.1.1.1.1.2.1, hk_.1.1.1.1.2.2.1, hk_.1.1.1.1.2.2.2.1, hk_.1.1.1.1.2.2.2.2.1, hk_.1.1.1.1.2.2.2.2.2, hk_.1.1.1.2, hk_.1.1.2, hk_.1.2⟩)); replace HO_12 := Aside0.mk (Kd.R_mono (ok' := fun k_ => OB_ k_ v116 ∧ OB_ k_ (.slice Ao48 t127.length co48) ∧ OB_ k_ v134 ∧ OB_ k_ (.slice Ao34 t112.length co34) ∧ OB_ k_ (.slice Ao40 t120.length co40) ∧ OB_ k_ (.slice Ao51 t130.length co51) ∧ OB_ k_ (.slice Ao104 t140.length co104) ∧ OB_ k_ (.slice Ao107 t144.length co107) ∧ OB_ k_ (.slice Ao109 t148.length co109)) (Kd.R_keptB (HO_12.out) hkp (fun k_ hk_ hs_ => (hk_.1.1.1.2.2.2.2.1) hs_)) (fun k_ hk_ => ⟨hk_.1.1.1.1.1, hk_.1.1.1.1.2.1, hk_.1.1.1.1.2.2.1, hk_.1.1.1.1.2.2.2.1, hk_.1.1.1.1.2.2.2.2.1, hk_.1.1.1.1.2.2.2.2.2, hk_.1.1.1.2, hk_.1.1.2, hk_.1.2⟩)); replace HO_13 := Aside0.mk (Kd.R_mono (ok' := fun k_ => OB_ k_ v116 ∧ OB_ k_ (.slice Ao47 t124.length co47) ∧ OB_ k_ v134 ∧ OB_ k_ (.slice Ao34 t112.length co34) ∧ OB_ k_ (.slice Ao40 t120.length co40) ∧ OB_ k_ (.slice Ao51 t130.length co51) ∧ OB_ k_ (.slice Ao104 t140.length co104) ∧ OB_ k_ (.slice Ao107 t144.length co107) ∧ OB_ k_ (.slice Ao109 t148.length co109)) (Kd.R_keptB (HO_13.out) hkp (fun k_ hk_ hs_ => (hk_.1.1.1.2.2.2.2.1) hs_)) (fun k_ hk_ => ⟨hk_.1.1.1.1.1, hk_.1.1.1.1.2.1, hk_.1.1.1.1.2.2.1, hk_.1.1.1.1.2.2.2.1, hk_.1.1.1.1.2.2.2.2.1, hk_.1.1.1.1.2.2.2.2.2, hk_.1.1.1.2, hk_.1.1.2, hk_.1.2⟩)); replace HO_15 := Aside0.mk (Kd.R_mono (ok' := fun k_ => OB_ k_ v116 ∧ OB_ k_ (.slice Ao47 t124.length co47) ∧ OB_ k_ (.slice Ao48 t127.length co48) ∧ OB_ k_ (.slice Ao34 t112.length co34) ∧ OB_ k_ (.slice Ao40 t120.length co40) ∧ OB_ k_ (.slice Ao51 t130.length co51) ∧ OB_ k_ (.slice Ao104 t140.length co104) ∧ OB_ k_ (.slice Ao107 t144.length co107) ∧ OB_ k_ (.slice Ao109 t148.length co109)) (Kd.R_keptB (HO_15.out) hkp (fun k_ hk_ hs_ => (hk_.1.1.1.2.2.2.2.1) hs_)) (fun k_ hk_ => ⟨hk_.1.1.1.1.1, hk_.1.1.1.1.2.1, hk_.1.1.1.1.2.2.1, hk_.1.1.1.1.2.2.2.1, hk_.1.1.1.1.2.2.2.2.1, hk_.1.1.1.1.2.2.2.2.2, hk_.1.1.1.2, hk_.1.1.2, hk_.1.2⟩)); replace HO_120000 := Aside0.mk (Kd.R_mono (ok' := fun k_ => OB_ k_ v116 ∧ OB_ k_ (.slice Ao47 t124.length co47) ∧ OB_ k_ (.slice Ao48 t127.length co48) ∧ OB_ k_ v134 ∧ OB_ k_ (.slice Ao40 t120.length co40) ∧ OB_ k_ (.slice Ao51 t130.length co51) ∧ OB_ k_ (.slice Ao104 t140.length co104) ∧ OB_ k_ (.slice Ao107 t144.length co107) ∧ OB_ k_ (.slice Ao109 t148.length co109)) (Kd.R_keptB (HO_120000.out) hkp (fun k_ hk_ hs_ => (hk_.1.1.1.2.2.2.2.1) hs_)) (fun k_ hk_ => ⟨hk_.1.1.1.1.1, hk_.1.1.1.1.2.1, hk_.1.1.1.1.2.2.1, hk_.1.1.1.1.2.2.2.1, hk_.1.1.1.1.2.2.2.2.1, hk_.1.1.1.1.2.2.2.2.2, hk_.1.1.1.2, hk_.1.1.2, hk_.1.2⟩)); replace HO_138000 := Aside0.mk (Kd.R_mono (ok' := fun k_ => OB_ k_ v116 ∧ OB_ k_ (.slice Ao47 t124.length co47) ∧ OB_ k_ (.slice Ao48 t127.length co48) ∧ OB_ k_ v134 ∧ OB_ k_ (.slice Ao34 t112.length co34) ∧ OB_ k_ (.slice Ao40 t120.length co40) ∧ OB_ k_ (.slice Ao104 t140.length co104) ∧ OB_ k_ (.slice Ao107 t144.length co107) ∧ OB_ k_ (.slice Ao109 t148.length co109)) (Kd.R_keptB (HO_138000.out) hkp (fun k_ hk_ hs_ => (hk_.1.1.1.2.2.2.2.2) hs_)) (fun k_ hk_ => ⟨hk_.1.1.1.1.1, hk_.1.1.1.1.2.1, hk_.1.1.1.1.2.2.1, hk_.1.1.1.1.2.2.2.1, hk_.1.1.1.1.2.2.2.2.1, hk_.1.1.1.1.2.2.2.2.2, hk_.1.1.1.2, hk_.1.1.2, hk_.1.2⟩)); replace BK101 := a7_ BK101 hkp HO_124000; replace BK119 := a7_ BK119 hkp HO_124000; replace BK123 := a7_ BK123 hkp HO_124000; replace BK137 := a7_ BK137 hkp HO_124000; replace HO_124000 := Aside0.mk (Kd.R_reok rfl hy0 (fun k_ e_ => HO_124000.out.1 k_ e_)); replace HO142 := Aside0.mk (Kd.R_mono (ok' := fun k_ => OB_ k_ v116 ∧ OB_ k_ (.slice Ao47 t124.length co47) ∧ OB_ k_ (.slice Ao48 t127.length co48) ∧ OB_ k_ v134 ∧ OB_ k_ (.slice Ao34 t112.length co34) ∧ OB_ k_ (.slice Ao40 t120.length co40) ∧ OB_ k_ (.slice Ao51 t130.length co51) ∧ OB_ k_ (.slice Ao107 t144.length co107) ∧ OB_ k_ (.slice Ao109 t148.length co109)) (Kd.R_keptB (HO142.out) hkp (fun k_ hk_ hs_ => (hk_.1.1.1.2) hs_)) (fun k_ hk_ => ⟨hk_.1.1.1.1.1.1.1.1.1.2, hk_.1.1.1.1.1.1.1.1.2, hk_.1.1.1.1.1.1.1.2, hk_.1.1.1.1.1.1.2, hk_.1.1.1.1.1.2, hk_.1.1.1.1.2, hk_.1.1.1.2, hk_.1.1.2, hk_.1.2⟩)); replace HO146 := Aside0.mk (Kd.R_mono (ok' := fun k_ => OB_ k_ v116 ∧ OB_ k_ (.slice Ao47 t124.length co47) ∧ OB_ k_ (.slice Ao48 t127.length co48) ∧ OB_ k_ v134 ∧ OB_ k_ (.slice Ao34 t112.length co34) ∧ OB_ k_ (.slice Ao40 t120.length co40) ∧ OB_ k_ (.slice Ao51 t130.length co51) ∧ OB_ k_ (.slice Ao104 t140.length co104) ∧ OB_ k_ (.slice Ao109 t148.length co109)) (Kd.R_keptB (HO146.out) hkp (fun k_ hk_ hs_ => (hk_.1.1.1.2) hs_)) (fun k_ hk_ => ⟨hk_.1.1.1.1.1.1.1.1.1.2, hk_.1.1.1.1.1.1.1.1.2, hk_.1.1.1.1.1.1.1.2, hk_.1.1.1.1.1.1.2, hk_.1.1.1.1.1.2, hk_.1.1.1.1.2, hk_.1.1.1.2, hk_.1.1.2, hk_.1.2⟩)); replace HO150 := Aside0.mk (Kd.R_mono (ok' := fun k_ => OB_ k_ v116 ∧ OB_ k_ (.slice Ao47 t124.length co47) ∧ OB_ k_ (.slice Ao48 t127.length co48) ∧ OB_ k_ v134 ∧ OB_ k_ (.slice Ao34 t112.length co34) ∧ OB_ k_ (.slice Ao40 t120.length co40) ∧ OB_ k_ (.slice Ao51 t130.length co51) ∧ OB_ k_ (.slice Ao104 t140.length co104) ∧ OB_ k_ (.slice Ao107 t144.length co107)) (Kd.R_keptB (HO150.out) hkp (fun k_ hk_ hs_ => (hk_.1.1.1.2) hs_)) (fun k_ hk_ => ⟨hk_.1.1.1.1.1.1.1.1.1.2, hk_.1.1.1.1.1.1.1.1.2, hk_.1.1.1.1.1.1.1.2, hk_.1.1.1.1.1.1.2, hk_.1.1.1.1.1.2, hk_.1.1.1.1.2, hk_.1.1.1.2, hk_.1.1.2, hk_.1.2⟩)); replace HB := Aside0.mk (hb); (try clear hb); (try clear hkp); (try clear hy0)) | ((with_reducible refine gate_callee (f := 17) rfl ?_); refine goesL_ (some 94) rfl rfl Try.func17 (by kernel_rfl) rfl #[.slice Ao47 t124.length co47, .int .i64 t152] rfl (by (try simp only [List.map_toArray, List.map_cons, List.map_nil]); first | done | rfl | (simp only [List.length_drop, List.length_take]; rfl)) ?_; (with_reducible refine (laws_markInt64S.calls kj20 (fun k_ => some k_ = (.slice Ao47 t124.length co47 : Value).ownBlock) (.slice Ao47 t124.length co47) t124 t152 t154 t155 w _ ?side1 ?side2 A99.out).mono ?_); (case side1 => exact gb_ HB.out); (case side2 => exact Kd.R_tight rfl HO_12.out); rintro e w115 ⟨rfl, hy0, hb, hkp⟩; refine ⟨_, rfl, ?_⟩; replace HO_9 := Aside0.mk (Kd.R_mono (ok' := fun k_ => OB_ k_ (.slice Ao47 t124.length co47) ∧ OB_ k_ (.slice Ao48 t127.length co48) ∧ OB_ k_ v134 ∧ OB_ k_ (.slice Ao34 t112.length co34) ∧ OB_ k_ (.slice Ao40 t120.length co40) ∧ OB_ k_ (.slice Ao51 t130.length co51) ∧ OB_ k_ (.slice Ao104 t140.length co104) ∧ OB_ k_ (.slice Ao107 t144.length co107) ∧ OB_ k_ (.slice Ao109 t148.length co109)) (Kd.R_keptB (HO_9.out) hkp (fun k_ hk_ hs_ => (hk_.1) hs_)) (fun k_ hk_ => ⟨hk_.1.1, hk_.1.2.1, hk_.1.2.2.1, hk_.1.2.2.2.1, hk_.1.2.2.2.2.1, hk_.1.2.2.2.2.2.1, hk_.1.2.2.2.2.2.2.1, hk_.1.2.2.2.2.2.2.2.1, hk_.1.2.2.2.2.2.2.2.2⟩)); replace HO_13 := Aside0.mk (Kd.R_mono (ok' := fun k_ => OB_ k_ v116 ∧ OB_ k_ (.slice Ao47 t124.length co47) ∧ OB_ k_ v134 ∧ OB_ k_ (.slice Ao34 t112.length co34) ∧ OB_ k_ (.slice Ao40 t120.length co40) ∧ OB_ k_ (.slice Ao51 t130.length co51) ∧ OB_ k_ (.slice Ao104 t140.length co104) ∧ OB_ k_ (.slice Ao107 t144.length co107) ∧ OB_ k_ (.slice Ao109 t148.length co109)) (Kd.R_keptB (HO_13.out) hkp (fun k_ hk_ hs_ => (hk_.2.1) hs_)) (fun k_ hk_ => ⟨hk_.1.1, hk_.1.2.1, hk_.1.2.2.1, hk_.1.2.2.2.1, hk_.1.2.2.2.2.1, hk_.1.2.2.2.2.2.1, hk_.1.2.2.2.2.2.2.1, hk_.1.2.2.2.2.2.2.2.1, hk_.1.2.2.2.2.2.2.2.2⟩)); replace HO_15 := Aside0.mk (Kd.R_mono (ok' := fun k_ => OB_ k_ v116 ∧ OB_ k_ (.slice Ao47 t124.length co47) ∧ OB_ k_ (.slice Ao48 t127.length co48) ∧ OB_ k_ (.slice Ao34 t112.length co34) ∧ OB_ k_ (.slice Ao40 t120.length co40) ∧ OB_ k_ (.slice Ao51 t130.length co51) ∧ OB_ k_ (.slice Ao104 t140.length co104) ∧ OB_ k_ (.slice Ao107 t144.length co107) ∧ OB_ k_ (.slice Ao109 t148.length co109)) (Kd.R_keptB (HO_15.out) hkp (fun k_ hk_ hs_ => (hk_.2.1) hs_)) (fun k_ hk_ => ⟨hk_.1.1, hk_.1.2.1, hk_.1.2.2.1, hk_.1.2.2.2.1, hk_.1.2.2.2.2.1, hk_.1.2.2.2.2.2.1, hk_.1.2.2.2.2.2.2.1, hk_.1.2.2.2.2.2.2.2.1, hk_.1.2.2.2.2.2.2.2.2⟩)); replace HO_120000 := Aside0.mk (Kd.R_mono (ok' := fun k_ => OB_ k_ v116 ∧ OB_ k_ (.slice Ao47 t124.length co47) ∧ OB_ k_ (.slice Ao48 t127.length co48) ∧ OB_ k_ v134 ∧ OB_ k_ (.slice Ao40 t120.length co40) ∧ OB_ k_ (.slice Ao51 t130.length co51) ∧ OB_ k_ (.slice Ao104 t140.length co104) ∧ OB_ k_ (.slice Ao107 t144.length co107) ∧ OB_ k_ (.slice Ao109 t148.length co109)) (Kd.R_keptB (HO_120000.out) hkp (fun k_ hk_ hs_ => (hk_.2.1) hs_)) (fun k_ hk_ => ⟨hk_.1.1, hk_.1.2.1, hk_.1.2.2.1, hk_.1.2.2.2.1, hk_.1.2.2.2.2.1, hk_.1.2.2.2.2.2.1, hk_.1.2.2.2.2.2.2.1, hk_.1.2.2.2.2.2.2.2.1, hk_.1.2.2.2.2.2.2.2.2⟩)); replace HO_124000 := Aside0.mk (Kd.R_mono (ok' := fun k_ => OB_ k_ v116 ∧ OB_ k_ (.slice Ao47 t124.length co47) ∧ OB_ k_ (.slice Ao48 t127.length co48) ∧ OB_ k_ v134 ∧ OB_ k_ (.slice Ao34 t112.length co34) ∧ OB_ k_ (.slice Ao51 t130.length co51) ∧ OB_ k_ (.slice Ao104 t140.length co104) ∧ OB_ k_ (.slice Ao107 t144.length co107) ∧ OB_ k_ (.slice Ao109 t148.length co109)) (Kd.R_keptB (HO_124000.out) hkp (fun k_ hk_ hs_ => (hk_.1.1.1.2.1) hs_)) (fun k_ hk_ => ⟨hk_.1.1.1.1.1, hk_.1.1.1.1.2.1, hk_.1.1.1.1.2.2.1, hk_.1.1.1.1.2.2.2.1, hk_.1.1.1.1.2.2.2.2.1, hk_.1.1.1.1.2.2.2.2.2, hk_.1.1.1.2, hk_.1.1.2, hk_.1.2⟩)); replace HO_138000 := Aside0.mk (Kd.R_mono (ok' := fun k_ => OB_ k_ v116 ∧ OB_ k_ (.slice Ao47 t124.length co47) ∧ OB_ k_ (.slice Ao48 t127.length co48) ∧ OB_ k_ v134 ∧ OB_ k_ (.slice Ao34 t112.length co34) ∧ OB_ k_ (.slice Ao40 t120.length co40) ∧ OB_ k_ (.slice Ao104 t140.length co104) ∧ OB_ k_ (.slice Ao107 t144.length co107) ∧ OB_ k_ (.slice Ao109 t148.length co109)) (Kd.R_keptB (HO_138000.out) hkp (fun k_ hk_ hs_ => (hk_.2.1) hs_)) (fun k_ hk_ => ⟨hk_.1.1, hk_.1.2.1, hk_.1.2.2.1, hk_.1.2.2.2.1, hk_.1.2.2.2.2.1, hk_.1.2.2.2.2.2.1, hk_.1.2.2.2.2.2.2.1, hk_.1.2.2.2.2.2.2.2.1, hk_.1.2.2.2.2.2.2.2.2⟩)); replace BK101 := a7_ BK101 hkp HO_12; replace BK119 := a7_ BK119 hkp HO_12; replace BK123 := a7_ BK123 hkp HO_12; replace BK137 := a7_ BK137 hkp HO_12; replace HO_12 := Aside0.mk (Kd.R_reok rfl hy0 (fun k_ e_ => HO_12.out.1 k_ e_)); replace HO142 := Aside0.mk (Kd.R_mono (ok' := fun k_ => OB_ k_ v116 ∧ OB_ k_ (.slice Ao47 t124.length co47) ∧ OB_ k_ (.slice Ao48 t127.length co48) ∧ OB_ k_ v134 ∧ OB_ k_ (.slice Ao34 t112.length co34) ∧ OB_ k_ (.slice Ao40 t120.length co40) ∧ OB_ k_ (.slice Ao51 t130.length co51) ∧ OB_ k_ (.slice Ao107 t144.length co107) ∧ OB_ k_ (.slice Ao109 t148.length co109)) (Kd.R_keptB (HO142.out) hkp (fun k_ hk_ hs_ => (hk_.2.1) hs_)) (fun k_ hk_ => ⟨hk_.1.1, hk_.1.2.1, hk_.1.2.2.1, hk_.1.2.2.2.1, hk_.1.2.2.2.2.1, hk_.1.2.2.2.2.2.1, hk_.1.2.2.2.2.2.2.1, hk_.1.2.2.2.2.2.2.2.1, hk_.1.2.2.2.2.2.2.2.2⟩)); replace HO146 := Aside0.mk (Kd.R_mono (ok' := fun k_ => OB_ k_ v116 ∧ OB_ k_ (.slice Ao47 t124.length co47) ∧ OB_ k_ (.slice Ao48 t127.length co48) ∧ OB_ k_ v134 ∧ OB_ k_ (.slice Ao34 t112.length co34) ∧ OB_ k_ (.slice Ao40 t120.length co40) ∧ OB_ k_ (.slice Ao51 t130.length co51) ∧ OB_ k_ (.slice Ao104 t140.length co104) ∧ OB_ k_ (.slice Ao109 t148.length co109)) (Kd.R_keptB (HO146.out) hkp (fun k_ hk_ hs_ => (hk_.2.1) hs_)) (fun k_ hk_ => ⟨hk_.1.1, hk_.1.2.1, hk_.1.2.2.1, hk_.1.2.2.2.1, hk_.1.2.2.2.2.1, hk_.1.2.2.2.2.2.1, hk_.1.2.2.2.2.2.2.1, hk_.1.2.2.2.2.2.2.2.1, hk_.1.2.2.2.2.2.2.2.2⟩)); replace HO150 := Aside0.mk (Kd.R_mono (ok' := fun k_ => OB_ k_ v116 ∧ OB_ k_ (.slice Ao47 t124.length co47) ∧ OB_ k_ (.slice Ao48 t127.length co48) ∧ OB_ k_ v134 ∧ OB_ k_ (.slice Ao34 t112.length co34) ∧ OB_ k_ (.slice Ao40 t120.length co40) ∧ OB_ k_ (.slice Ao51 t130.length co51) ∧ OB_ k_ (.slice Ao104 t140.length co104) ∧ OB_ k_ (.slice Ao107 t144.length co107)) (Kd.R_keptB (HO150.out) hkp (fun k_ hk_ hs_ => (hk_.2.1) hs_)) (fun k_ hk_ => ⟨hk_.1.1, hk_.1.2.1, hk_.1.2.2.1, hk_.1.2.2.2.1, hk_.1.2.2.2.2.1, hk_.1.2.2.2.2.2.1, hk_.1.2.2.2.2.2.2.1, hk_.1.2.2.2.2.2.2.2.1, hk_.1.2.2.2.2.2.2.2.2⟩)); replace HB := Aside0.mk (hb); (try clear hb); (try clear hkp); (try clear hy0)) | ((with_reducible refine gate_callee (f := 17) rfl ?_); refine goesL_ (some 97) rfl rfl Try.func17 (by kernel_rfl) rfl #[.slice Ao48 t127.length co48, .int .i64 t154] rfl (by (try simp only [List.map_toArray, List.map_cons, List.map_nil]); first | done | rfl | (simp only [List.length_drop, List.length_take]; rfl)) ?_; (with_reducible refine (laws_markInt64S.calls kj20 (fun k_ => some k_ = (.slice Ao48 t127.length co48 : Value).ownBlock) (.slice Ao48 t127.length co48) t127 t154 t156 t157 w _ ?side1 ?side2 A100.out).mono ?_); (case side1 => exact gb_ HB.out); (case side2 => exact Kd.R_tight rfl HO_13.out); rintro e w116 ⟨rfl, hy0, hb, hkp⟩; refine ⟨_, rfl, ?_⟩; replace HO_9 := Aside0.mk (Kd.R_mono (ok' := fun k_ => OB_ k_ (.slice Ao47 t124.length co47) ∧ OB_ k_ (.slice Ao48 t127.length co48) ∧ OB_ k_ v134 ∧ OB_ k_ (.slice Ao34 t112.length co34) ∧ OB_ k_ (.slice Ao40 t120.length co40) ∧ OB_ k_ (.slice Ao51 t130.length co51) ∧ OB_ k_ (.slice Ao104 t140.length co104) ∧ OB_ k_ (.slice Ao107 t144.length co107) ∧ OB_ k_ (.slice Ao109 t148.length co109)) (Kd.R_keptB (HO_9.out) hkp (fun k_ hk_ hs_ => (hk_.2.1) hs_)) (fun k_ hk_ => ⟨hk_.1.1, hk_.1.2.1, hk_.1.2.2.1, hk_.1.2.2.2.1, hk_.1.2.2.2.2.1, hk_.1.2.2.2.2.2.1, hk_.1.2.2.2.2.2.2.1, hk_.1.2.2.2.2.2.2.2.1, hk_.1.2.2.2.2.2.2.2.2⟩)); replace HO_12 := Aside0.mk (Kd.R_mono (ok' := fun k_ => OB_ k_ v116 ∧ OB_ k_ (.slice Ao48 t127.length co48) ∧ OB_ k_ v134 ∧ OB_ k_ (.slice Ao34 t112.length co34) ∧ OB_ k_ (.slice Ao40 t120.length co40) ∧ OB_ k_ (.slice Ao51 t130.length co51) ∧ OB_ k_ (.slice Ao104 t140.length co104) ∧ OB_ k_ (.slice Ao107 t144.length co107) ∧ OB_ k_ (.slice Ao109 t148.length co109)) (Kd.R_keptB (HO_12.out) hkp (fun k_ hk_ hs_ => (hk_.2.1) hs_)) (fun k_ hk_ => ⟨hk_.1.1, hk_.1.2.1, hk_.1.2.2.1, hk_.1.2.2.2.1, hk_.1.2.2.2.2.1, hk_.1.2.2.2.2.2.1, hk_.1.2.2.2.2.2.2.1, hk_.1.2.2.2.2.2.2.2.1, hk_.1.2.2.2.2.2.2.2.2⟩)); replace HO_15 := Aside0.mk (Kd.R_mono (ok' := fun k_ => OB_ k_ v116 ∧ OB_ k_ (.slice Ao47 t124.length co47) ∧ OB_ k_ (.slice Ao48 t127.length co48) ∧ OB_ k_ (.slice Ao34 t112.length co34) ∧ OB_ k_ (.slice Ao40 t120.length co40) ∧ OB_ k_ (.slice Ao51 t130.length co51) ∧ OB_ k_ (.slice Ao104 t140.length co104) ∧ OB_ k_ (.slice Ao107 t144.length co107) ∧ OB_ k_ (.slice Ao109 t148.length co109)) (Kd.R_keptB (HO_15.out) hkp (fun k_ hk_ hs_ => (hk_.2.2.1) hs_)) (fun k_ hk_ => ⟨hk_.1.1, hk_.1.2.1, hk_.1.2.2.1, hk_.1.2.2.2.1, hk_.1.2.2.2.2.1, hk_.1.2.2.2.2.2.1, hk_.1.2.2.2.2.2.2.1, hk_.1.2.2.2.2.2.2.2.1, hk_.1.2.2.2.2.2.2.2.2⟩)); replace HO_120000 := Aside0.mk (Kd.R_mono (ok' := fun k_ => OB_ k_ v116 ∧ OB_ k_ (.slice Ao47 t124.length co47) ∧ OB_ k_ (.slice Ao48 t127.length co48) ∧ OB_ k_ v134 ∧ OB_ k_ (.slice Ao40 t120.length co40) ∧ OB_ k_ (.slice Ao51 t130.length co51) ∧ OB_ k_ (.slice Ao104 t140.length co104) ∧ OB_ k_ (.slice Ao107 t144.length co107) ∧ OB_ k_ (.slice Ao109 t148.length co109)) (Kd.R_keptB (HO_120000.out) hkp (fun k_ hk_ hs_ => (hk_.2.2.1) hs_)) (fun k_ hk_ => ⟨hk_.1.1, hk_.1.2.1, hk_.1.2.2.1, hk_.1.2.2.2.1, hk_.1.2.2.2.2.1, hk_.1.2.2.2.2.2.1, hk_.1.2.2.2.2.2.2.1, hk_.1.2.2.2.2.2.2.2.1, hk_.1.2.2.2.2.2.2.2.2⟩)); replace HO_124000 := Aside0.mk (Kd.R_mono (ok' := fun k_ => OB_ k_ v116 ∧ OB_ k_ (.slice Ao47 t124.length co47) ∧ OB_ k_ (.slice Ao48 t127.length co48) ∧ OB_ k_ v134 ∧ OB_ k_ (.slice Ao34 t112.length co34) ∧ OB_ k_ (.slice Ao51 t130.length co51) ∧ OB_ k_ (.slice Ao104 t140.length co104) ∧ OB_ k_ (.slice Ao107 t144.length co107) ∧ OB_ k_ (.slice Ao109 t148.length co109)) (Kd.R_keptB (HO_124000.out) hkp (fun k_ hk_ hs_ => (hk_.2.2.1) hs_)) (fun k_ hk_ => ⟨hk_.1.1, hk_.1.2.1, hk_.1.2.2.1, hk_.1.2.2.2.1, hk_.1.2.2.2.2.1, hk_.1.2.2.2.2.2.1, hk_.1.2.2.2.2.2.2.1, hk_.1.2.2.2.2.2.2.2.1, hk_.1.2.2.2.2.2.2.2.2⟩)); replace HO_138000 := Aside0.mk (Kd.R_mono (ok' := fun k_ => OB_ k_ v116 ∧ OB_ k_ (.slice Ao47 t124.length co47) ∧ OB_ k_ (.slice Ao48 t127.length co48) ∧ OB_ k_ v134 ∧ OB_ k_ (.slice Ao34 t112.length co34) ∧ OB_ k_ (.slice Ao40 t120.length co40) ∧ OB_ k_ (.slice Ao104 t140.length co104) ∧ OB_ k_ (.slice Ao107 t144.length co107) ∧ OB_ k_ (.slice Ao109 t148.length co109)) (Kd.R_keptB (HO_138000.out) hkp (fun k_ hk_ hs_ => (hk_.2.2.1) hs_)) (fun k_ hk_ => ⟨hk_.1.1, hk_.1.2.1, hk_.1.2.2.1, hk_.1.2.2.2.1, hk_.1.2.2.2.2.1, hk_.1.2.2.2.2.2.1, hk_.1.2.2.2.2.2.2.1, hk_.1.2.2.2.2.2.2.2.1, hk_.1.2.2.2.2.2.2.2.2⟩)); replace BK101 := a7_ BK101 hkp HO_13; replace BK119 := a7_ BK119 hkp HO_13; replace BK123 := a7_ BK123 hkp HO_13; replace BK137 := a7_ BK137 hkp HO_13; replace HO_13 := Aside0.mk (Kd.R_reok rfl hy0 (fun k_ e_ => HO_13.out.1 k_ e_)); replace HO142 := Aside0.mk (Kd.R_mono (ok' := fun k_ => OB_ k_ v116 ∧ OB_ k_ (.slice Ao47 t124.length co47) ∧ OB_ k_ (.slice Ao48 t127.length co48) ∧ OB_ k_ v134 ∧ OB_ k_ (.slice Ao34 t112.length co34) ∧ OB_ k_ (.slice Ao40 t120.length co40) ∧ OB_ k_ (.slice Ao51 t130.length co51) ∧ OB_ k_ (.slice Ao107 t144.length co107) ∧ OB_ k_ (.slice Ao109 t148.length co109)) (Kd.R_keptB (HO142.out) hkp (fun k_ hk_ hs_ => (hk_.2.2.1) hs_)) (fun k_ hk_ => ⟨hk_.1.1, hk_.1.2.1, hk_.1.2.2.1, hk_.1.2.2.2.1, hk_.1.2.2.2.2.1, hk_.1.2.2.2.2.2.1, hk_.1.2.2.2.2.2.2.1, hk_.1.2.2.2.2.2.2.2.1, hk_.1.2.2.2.2.2.2.2.2⟩)); replace HO146 := Aside0.mk (Kd.R_mono (ok' := fun k_ => OB_ k_ v116 ∧ OB_ k_ (.slice Ao47 t124.length co47) ∧ OB_ k_ (.slice Ao48 t127.length co48) ∧ OB_ k_ v134 ∧ OB_ k_ (.slice Ao34 t112.length co34) ∧ OB_ k_ (.slice Ao40 t120.length co40) ∧ OB_ k_ (.slice Ao51 t130.length co51) ∧ OB_ k_ (.slice Ao104 t140.length co104) ∧ OB_ k_ (.slice Ao109 t148.length co109)) (Kd.R_keptB (HO146.out) hkp (fun k_ hk_ hs_ => (hk_.2.2.1) hs_)) (fun k_ hk_ => ⟨hk_.1.1, hk_.1.2.1, hk_.1.2.2.1, hk_.1.2.2.2.1, hk_.1.2.2.2.2.1, hk_.1.2.2.2.2.2.1, hk_.1.2.2.2.2.2.2.1, hk_.1.2.2.2.2.2.2.2.1, hk_.1.2.2.2.2.2.2.2.2⟩)); replace HO150 := Aside0.mk (Kd.R_mono (ok' := fun k_ => OB_ k_ v116 ∧ OB_ k_ (.slice Ao47 t124.length co47) ∧ OB_ k_ (.slice Ao48 t127.length co48) ∧ OB_ k_ v134 ∧ OB_ k_ (.slice Ao34 t112.length co34) ∧ OB_ k_ (.slice Ao40 t120.length co40) ∧ OB_ k_ (.slice Ao51 t130.length co51) ∧ OB_ k_ (.slice Ao104 t140.length co104) ∧ OB_ k_ (.slice Ao107 t144.length co107)) (Kd.R_keptB (HO150.out) hkp (fun k_ hk_ hs_ => (hk_.2.2.1) hs_)) (fun k_ hk_ => ⟨hk_.1.1, hk_.1.2.1, hk_.1.2.2.1, hk_.1.2.2.2.1, hk_.1.2.2.2.2.1, hk_.1.2.2.2.2.2.1, hk_.1.2.2.2.2.2.2.1, hk_.1.2.2.2.2.2.2.2.1, hk_.1.2.2.2.2.2.2.2.2⟩)); replace HB := Aside0.mk (hb); (try clear hb); (try clear hkp); (try clear hy0)))
          (try simp only [Act.put, List.setIfInBounds_toArray, List.set_cons_zero, List.set_cons_succ])
          go_cut [116] (fun cs_116 wc => ∃ (kq : Nat) (x116_100 : Bool), cs_116 = .bool x116_100 ∧ Aside0 (laws_FnExactOrderPlaces.j1 kq l1 l2 t115 t118 t133 x116_100 l0_0 t112 t130 = some r) ∧ Aside0 (kq ≤ kj20) ∧ Aside0 (Kd.R (Kd.int .i64) 2 wc w.heap.size (fun k_ => OB_ k_ v134 ∧ OB_ k_ (.slice Ao34 t112.length co34) ∧ OB_ k_ (.slice Ao40 t120.length co40) ∧ OB_ k_ (.slice Ao51 t130.length co51)) v116 t115) ∧ Aside0 (Kd.R (Kd.int .i64) 2 wc w.heap.size (fun k_ => OB_ k_ v116 ∧ OB_ k_ (.slice Ao34 t112.length co34) ∧ OB_ k_ (.slice Ao40 t120.length co40) ∧ OB_ k_ (.slice Ao51 t130.length co51)) v134 t133) ∧ Aside0 (Kd.R (Kd.int .i64) 2 wc w.heap.size (fun k_ => OB_ k_ v116 ∧ OB_ k_ v134 ∧ OB_ k_ (.slice Ao40 t120.length co40) ∧ OB_ k_ (.slice Ao51 t130.length co51)) (.slice Ao34 t112.length co34) t112) ∧ Aside0 (Kd.R (Kd.int .i64) 2 wc w.heap.size (fun k_ => OB_ k_ v116 ∧ OB_ k_ v134 ∧ OB_ k_ (.slice Ao34 t112.length co34) ∧ OB_ k_ (.slice Ao51 t130.length co51)) (.slice Ao40 t120.length co40) t153) ∧ Aside0 (Kd.R (Kd.int .i64) 2 wc w.heap.size (fun k_ => OB_ k_ v116 ∧ OB_ k_ v134 ∧ OB_ k_ (.slice Ao34 t112.length co34) ∧ OB_ k_ (.slice Ao40 t120.length co40)) (.slice Ao51 t130.length co51) t130) ∧ Aside0 (wc.heap[gb101]? = some (.cells #[(.slice A0_0 l0_0.length c0_0)] 24 (0, 0))) ∧ Aside0 (wc.heap[gb119]? = some (.cells #[(.slice Ao34 t112.length co34)] 26 (0, 0))) ∧ Aside0 (wc.heap[gb123]? = some (.cells #[(.slice Ao40 t120.length co40)] 26 (0, 0))) ∧ Aside0 (wc.heap[gb137]? = some (.cells #[(.slice Ao51 t130.length co51)] 26 (0, 0))) ∧ Aside0 (Below w.heap.size w wc))
          case first =>
           have H := HC101.out
           clear HC101
           by_cases c117 : t156 < 0
           ·rw [if_pos c117] at H
            have c117b0 : decide (t156 < 0) = true := decide_eq_true c117
            clear c117
            (first | rw [c117b0] | (simp only [i64_w, i32_w]; rw [c117b0]) | skip)
            have H' := Aside0.mk H
            clear H
            go_wp2
            go_meet
            case rel => exact ⟨_, (true), (by first | rfl | (simp; done) | (simp [*]; done)), H', ⟨by have := HJ20.out; first | omega | exact Nat.le_refl _⟩, ⟨by (with_reducible repeat (first | apply Kd.R_alloc | apply Kd.R_drewN | apply Kd.R_drew)); exact Kd.R_mono HO_9.out (fun _ hk => by grind)⟩, ⟨by (with_reducible repeat (first | apply Kd.R_alloc | apply Kd.R_drewN | apply Kd.R_drew)); exact Kd.R_mono HO_15.out (fun _ hk => by grind)⟩, ⟨by (with_reducible repeat (first | apply Kd.R_alloc | apply Kd.R_drewN | apply Kd.R_drew)); exact Kd.R_mono HO_120000.out (fun _ hk => by grind)⟩, ⟨by (with_reducible repeat (first | apply Kd.R_alloc | apply Kd.R_drewN | apply Kd.R_drew)); exact Kd.R_mono HO_124000.out (fun _ hk => by grind)⟩, ⟨by (with_reducible repeat (first | apply Kd.R_alloc | apply Kd.R_drewN | apply Kd.R_drew)); exact Kd.R_mono HO_138000.out (fun _ hk => by grind)⟩, ⟨by (with_reducible repeat (first | refine blk_drewN ?_ _ | refine blk_drew ?_ | refine blk_alloc ?_ _)); exact BK101.out⟩, ⟨by (with_reducible repeat (first | refine blk_drewN ?_ _ | refine blk_drew ?_ | refine blk_alloc ?_ _)); exact BK119.out⟩, ⟨by (with_reducible repeat (first | refine blk_drewN ?_ _ | refine blk_drew ?_ | refine blk_alloc ?_ _)); exact BK123.out⟩, ⟨by (with_reducible repeat (first | refine blk_drewN ?_ _ | refine blk_drew ?_ | refine blk_alloc ?_ _)); exact BK137.out⟩, ⟨gb_ HB.out⟩⟩
           ·rw [if_neg c117] at H
            have c117b0 : decide (t156 < 0) = false := decide_eq_false c117
            clear c117
            (first | rw [c117b0] | (simp only [i64_w, i32_w]; rw [c117b0]) | skip)
            replace H := Option.bind_eq_some_iff.mp H
            obtain ⟨t158, A1180, H⟩ := H
            replace H : (if t158 = true then ((laws_eqInt64S.f kj20 t133 t115).bind fun t159 => (if t159 = true then (laws_FnExactOrderPlaces.j1 kj20 l1 l2 t115 t118 t133 (t136 != t118) l0_0 t112 t130) else (laws_FnExactOrderPlaces.j1 kj20 l1 l2 t115 t118 t133 true l0_0 t112 t130))) else (laws_FnExactOrderPlaces.j1 kj20 l1 l2 t115 t118 t133 true l0_0 t112 t130)) = some r := H
            have A118 := Aside0.mk A1180
            clear A1180
            by_cases c119 : t158 = true
            ·subst c119
             have H1 : ((laws_eqInt64S.f kj20 t133 t115).bind fun t159 => (if t159 = true then (laws_FnExactOrderPlaces.j1 kj20 l1 l2 t115 t118 t133 (t136 != t118) l0_0 t112 t130) else (laws_FnExactOrderPlaces.j1 kj20 l1 l2 t115 t118 t133 true l0_0 t112 t130))) = some r := by rw [if_pos rfl] at H; exact H
             clear H
             have H := H1
             clear H1
             replace H := Option.bind_eq_some_iff.mp H
             obtain ⟨t159, A1200, H⟩ := H
             replace H : (if t159 = true then (laws_FnExactOrderPlaces.j1 kj20 l1 l2 t115 t118 t133 (t136 != t118) l0_0 t112 t130) else (laws_FnExactOrderPlaces.j1 kj20 l1 l2 t115 t118 t133 true l0_0 t112 t130)) = some r := H
             have A120 := Aside0.mk A1200
             clear A1200
             by_cases c121 : t159 = true
             ·subst c121
              have H1 : (laws_FnExactOrderPlaces.j1 kj20 l1 l2 t115 t118 t133 (t136 != t118) l0_0 t112 t130) = some r := by rw [if_pos rfl] at H; exact H
              clear H
              have H := H1
              clear H1
              have H' := Aside0.mk H
              clear H
              have hnb122 := NB137_101.out
              have hnc122 := NB101_137.out
              have hnb123 := NB137_119.out
              have hnc123 := NB119_137.out
              have hnb124 := NB137_123.out
              have hnc124 := NB123_137.out
              have hcz125_0 : w116.cell? ⟨gb137, 0, none⟩ = some (.slice Ao51 t130.length co51) := (blk_cell BK137.out 0).trans rfl
              have hfz125_0 := blk_frozen BK137.out 0
              have hnb126 := NB119_101.out
              have hnc126 := NB101_119.out
              have hnb127 := NB119_123.out
              have hnc127 := NB123_119.out
              have hcz128_0 : w116.cell? ⟨gb119, 0, none⟩ = some (.slice Ao34 t112.length co34) := (blk_cell BK119.out 0).trans rfl
              have hfz128_0 := blk_frozen BK119.out 0
              go_wp2_with (first | (go_at_call 14; (with_reducible refine (laws_eqSpace.calls kj20 _ _ t130 _ _ t112 true _ ?side1 ?side2 ?side3 ?side4 A118.out).mono ?_); (case side1 => exact c1_ HO_138000); (case side2 => exact (Kd.R_reads' HO_138000.out).2.1); (case side3 => exact c1_ HO_120000); (case side4 => exact (Kd.R_reads' HO_120000.out).2.1); rintro e w129 ⟨rfl, hb⟩; replace HO_9 := a1_ HO_9 hb; replace HO_12 := a1_ HO_12 hb; replace HO_13 := a1_ HO_13 hb; replace HO_15 := a1_ HO_15 hb; replace HO_120000 := a1_ HO_120000 hb; replace HO_124000 := a1_ HO_124000 hb; replace HO_138000 := a1_ HO_138000 hb; replace HO142 := a1_ HO142 hb; replace HO146 := a1_ HO146 hb; replace HO150 := a1_ HO150 hb; replace BK101 := a2_ BK101 hb; replace BK119 := a2_ BK119 hb; replace BK123 := a2_ BK123 hb; replace BK137 := a2_ BK137 hb; replace HB := Aside0.mk (below_step (gb_ HB.out) hb); (try clear hb); (try clear hb2); (try clear hk); (try clear hi); obtain ⟨Ao130, co130, eo130⟩ := Kd.R_slice HO_15.out; subst eo130; obtain ⟨Ao131, co131, eo131⟩ := Kd.R_slice HO_9.out; subst eo131) | (go_at_call 15; (with_reducible refine (laws_eqInt64S.calls kj20 _ _ t133 _ _ t115 true _ ?side1 ?side2 ?side3 ?side4 A120.out).mono ?_); (case side1 => exact c1_ HO_15); (case side2 => exact (Kd.R_reads' HO_15.out).2.1); (case side3 => exact c1_ HO_9); (case side4 => exact (Kd.R_reads' HO_9.out).2.1); rintro e w' ⟨rfl, ⟨nd, rfl⟩⟩))
              go_meet
              case rel => exact ⟨_, ((t136 != t118)), (by first | rfl | (simp; done) | (simp [*]; done)), H', ⟨by have := HJ20.out; first | omega | exact Nat.le_refl _⟩, ⟨by (with_reducible repeat (first | apply Kd.R_alloc | apply Kd.R_drewN | apply Kd.R_drew)); exact Kd.R_mono HO_9.out (fun _ hk => by grind)⟩, ⟨by (with_reducible repeat (first | apply Kd.R_alloc | apply Kd.R_drewN | apply Kd.R_drew)); exact Kd.R_mono HO_15.out (fun _ hk => by grind)⟩, ⟨by (with_reducible repeat (first | apply Kd.R_alloc | apply Kd.R_drewN | apply Kd.R_drew)); exact Kd.R_mono HO_120000.out (fun _ hk => by grind)⟩, ⟨by (with_reducible repeat (first | apply Kd.R_alloc | apply Kd.R_drewN | apply Kd.R_drew)); exact Kd.R_mono HO_124000.out (fun _ hk => by grind)⟩, ⟨by (with_reducible repeat (first | apply Kd.R_alloc | apply Kd.R_drewN | apply Kd.R_drew)); exact Kd.R_mono HO_138000.out (fun _ hk => by grind)⟩, ⟨by (with_reducible repeat (first | refine blk_drewN ?_ _ | refine blk_drew ?_ | refine blk_alloc ?_ _)); exact BK101.out⟩, ⟨by (with_reducible repeat (first | refine blk_drewN ?_ _ | refine blk_drew ?_ | refine blk_alloc ?_ _)); exact BK119.out⟩, ⟨by (with_reducible repeat (first | refine blk_drewN ?_ _ | refine blk_drew ?_ | refine blk_alloc ?_ _)); exact BK123.out⟩, ⟨by (with_reducible repeat (first | refine blk_drewN ?_ _ | refine blk_drew ?_ | refine blk_alloc ?_ _)); exact BK137.out⟩, ⟨gb_ HB.out⟩⟩
             ·replace c121 := Bool.eq_false_iff.mpr c121
              subst c121
              have H1 : (laws_FnExactOrderPlaces.j1 kj20 l1 l2 t115 t118 t133 true l0_0 t112 t130) = some r := by rw [if_neg (show ¬ (false = true) by decide)] at H; exact H
              clear H
              have H := H1
              clear H1
              have H' := Aside0.mk H
              clear H
              have hnb132 := NB137_101.out
              have hnc132 := NB101_137.out
              have hnb133 := NB137_119.out
              have hnc133 := NB119_137.out
              have hnb134 := NB137_123.out
              have hnc134 := NB123_137.out
              have hcz135_0 : w116.cell? ⟨gb137, 0, none⟩ = some (.slice Ao51 t130.length co51) := (blk_cell BK137.out 0).trans rfl
              have hfz135_0 := blk_frozen BK137.out 0
              have hnb136 := NB119_101.out
              have hnc136 := NB101_119.out
              have hnb137 := NB119_123.out
              have hnc137 := NB123_119.out
              have hcz138_0 : w116.cell? ⟨gb119, 0, none⟩ = some (.slice Ao34 t112.length co34) := (blk_cell BK119.out 0).trans rfl
              have hfz138_0 := blk_frozen BK119.out 0
              go_wp2_with (first | (go_at_call 14; (with_reducible refine (laws_eqSpace.calls kj20 _ _ t130 _ _ t112 true _ ?side1 ?side2 ?side3 ?side4 A118.out).mono ?_); (case side1 => exact c1_ HO_138000); (case side2 => exact (Kd.R_reads' HO_138000.out).2.1); (case side3 => exact c1_ HO_120000); (case side4 => exact (Kd.R_reads' HO_120000.out).2.1); rintro e w139 ⟨rfl, hb⟩; replace HO_9 := a1_ HO_9 hb; replace HO_12 := a1_ HO_12 hb; replace HO_13 := a1_ HO_13 hb; replace HO_15 := a1_ HO_15 hb; replace HO_120000 := a1_ HO_120000 hb; replace HO_124000 := a1_ HO_124000 hb; replace HO_138000 := a1_ HO_138000 hb; replace HO142 := a1_ HO142 hb; replace HO146 := a1_ HO146 hb; replace HO150 := a1_ HO150 hb; replace BK101 := a2_ BK101 hb; replace BK119 := a2_ BK119 hb; replace BK123 := a2_ BK123 hb; replace BK137 := a2_ BK137 hb; replace HB := Aside0.mk (below_step (gb_ HB.out) hb); (try clear hb); (try clear hb2); (try clear hk); (try clear hi); obtain ⟨Ao140, co140, eo140⟩ := Kd.R_slice HO_15.out; subst eo140; obtain ⟨Ao141, co141, eo141⟩ := Kd.R_slice HO_9.out; subst eo141) | (go_at_call 15; (with_reducible refine (laws_eqInt64S.calls kj20 _ _ t133 _ _ t115 false _ ?side1 ?side2 ?side3 ?side4 A120.out).mono ?_); (case side1 => exact c1_ HO_15); (case side2 => exact (Kd.R_reads' HO_15.out).2.1); (case side3 => exact c1_ HO_9); (case side4 => exact (Kd.R_reads' HO_9.out).2.1); rintro e w' ⟨rfl, ⟨nd, rfl⟩⟩))
              go_meet
              case rel => exact ⟨_, (true), (by first | rfl | (simp; done) | (simp [*]; done)), H', ⟨by have := HJ20.out; first | omega | exact Nat.le_refl _⟩, ⟨by (with_reducible repeat (first | apply Kd.R_alloc | apply Kd.R_drewN | apply Kd.R_drew)); exact Kd.R_mono HO_9.out (fun _ hk => by grind)⟩, ⟨by (with_reducible repeat (first | apply Kd.R_alloc | apply Kd.R_drewN | apply Kd.R_drew)); exact Kd.R_mono HO_15.out (fun _ hk => by grind)⟩, ⟨by (with_reducible repeat (first | apply Kd.R_alloc | apply Kd.R_drewN | apply Kd.R_drew)); exact Kd.R_mono HO_120000.out (fun _ hk => by grind)⟩, ⟨by (with_reducible repeat (first | apply Kd.R_alloc | apply Kd.R_drewN | apply Kd.R_drew)); exact Kd.R_mono HO_124000.out (fun _ hk => by grind)⟩, ⟨by (with_reducible repeat (first | apply Kd.R_alloc | apply Kd.R_drewN | apply Kd.R_drew)); exact Kd.R_mono HO_138000.out (fun _ hk => by grind)⟩, ⟨by (with_reducible repeat (first | refine blk_drewN ?_ _ | refine blk_drew ?_ | refine blk_alloc ?_ _)); exact BK101.out⟩, ⟨by (with_reducible repeat (first | refine blk_drewN ?_ _ | refine blk_drew ?_ | refine blk_alloc ?_ _)); exact BK119.out⟩, ⟨by (with_reducible repeat (first | refine blk_drewN ?_ _ | refine blk_drew ?_ | refine blk_alloc ?_ _)); exact BK123.out⟩, ⟨by (with_reducible repeat (first | refine blk_drewN ?_ _ | refine blk_drew ?_ | refine blk_alloc ?_ _)); exact BK137.out⟩, ⟨gb_ HB.out⟩⟩
            ·replace c119 := Bool.eq_false_iff.mpr c119
             subst c119
             have H1 : (laws_FnExactOrderPlaces.j1 kj20 l1 l2 t115 t118 t133 true l0_0 t112 t130) = some r := by rw [if_neg (show ¬ (false = true) by decide)] at H; exact H
             clear H
             have H := H1
             clear H1
             have H' := Aside0.mk H
             clear H
             have hnb142 := NB137_101.out
             have hnc142 := NB101_137.out
             have hnb143 := NB137_119.out
             have hnc143 := NB119_137.out
             have hnb144 := NB137_123.out
             have hnc144 := NB123_137.out
             have hcz145_0 : w116.cell? ⟨gb137, 0, none⟩ = some (.slice Ao51 t130.length co51) := (blk_cell BK137.out 0).trans rfl
             have hfz145_0 := blk_frozen BK137.out 0
             have hnb146 := NB119_101.out
             have hnc146 := NB101_119.out
             have hnb147 := NB119_123.out
             have hnc147 := NB123_119.out
             have hcz148_0 : w116.cell? ⟨gb119, 0, none⟩ = some (.slice Ao34 t112.length co34) := (blk_cell BK119.out 0).trans rfl
             have hfz148_0 := blk_frozen BK119.out 0
             go_wp2_with (first | (go_at_call 14; (with_reducible refine (laws_eqSpace.calls kj20 _ _ t130 _ _ t112 false _ ?side1 ?side2 ?side3 ?side4 A118.out).mono ?_); (case side1 => exact c1_ HO_138000); (case side2 => exact (Kd.R_reads' HO_138000.out).2.1); (case side3 => exact c1_ HO_120000); (case side4 => exact (Kd.R_reads' HO_120000.out).2.1); rintro e w149 ⟨rfl, hb⟩; replace HO_9 := a1_ HO_9 hb; replace HO_12 := a1_ HO_12 hb; replace HO_13 := a1_ HO_13 hb; replace HO_15 := a1_ HO_15 hb; replace HO_120000 := a1_ HO_120000 hb; replace HO_124000 := a1_ HO_124000 hb; replace HO_138000 := a1_ HO_138000 hb; replace HO142 := a1_ HO142 hb; replace HO146 := a1_ HO146 hb; replace HO150 := a1_ HO150 hb; replace BK101 := a2_ BK101 hb; replace BK119 := a2_ BK119 hb; replace BK123 := a2_ BK123 hb; replace BK137 := a2_ BK137 hb; replace HB := Aside0.mk (below_step (gb_ HB.out) hb); (try clear hb); (try clear hb2); (try clear hk); (try clear hi)))
             go_meet
             case rel => exact ⟨_, (true), (by first | rfl | (simp; done) | (simp [*]; done)), H', ⟨by have := HJ20.out; first | omega | exact Nat.le_refl _⟩, ⟨by (with_reducible repeat (first | apply Kd.R_alloc | apply Kd.R_drewN | apply Kd.R_drew)); exact Kd.R_mono HO_9.out (fun _ hk => by grind)⟩, ⟨by (with_reducible repeat (first | apply Kd.R_alloc | apply Kd.R_drewN | apply Kd.R_drew)); exact Kd.R_mono HO_15.out (fun _ hk => by grind)⟩, ⟨by (with_reducible repeat (first | apply Kd.R_alloc | apply Kd.R_drewN | apply Kd.R_drew)); exact Kd.R_mono HO_120000.out (fun _ hk => by grind)⟩, ⟨by (with_reducible repeat (first | apply Kd.R_alloc | apply Kd.R_drewN | apply Kd.R_drew)); exact Kd.R_mono HO_124000.out (fun _ hk => by grind)⟩, ⟨by (with_reducible repeat (first | apply Kd.R_alloc | apply Kd.R_drewN | apply Kd.R_drew)); exact Kd.R_mono HO_138000.out (fun _ hk => by grind)⟩, ⟨by (with_reducible repeat (first | refine blk_drewN ?_ _ | refine blk_drew ?_ | refine blk_alloc ?_ _)); exact BK101.out⟩, ⟨by (with_reducible repeat (first | refine blk_drewN ?_ _ | refine blk_drew ?_ | refine blk_alloc ?_ _)); exact BK119.out⟩, ⟨by (with_reducible repeat (first | refine blk_drewN ?_ _ | refine blk_drew ?_ | refine blk_alloc ?_ _)); exact BK123.out⟩, ⟨by (with_reducible repeat (first | refine blk_drewN ?_ _ | refine blk_drew ?_ | refine blk_alloc ?_ _)); exact BK137.out⟩, ⟨gb_ HB.out⟩⟩
          case rest =>
           clear HC101
           try clear c1
           try clear c2
           try clear p2
           try clear c3
           try clear c4
           try clear c4b0
           try clear c4b1
           try clear c5
           try clear c6
           try clear c6b0
           try clear c6b1
           try clear c7
           try clear c8
           try clear c9
           try clear c9b0
           try clear c11
           try clear c12
           try clear c13
           try clear c14
           try clear c15
           try clear c16
           try clear c17
           try clear c22
           try clear c23
           try clear c35
           try clear c41
           try clear c42
           try clear c52
           try clear c53
           try clear c54
           try clear c57
           try clear c59
           try clear c60
           try clear c61
           try clear c62
           try clear c64
           try clear c65
           try clear c70
           try clear c71
           try clear c72
           try clear c74
           try clear c75
           try clear c80
           try clear c81
           try clear c82
           try clear c84
           try clear c85
           try clear c88
           try clear c91
           try clear c94
           try clear c97
           try clear c110
           try clear c111
           try clear c112
           try clear c117
           try clear c117b0
           try clear c119
           try clear c121
           try clear c122
           try clear c123
           try clear c124
           try clear c126
           try clear c127
           try clear c132
           try clear c133
           try clear c134
           try clear c136
           try clear c137
           try clear c142
           try clear c143
           try clear c144
           try clear c146
           try clear c147
           try clear hcz113_0
           try clear hcz11_0
           try clear hcz125_0
           try clear hcz128_0
           try clear hcz135_0
           try clear hcz138_0
           try clear hcz145_0
           try clear hcz148_0
           try clear hcz23_0
           try clear hcz25_0
           try clear hcz36_0
           try clear hcz37_0
           try clear hcz43_0
           try clear hcz46_0
           try clear hcz55_0
           try clear hcz63_0
           try clear hcz66_0
           try clear hcz73_0
           try clear hcz76_0
           try clear hcz83_0
           try clear hcz86_0
           try clear hfz113_0
           try clear hfz11_0
           try clear hfz125_0
           try clear hfz128_0
           try clear hfz135_0
           try clear hfz138_0
           try clear hfz145_0
           try clear hfz148_0
           try clear hfz23_0
           try clear hfz25_0
           try clear hfz36_0
           try clear hfz37_0
           try clear hfz43_0
           try clear hfz46_0
           try clear hfz55_0
           try clear hfz63_0
           try clear hfz66_0
           try clear hfz73_0
           try clear hfz76_0
           try clear hfz83_0
           try clear hfz86_0
           try clear p2
           obtain ⟨kq, x116_100, rfl, HA, HJ100, HO_9, HO_15, HO_120000, HO_124000, HO_138000, BK101, BK119, BK123, BK137, HB⟩ := hcut
           have hl124000_100 := (Kd.R_reads' HO_124000.out).1
           rw [hl124000_100] at HO_124000
           (try simp only [hl124000_100])
           (try simp only [hl124000_100] at BK101)
           (try simp only [hl124000_100] at BK119)
           (try simp only [hl124000_100] at BK123)
           (try simp only [hl124000_100] at BK137)
           (try simp only [hl124000_100] at HO_9)
           (try simp only [hl124000_100] at HO_15)
           (try simp only [hl124000_100] at HO_120000)
           (try simp only [hl124000_100] at HO_138000)
           cases kq with
           | zero => exact absurd HA.out (by simp [laws_FnExactOrderPlaces.j1])
           | succ kj100 =>
            have H := HA.out
            clear HA
            simp only [laws_FnExactOrderPlaces.j1] at H
            by_cases c150 : x116_100 = true
            ·subst c150
             have H1 : (some false) = some r := by rw [if_pos rfl] at H; exact H
             clear H
             have H := H1
             clear H1
             obtain rfl := Option.some.inj H
             go_wp2
             go_ret
             exact ⟨by first | rfl | (simp [errW_none, errW_some] <;> rfl) | (simp [*, errW_none, errW_some] <;> rfl), gb_ HB.out⟩
            ·replace c150 := Bool.eq_false_iff.mpr c150
             subst c150
             have H1 : ((laws_markSpace.f kj100 t130 1).bind fun bt160 => ((laws_markInt64S.f kj100 t133 bt160.1).bind fun bt162 => ((laws_heldSpace.f kj100 bt160.2 1).bind fun t164 => (if t164 < 0 then (some false) else ((laws_heldInt64S.f kj100 bt162.2 t164).bind fun t165 => (if t165 < 0 then (some false) else (if t165 = bt162.1 then ((laws_toSpace.f kj100 l0_0).bind fun t166 => ((laws_toInt64S.f kj100 l1).bind fun t169 => ((laws_toInt64S.f kj100 l2).bind fun t172 => ((impl_OrderPlaces.f t166 t169 t172).bind fun bt175 => ((laws_eqSpace.f kj100 bt175.1 t112).bind fun t183 => (if t183 = true then ((laws_eqInt64S.f kj100 bt175.2.1 t115).bind fun t184 => (if t184 = true then (laws_FnExactOrderPlaces.j2 kj100 bt162.2 bt162.1 (bt175.2.2 != t118) bt160.2) else (laws_FnExactOrderPlaces.j2 kj100 bt162.2 bt162.1 true bt160.2))) else (laws_FnExactOrderPlaces.j2 kj100 bt162.2 bt162.1 true bt160.2))))))) else (some false)))))))) = some r := by rw [if_neg (show ¬ (false = true) by decide)] at H; exact H
             clear H
             have H := H1
             clear H1
             replace H := Option.bind_eq_some_iff.mp H
             obtain ⟨⟨t160, t161⟩, A1510, H⟩ := H
             replace H : ((laws_markInt64S.f kj100 t133 t160).bind fun bt162 => ((laws_heldSpace.f kj100 t161 1).bind fun t164 => (if t164 < 0 then (some false) else ((laws_heldInt64S.f kj100 bt162.2 t164).bind fun t165 => (if t165 < 0 then (some false) else (if t165 = bt162.1 then ((laws_toSpace.f kj100 l0_0).bind fun t166 => ((laws_toInt64S.f kj100 l1).bind fun t169 => ((laws_toInt64S.f kj100 l2).bind fun t172 => ((impl_OrderPlaces.f t166 t169 t172).bind fun bt175 => ((laws_eqSpace.f kj100 bt175.1 t112).bind fun t183 => (if t183 = true then ((laws_eqInt64S.f kj100 bt175.2.1 t115).bind fun t184 => (if t184 = true then (laws_FnExactOrderPlaces.j2 kj100 bt162.2 bt162.1 (bt175.2.2 != t118) t161) else (laws_FnExactOrderPlaces.j2 kj100 bt162.2 bt162.1 true t161))) else (laws_FnExactOrderPlaces.j2 kj100 bt162.2 bt162.1 true t161))))))) else (some false))))))) = some r := H
             have A151 := Aside0.mk A1510
             clear A1510
             replace H := Option.bind_eq_some_iff.mp H
             obtain ⟨⟨t162, t163⟩, A1520, H⟩ := H
             replace H : ((laws_heldSpace.f kj100 t161 1).bind fun t164 => (if t164 < 0 then (some false) else ((laws_heldInt64S.f kj100 t163 t164).bind fun t165 => (if t165 < 0 then (some false) else (if t165 = t162 then ((laws_toSpace.f kj100 l0_0).bind fun t166 => ((laws_toInt64S.f kj100 l1).bind fun t169 => ((laws_toInt64S.f kj100 l2).bind fun t172 => ((impl_OrderPlaces.f t166 t169 t172).bind fun bt175 => ((laws_eqSpace.f kj100 bt175.1 t112).bind fun t183 => (if t183 = true then ((laws_eqInt64S.f kj100 bt175.2.1 t115).bind fun t184 => (if t184 = true then (laws_FnExactOrderPlaces.j2 kj100 t163 t162 (bt175.2.2 != t118) t161) else (laws_FnExactOrderPlaces.j2 kj100 t163 t162 true t161))) else (laws_FnExactOrderPlaces.j2 kj100 t163 t162 true t161))))))) else (some false)))))) = some r := H
             have A152 := Aside0.mk A1520
             clear A1520
             replace H := Option.bind_eq_some_iff.mp H
             obtain ⟨t164, A1530, H⟩ := H
             replace H : (if t164 < 0 then (some false) else ((laws_heldInt64S.f kj100 t163 t164).bind fun t165 => (if t165 < 0 then (some false) else (if t165 = t162 then ((laws_toSpace.f kj100 l0_0).bind fun t166 => ((laws_toInt64S.f kj100 l1).bind fun t169 => ((laws_toInt64S.f kj100 l2).bind fun t172 => ((impl_OrderPlaces.f t166 t169 t172).bind fun bt175 => ((laws_eqSpace.f kj100 bt175.1 t112).bind fun t183 => (if t183 = true then ((laws_eqInt64S.f kj100 bt175.2.1 t115).bind fun t184 => (if t184 = true then (laws_FnExactOrderPlaces.j2 kj100 t163 t162 (bt175.2.2 != t118) t161) else (laws_FnExactOrderPlaces.j2 kj100 t163 t162 true t161))) else (laws_FnExactOrderPlaces.j2 kj100 t163 t162 true t161))))))) else (some false))))) = some r := H
             have A153 := Aside0.mk A1530
             clear A1530
             by_cases c154 : t164 < 0
             ·rw [if_pos c154] at H
              have c154b0 : decide (t164 < 0) = true := decide_eq_true c154
              clear c154
              obtain rfl := Option.some.inj H
              have hnb155 := NB137_101.out
              have hnc155 := NB101_137.out
              have hnb156 := NB137_119.out
              have hnc156 := NB119_137.out
              have hnb157 := NB137_123.out
              have hnc157 := NB123_137.out
              have hcz158_0 : wc.cell? ⟨gb137, 0, none⟩ = some (.slice Ao51 t130.length co51) := (blk_cell BK137.out 0).trans rfl
              have hfz158_0 := blk_frozen BK137.out 0
              go_wp2_with (first | ((with_reducible refine gate_callee (f := 16) rfl ?_); refine goesL_ (some 119) rfl rfl Try.func16 (by kernel_rfl) rfl #[.agg #[.slice Ao51 t130.length co51], .int .i64 1] rfl (by (try simp only [List.map_toArray, List.map_cons, List.map_nil]); first | done | rfl | (simp only [List.length_drop, List.length_take]; rfl)) ?_; (with_reducible refine (laws_markSpace.calls kj100 (fun k_ => some k_ = (.slice Ao51 t130.length co51 : Value).ownBlock) (.slice Ao51 t130.length co51) t130 1 t160 t161 w _ ?side1 ?side2 A151.out).mono ?_); (case side1 => exact gb_ HB.out); (case side2 => exact Kd.R_tight rfl HO_138000.out); rintro e w159 ⟨rfl, hy0, hb, hkp⟩; refine ⟨_, rfl, ?_⟩; replace HO_9 := Aside0.mk (Kd.R_mono (ok' := fun k_ => OB_ k_ v134 ∧ OB_ k_ (.slice Ao34 t112.length co34) ∧ OB_ k_ (.slice Ao40 t153.length co40) ∧ OB_ k_ (.slice Ao51 t130.length co51)) (Kd.R_keptB (HO_9.out) hkp (fun k_ hk_ hs_ => (hk_.2.2.2) hs_)) (fun k_ hk_ => ⟨hk_.1.1, hk_.1.2.1, hk_.1.2.2.1, hk_.1.2.2.2⟩)); replace HO_15 := Aside0.mk (Kd.R_mono (ok' := fun k_ => OB_ k_ v116 ∧ OB_ k_ (.slice Ao34 t112.length co34) ∧ OB_ k_ (.slice Ao40 t153.length co40) ∧ OB_ k_ (.slice Ao51 t130.length co51)) (Kd.R_keptB (HO_15.out) hkp (fun k_ hk_ hs_ => (hk_.2.2.2) hs_)) (fun k_ hk_ => ⟨hk_.1.1, hk_.1.2.1, hk_.1.2.2.1, hk_.1.2.2.2⟩)); replace HO_120000 := Aside0.mk (Kd.R_mono (ok' := fun k_ => OB_ k_ v116 ∧ OB_ k_ v134 ∧ OB_ k_ (.slice Ao40 t153.length co40) ∧ OB_ k_ (.slice Ao51 t130.length co51)) (Kd.R_keptB (HO_120000.out) hkp (fun k_ hk_ hs_ => (hk_.2.2.2) hs_)) (fun k_ hk_ => ⟨hk_.1.1, hk_.1.2.1, hk_.1.2.2.1, hk_.1.2.2.2⟩)); replace HO_124000 := Aside0.mk (Kd.R_mono (ok' := fun k_ => OB_ k_ v116 ∧ OB_ k_ v134 ∧ OB_ k_ (.slice Ao34 t112.length co34) ∧ OB_ k_ (.slice Ao51 t130.length co51)) (Kd.R_keptB (HO_124000.out) hkp (fun k_ hk_ hs_ => (hk_.2.2.2) hs_)) (fun k_ hk_ => ⟨hk_.1.1, hk_.1.2.1, hk_.1.2.2.1, hk_.1.2.2.2⟩)); replace BK101 := a7_ BK101 hkp HO_138000; replace BK119 := a7_ BK119 hkp HO_138000; replace BK123 := a7_ BK123 hkp HO_138000; replace BK137 := a7_ BK137 hkp HO_138000; replace HO_138000 := Aside0.mk (Kd.R_reok rfl hy0 (fun k_ e_ => HO_138000.out.1 k_ e_)); replace HB := Aside0.mk (hb); (try clear hb); (try clear hkp); (try clear hy0); obtain ⟨Ao160, co160, eo160⟩ := Kd.R_slice HO_15.out; subst eo160) | ((with_reducible refine gate_callee (f := 17) rfl ?_); refine goesL_ (some 122) rfl rfl Try.func17 (by kernel_rfl) rfl #[.slice Ao160 t133.length co160, .int .i64 t160] rfl (by (try simp only [List.map_toArray, List.map_cons, List.map_nil]); first | done | rfl | (simp only [List.length_drop, List.length_take]; rfl)) ?_; (with_reducible refine (laws_markInt64S.calls kj100 (fun k_ => some k_ = (.slice Ao160 t133.length co160 : Value).ownBlock) (.slice Ao160 t133.length co160) t133 t160 t162 t163 w _ ?side1 ?side2 A152.out).mono ?_); (case side1 => exact gb_ HB.out); (case side2 => exact Kd.R_tight rfl HO_15.out); rintro e w161 ⟨rfl, hy0, hb, hkp⟩; refine ⟨_, rfl, ?_⟩; replace HO_9 := Aside0.mk (Kd.R_mono (ok' := fun k_ => OB_ k_ (.slice Ao160 t133.length co160) ∧ OB_ k_ (.slice Ao34 t112.length co34) ∧ OB_ k_ (.slice Ao40 t153.length co40) ∧ OB_ k_ (.slice Ao51 t130.length co51)) (Kd.R_keptB (HO_9.out) hkp (fun k_ hk_ hs_ => (hk_.1) hs_)) (fun k_ hk_ => ⟨hk_.1.1, hk_.1.2.1, hk_.1.2.2.1, hk_.1.2.2.2⟩)); replace HO_120000 := Aside0.mk (Kd.R_mono (ok' := fun k_ => OB_ k_ v116 ∧ OB_ k_ (.slice Ao160 t133.length co160) ∧ OB_ k_ (.slice Ao40 t153.length co40) ∧ OB_ k_ (.slice Ao51 t130.length co51)) (Kd.R_keptB (HO_120000.out) hkp (fun k_ hk_ hs_ => (hk_.2.1) hs_)) (fun k_ hk_ => ⟨hk_.1.1, hk_.1.2.1, hk_.1.2.2.1, hk_.1.2.2.2⟩)); replace HO_124000 := Aside0.mk (Kd.R_mono (ok' := fun k_ => OB_ k_ v116 ∧ OB_ k_ (.slice Ao160 t133.length co160) ∧ OB_ k_ (.slice Ao34 t112.length co34) ∧ OB_ k_ (.slice Ao51 t130.length co51)) (Kd.R_keptB (HO_124000.out) hkp (fun k_ hk_ hs_ => (hk_.2.1) hs_)) (fun k_ hk_ => ⟨hk_.1.1, hk_.1.2.1, hk_.1.2.2.1, hk_.1.2.2.2⟩)); replace HO_138000 := Aside0.mk (Kd.R_mono (ok' := fun k_ => OB_ k_ v116 ∧ OB_ k_ (.slice Ao160 t133.length co160) ∧ OB_ k_ (.slice Ao34 t112.length co34) ∧ OB_ k_ (.slice Ao40 t153.length co40)) (Kd.R_keptB (HO_138000.out) hkp (fun k_ hk_ hs_ => (hk_.2.1) hs_)) (fun k_ hk_ => ⟨hk_.1.1, hk_.1.2.1, hk_.1.2.2.1, hk_.1.2.2.2⟩)); replace BK101 := a7_ BK101 hkp HO_15; replace BK119 := a7_ BK119 hkp HO_15; replace BK123 := a7_ BK123 hkp HO_15; replace BK137 := a7_ BK137 hkp HO_15; replace HO_15 := Aside0.mk (Kd.R_reok rfl hy0 (fun k_ e_ => HO_15.out.1 k_ e_)); replace HB := Aside0.mk (hb); (try clear hb); (try clear hkp); (try clear hy0); have hcz162_0 : w161.cell? ⟨gb137, 0, none⟩ = some (.slice Ao51 t130.length co51) := (blk_cell BK137.out 0).trans rfl; have hfz162_0 := blk_frozen BK137.out 0) | ((with_reducible refine gate_callee (f := 18) rfl ?_); refine goesL_ (some 125) rfl rfl Try.func18 (by kernel_rfl) rfl #[.agg #[.slice Ao51 t161.length co51], .int .i64 1] rfl (by (try simp only [List.map_toArray, List.map_cons, List.map_nil]); first | done | (rw [show t161.length = t130.length from (Kd.R_reads' HO_138000.out).1.symm] <;> rfl) | rfl | (simp only [List.length_drop, List.length_take]; rfl)) ?_; (with_reducible refine (laws_heldSpace.calls kj100 _ _ t161 1 t164 _ ?side1 ?side2 A153.out).mono ?_); (case side1 => exact c1_ HO_138000); (case side2 => rw [show t161.length = t130.length from (Kd.R_reads' HO_138000.out).1.symm]; exact (Kd.R_reads' HO_138000.out).2.1); rintro e w163 ⟨rfl, hb⟩; refine ⟨_, rfl, ?_⟩; replace HO_9 := a1_ HO_9 hb; replace HO_15 := a1_ HO_15 hb; replace HO_120000 := a1_ HO_120000 hb; replace HO_124000 := a1_ HO_124000 hb; replace HO_138000 := a1_ HO_138000 hb; replace BK101 := a2_ BK101 hb; replace BK119 := a2_ BK119 hb; replace BK123 := a2_ BK123 hb; replace BK137 := a2_ BK137 hb; replace HB := Aside0.mk (below_step (gb_ HB.out) hb); (try clear hb); (try clear hb2); (try clear hk); (try clear hi)))
              go_ret
              exact ⟨by first | rfl | (simp [errW_none, errW_some] <;> rfl) | (simp [*, errW_none, errW_some] <;> rfl), gb_ HB.out⟩
             ·rw [if_neg c154] at H
              have c154b0 : decide (t164 < 0) = false := decide_eq_false c154
              clear c154
              replace H := Option.bind_eq_some_iff.mp H
              obtain ⟨t165, A1640, H⟩ := H
              replace H : (if t165 < 0 then (some false) else (if t165 = t162 then ((laws_toSpace.f kj100 l0_0).bind fun t166 => ((laws_toInt64S.f kj100 l1).bind fun t169 => ((laws_toInt64S.f kj100 l2).bind fun t172 => ((impl_OrderPlaces.f t166 t169 t172).bind fun bt175 => ((laws_eqSpace.f kj100 bt175.1 t112).bind fun t183 => (if t183 = true then ((laws_eqInt64S.f kj100 bt175.2.1 t115).bind fun t184 => (if t184 = true then (laws_FnExactOrderPlaces.j2 kj100 t163 t162 (bt175.2.2 != t118) t161) else (laws_FnExactOrderPlaces.j2 kj100 t163 t162 true t161))) else (laws_FnExactOrderPlaces.j2 kj100 t163 t162 true t161))))))) else (some false))) = some r := H
              have A164 := Aside0.mk A1640
              clear A1640
              by_cases c165 : t165 < 0
              ·rw [if_pos c165] at H
               have c165b0 : decide (t165 < 0) = true := decide_eq_true c165
               clear c165
               obtain rfl := Option.some.inj H
               have hnb166 := NB137_101.out
               have hnc166 := NB101_137.out
               have hnb167 := NB137_119.out
               have hnc167 := NB119_137.out
               have hnb168 := NB137_123.out
               have hnc168 := NB123_137.out
               have hcz169_0 : wc.cell? ⟨gb137, 0, none⟩ = some (.slice Ao51 t130.length co51) := (blk_cell BK137.out 0).trans rfl
               have hfz169_0 := blk_frozen BK137.out 0
               go_wp2_with (first | ((with_reducible refine gate_callee (f := 16) rfl ?_); refine goesL_ (some 119) rfl rfl Try.func16 (by kernel_rfl) rfl #[.agg #[.slice Ao51 t130.length co51], .int .i64 1] rfl (by (try simp only [List.map_toArray, List.map_cons, List.map_nil]); first | done | rfl | (simp only [List.length_drop, List.length_take]; rfl)) ?_; (with_reducible refine (laws_markSpace.calls kj100 (fun k_ => some k_ = (.slice Ao51 t130.length co51 : Value).ownBlock) (.slice Ao51 t130.length co51) t130 1 t160 t161 w _ ?side1 ?side2 A151.out).mono ?_); (case side1 => exact gb_ HB.out); (case side2 => exact Kd.R_tight rfl HO_138000.out); rintro e w170 ⟨rfl, hy0, hb, hkp⟩; refine ⟨_, rfl, ?_⟩; replace HO_9 := Aside0.mk (Kd.R_mono (ok' := fun k_ => OB_ k_ v134 ∧ OB_ k_ (.slice Ao34 t112.length co34) ∧ OB_ k_ (.slice Ao40 t153.length co40) ∧ OB_ k_ (.slice Ao51 t130.length co51)) (Kd.R_keptB (HO_9.out) hkp (fun k_ hk_ hs_ => (hk_.2.2.2) hs_)) (fun k_ hk_ => ⟨hk_.1.1, hk_.1.2.1, hk_.1.2.2.1, hk_.1.2.2.2⟩)); replace HO_15 := Aside0.mk (Kd.R_mono (ok' := fun k_ => OB_ k_ v116 ∧ OB_ k_ (.slice Ao34 t112.length co34) ∧ OB_ k_ (.slice Ao40 t153.length co40) ∧ OB_ k_ (.slice Ao51 t130.length co51)) (Kd.R_keptB (HO_15.out) hkp (fun k_ hk_ hs_ => (hk_.2.2.2) hs_)) (fun k_ hk_ => ⟨hk_.1.1, hk_.1.2.1, hk_.1.2.2.1, hk_.1.2.2.2⟩)); replace HO_120000 := Aside0.mk (Kd.R_mono (ok' := fun k_ => OB_ k_ v116 ∧ OB_ k_ v134 ∧ OB_ k_ (.slice Ao40 t153.length co40) ∧ OB_ k_ (.slice Ao51 t130.length co51)) (Kd.R_keptB (HO_120000.out) hkp (fun k_ hk_ hs_ => (hk_.2.2.2) hs_)) (fun k_ hk_ => ⟨hk_.1.1, hk_.1.2.1, hk_.1.2.2.1, hk_.1.2.2.2⟩)); replace HO_124000 := Aside0.mk (Kd.R_mono (ok' := fun k_ => OB_ k_ v116 ∧ OB_ k_ v134 ∧ OB_ k_ (.slice Ao34 t112.length co34) ∧ OB_ k_ (.slice Ao51 t130.length co51)) (Kd.R_keptB (HO_124000.out) hkp (fun k_ hk_ hs_ => (hk_.2.2.2) hs_)) (fun k_ hk_ => ⟨hk_.1.1, hk_.1.2.1, hk_.1.2.2.1, hk_.1.2.2.2⟩)); replace BK101 := a7_ BK101 hkp HO_138000; replace BK119 := a7_ BK119 hkp HO_138000; replace BK123 := a7_ BK123 hkp HO_138000; replace BK137 := a7_ BK137 hkp HO_138000; replace HO_138000 := Aside0.mk (Kd.R_reok rfl hy0 (fun k_ e_ => HO_138000.out.1 k_ e_)); replace HB := Aside0.mk (hb); (try clear hb); (try clear hkp); (try clear hy0); obtain ⟨Ao171, co171, eo171⟩ := Kd.R_slice HO_15.out; subst eo171) | ((with_reducible refine gate_callee (f := 17) rfl ?_); refine goesL_ (some 122) rfl rfl Try.func17 (by kernel_rfl) rfl #[.slice Ao171 t133.length co171, .int .i64 t160] rfl (by (try simp only [List.map_toArray, List.map_cons, List.map_nil]); first | done | rfl | (simp only [List.length_drop, List.length_take]; rfl)) ?_; (with_reducible refine (laws_markInt64S.calls kj100 (fun k_ => some k_ = (.slice Ao171 t133.length co171 : Value).ownBlock) (.slice Ao171 t133.length co171) t133 t160 t162 t163 w _ ?side1 ?side2 A152.out).mono ?_); (case side1 => exact gb_ HB.out); (case side2 => exact Kd.R_tight rfl HO_15.out); rintro e w172 ⟨rfl, hy0, hb, hkp⟩; refine ⟨_, rfl, ?_⟩; replace HO_9 := Aside0.mk (Kd.R_mono (ok' := fun k_ => OB_ k_ (.slice Ao171 t133.length co171) ∧ OB_ k_ (.slice Ao34 t112.length co34) ∧ OB_ k_ (.slice Ao40 t153.length co40) ∧ OB_ k_ (.slice Ao51 t130.length co51)) (Kd.R_keptB (HO_9.out) hkp (fun k_ hk_ hs_ => (hk_.1) hs_)) (fun k_ hk_ => ⟨hk_.1.1, hk_.1.2.1, hk_.1.2.2.1, hk_.1.2.2.2⟩)); replace HO_120000 := Aside0.mk (Kd.R_mono (ok' := fun k_ => OB_ k_ v116 ∧ OB_ k_ (.slice Ao171 t133.length co171) ∧ OB_ k_ (.slice Ao40 t153.length co40) ∧ OB_ k_ (.slice Ao51 t130.length co51)) (Kd.R_keptB (HO_120000.out) hkp (fun k_ hk_ hs_ => (hk_.2.1) hs_)) (fun k_ hk_ => ⟨hk_.1.1, hk_.1.2.1, hk_.1.2.2.1, hk_.1.2.2.2⟩)); replace HO_124000 := Aside0.mk (Kd.R_mono (ok' := fun k_ => OB_ k_ v116 ∧ OB_ k_ (.slice Ao171 t133.length co171) ∧ OB_ k_ (.slice Ao34 t112.length co34) ∧ OB_ k_ (.slice Ao51 t130.length co51)) (Kd.R_keptB (HO_124000.out) hkp (fun k_ hk_ hs_ => (hk_.2.1) hs_)) (fun k_ hk_ => ⟨hk_.1.1, hk_.1.2.1, hk_.1.2.2.1, hk_.1.2.2.2⟩)); replace HO_138000 := Aside0.mk (Kd.R_mono (ok' := fun k_ => OB_ k_ v116 ∧ OB_ k_ (.slice Ao171 t133.length co171) ∧ OB_ k_ (.slice Ao34 t112.length co34) ∧ OB_ k_ (.slice Ao40 t153.length co40)) (Kd.R_keptB (HO_138000.out) hkp (fun k_ hk_ hs_ => (hk_.2.1) hs_)) (fun k_ hk_ => ⟨hk_.1.1, hk_.1.2.1, hk_.1.2.2.1, hk_.1.2.2.2⟩)); replace BK101 := a7_ BK101 hkp HO_15; replace BK119 := a7_ BK119 hkp HO_15; replace BK123 := a7_ BK123 hkp HO_15; replace BK137 := a7_ BK137 hkp HO_15; replace HO_15 := Aside0.mk (Kd.R_reok rfl hy0 (fun k_ e_ => HO_15.out.1 k_ e_)); replace HB := Aside0.mk (hb); (try clear hb); (try clear hkp); (try clear hy0); have hcz173_0 : w172.cell? ⟨gb137, 0, none⟩ = some (.slice Ao51 t130.length co51) := (blk_cell BK137.out 0).trans rfl; have hfz173_0 := blk_frozen BK137.out 0) | ((with_reducible refine gate_callee (f := 18) rfl ?_); refine goesL_ (some 125) rfl rfl Try.func18 (by kernel_rfl) rfl #[.agg #[.slice Ao51 t161.length co51], .int .i64 1] rfl (by (try simp only [List.map_toArray, List.map_cons, List.map_nil]); first | done | (rw [show t161.length = t130.length from (Kd.R_reads' HO_138000.out).1.symm] <;> rfl) | rfl | (simp only [List.length_drop, List.length_take]; rfl)) ?_; (with_reducible refine (laws_heldSpace.calls kj100 _ _ t161 1 t164 _ ?side1 ?side2 A153.out).mono ?_); (case side1 => exact c1_ HO_138000); (case side2 => rw [show t161.length = t130.length from (Kd.R_reads' HO_138000.out).1.symm]; exact (Kd.R_reads' HO_138000.out).2.1); rintro e w174 ⟨rfl, hb⟩; refine ⟨_, rfl, ?_⟩; replace HO_9 := a1_ HO_9 hb; replace HO_15 := a1_ HO_15 hb; replace HO_120000 := a1_ HO_120000 hb; replace HO_124000 := a1_ HO_124000 hb; replace HO_138000 := a1_ HO_138000 hb; replace BK101 := a2_ BK101 hb; replace BK119 := a2_ BK119 hb; replace BK123 := a2_ BK123 hb; replace BK137 := a2_ BK137 hb; replace HB := Aside0.mk (below_step (gb_ HB.out) hb); (try clear hb); (try clear hb2); (try clear hk); (try clear hi)) | ((with_reducible refine gate_callee (f := 19) rfl ?_); refine goesL_ (some 130) rfl rfl Try.func19 (by kernel_rfl) rfl #[.slice Ao171 t163.length co171, .int .i64 t164] rfl (by (try simp only [List.map_toArray, List.map_cons, List.map_nil]); first | done | (rw [show t163.length = t133.length from (Kd.R_reads' HO_15.out).1.symm] <;> rfl) | rfl | (simp only [List.length_drop, List.length_take]; rfl)) ?_; (with_reducible refine (laws_heldInt64S.calls kj100 _ _ t163 t164 t165 _ ?side1 ?side2 A164.out).mono ?_); (case side1 => exact c1_ HO_15); (case side2 => rw [show t163.length = t133.length from (Kd.R_reads' HO_15.out).1.symm]; exact (Kd.R_reads' HO_15.out).2.1); rintro e w' ⟨rfl, ⟨nd, rfl⟩⟩; refine ⟨_, rfl, ?_⟩))
               go_ret
               exact ⟨by first | rfl | (simp [errW_none, errW_some] <;> rfl) | (simp [*, errW_none, errW_some] <;> rfl), gb_ HB.out⟩
              ·rw [if_neg c165] at H
               have c165b0 : decide (t165 < 0) = false := decide_eq_false c165
               clear c165
               by_cases c175 : t165 = t162
               ·rw [if_pos c175] at H
                have c175b0 : (t165 == t162) = true := beq_iff_eq.mpr c175
                have c175b1 : (t165 != t162) = false := bne_eq_false_iff_eq.mpr c175
                clear c175
                replace H := Option.bind_eq_some_iff.mp H
                obtain ⟨t166, A1760, H⟩ := H
                replace H : ((laws_toInt64S.f kj100 l1).bind fun t169 => ((laws_toInt64S.f kj100 l2).bind fun t172 => ((impl_OrderPlaces.f t166 t169 t172).bind fun bt175 => ((laws_eqSpace.f kj100 bt175.1 t112).bind fun t183 => (if t183 = true then ((laws_eqInt64S.f kj100 bt175.2.1 t115).bind fun t184 => (if t184 = true then (laws_FnExactOrderPlaces.j2 kj100 t163 t162 (bt175.2.2 != t118) t161) else (laws_FnExactOrderPlaces.j2 kj100 t163 t162 true t161))) else (laws_FnExactOrderPlaces.j2 kj100 t163 t162 true t161)))))) = some r := H
                have A176 := Aside0.mk A1760
                clear A1760
                replace H := Option.bind_eq_some_iff.mp H
                obtain ⟨t169, A1770, H⟩ := H
                replace H : ((laws_toInt64S.f kj100 l2).bind fun t172 => ((impl_OrderPlaces.f t166 t169 t172).bind fun bt175 => ((laws_eqSpace.f kj100 bt175.1 t112).bind fun t183 => (if t183 = true then ((laws_eqInt64S.f kj100 bt175.2.1 t115).bind fun t184 => (if t184 = true then (laws_FnExactOrderPlaces.j2 kj100 t163 t162 (bt175.2.2 != t118) t161) else (laws_FnExactOrderPlaces.j2 kj100 t163 t162 true t161))) else (laws_FnExactOrderPlaces.j2 kj100 t163 t162 true t161))))) = some r := H
                have A177 := Aside0.mk A1770
                clear A1770
                replace H := Option.bind_eq_some_iff.mp H
                obtain ⟨t172, A1780, H⟩ := H
                replace H : ((impl_OrderPlaces.f t166 t169 t172).bind fun bt175 => ((laws_eqSpace.f kj100 bt175.1 t112).bind fun t183 => (if t183 = true then ((laws_eqInt64S.f kj100 bt175.2.1 t115).bind fun t184 => (if t184 = true then (laws_FnExactOrderPlaces.j2 kj100 t163 t162 (bt175.2.2 != t118) t161) else (laws_FnExactOrderPlaces.j2 kj100 t163 t162 true t161))) else (laws_FnExactOrderPlaces.j2 kj100 t163 t162 true t161)))) = some r := H
                have A178 := Aside0.mk A1780
                clear A1780
                replace H := Option.bind_eq_some_iff.mp H
                obtain ⟨⟨t175, t178, t181⟩, A1790, H⟩ := H
                replace H : ((laws_eqSpace.f kj100 t175 t112).bind fun t183 => (if t183 = true then ((laws_eqInt64S.f kj100 t178 t115).bind fun t184 => (if t184 = true then (laws_FnExactOrderPlaces.j2 kj100 t163 t162 (t181 != t118) t161) else (laws_FnExactOrderPlaces.j2 kj100 t163 t162 true t161))) else (laws_FnExactOrderPlaces.j2 kj100 t163 t162 true t161))) = some r := H
                have A179 := Aside0.mk A1790
                clear A1790
                have HC180 := Aside0.mk H
                clear H
                have hnb181 := NB137_101.out
                have hnc181 := NB101_137.out
                have hnb182 := NB137_119.out
                have hnc182 := NB119_137.out
                have hnb183 := NB137_123.out
                have hnc183 := NB123_137.out
                have hcz184_0 : wc.cell? ⟨gb137, 0, none⟩ = some (.slice Ao51 t130.length co51) := (blk_cell BK137.out 0).trans rfl
                have hfz184_0 := blk_frozen BK137.out 0
                go_upto_region 41 with (first | ((with_reducible refine gate_callee (f := 16) rfl ?_); refine goesL_ (some 119) rfl rfl Try.func16 (by kernel_rfl) rfl #[.agg #[.slice Ao51 t130.length co51], .int .i64 1] rfl (by (try simp only [List.map_toArray, List.map_cons, List.map_nil]); first | done | rfl | (simp only [List.length_drop, List.length_take]; rfl)) ?_; (with_reducible refine (laws_markSpace.calls kj100 (fun k_ => some k_ = (.slice Ao51 t130.length co51 : Value).ownBlock) (.slice Ao51 t130.length co51) t130 1 t160 t161 w _ ?side1 ?side2 A151.out).mono ?_); (case side1 => exact gb_ HB.out); (case side2 => exact Kd.R_tight rfl HO_138000.out); rintro e w185 ⟨rfl, hy0, hb, hkp⟩; refine ⟨_, rfl, ?_⟩; replace HO_9 := Aside0.mk (Kd.R_mono (ok' := fun k_ => OB_ k_ v134 ∧ OB_ k_ (.slice Ao34 t112.length co34) ∧ OB_ k_ (.slice Ao40 t153.length co40) ∧ OB_ k_ (.slice Ao51 t130.length co51)) (Kd.R_keptB (HO_9.out) hkp (fun k_ hk_ hs_ => (hk_.2.2.2) hs_)) (fun k_ hk_ => ⟨hk_.1.1, hk_.1.2.1, hk_.1.2.2.1, hk_.1.2.2.2⟩)); replace HO_15 := Aside0.mk (Kd.R_mono (ok' := fun k_ => OB_ k_ v116 ∧ OB_ k_ (.slice Ao34 t112.length co34) ∧ OB_ k_ (.slice Ao40 t153.length co40) ∧ OB_ k_ (.slice Ao51 t130.length co51)) (Kd.R_keptB (HO_15.out) hkp (fun k_ hk_ hs_ => (hk_.2.2.2) hs_)) (fun k_ hk_ => ⟨hk_.1.1, hk_.1.2.1, hk_.1.2.2.1, hk_.1.2.2.2⟩)); replace HO_120000 := Aside0.mk (Kd.R_mono (ok' := fun k_ => OB_ k_ v116 ∧ OB_ k_ v134 ∧ OB_ k_ (.slice Ao40 t153.length co40) ∧ OB_ k_ (.slice Ao51 t130.length co51)) (Kd.R_keptB (HO_120000.out) hkp (fun k_ hk_ hs_ => (hk_.2.2.2) hs_)) (fun k_ hk_ => ⟨hk_.1.1, hk_.1.2.1, hk_.1.2.2.1, hk_.1.2.2.2⟩)); replace HO_124000 := Aside0.mk (Kd.R_mono (ok' := fun k_ => OB_ k_ v116 ∧ OB_ k_ v134 ∧ OB_ k_ (.slice Ao34 t112.length co34) ∧ OB_ k_ (.slice Ao51 t130.length co51)) (Kd.R_keptB (HO_124000.out) hkp (fun k_ hk_ hs_ => (hk_.2.2.2) hs_)) (fun k_ hk_ => ⟨hk_.1.1, hk_.1.2.1, hk_.1.2.2.1, hk_.1.2.2.2⟩)); replace BK101 := a7_ BK101 hkp HO_138000; replace BK119 := a7_ BK119 hkp HO_138000; replace BK123 := a7_ BK123 hkp HO_138000; replace BK137 := a7_ BK137 hkp HO_138000; replace HO_138000 := Aside0.mk (Kd.R_reok rfl hy0 (fun k_ e_ => HO_138000.out.1 k_ e_)); replace HB := Aside0.mk (hb); (try clear hb); (try clear hkp); (try clear hy0); obtain ⟨Ao186, co186, eo186⟩ := Kd.R_slice HO_15.out; subst eo186) | ((with_reducible refine gate_callee (f := 17) rfl ?_); refine goesL_ (some 122) rfl rfl Try.func17 (by kernel_rfl) rfl #[.slice Ao186 t133.length co186, .int .i64 t160] rfl (by (try simp only [List.map_toArray, List.map_cons, List.map_nil]); first | done | rfl | (simp only [List.length_drop, List.length_take]; rfl)) ?_; (with_reducible refine (laws_markInt64S.calls kj100 (fun k_ => some k_ = (.slice Ao186 t133.length co186 : Value).ownBlock) (.slice Ao186 t133.length co186) t133 t160 t162 t163 w _ ?side1 ?side2 A152.out).mono ?_); (case side1 => exact gb_ HB.out); (case side2 => exact Kd.R_tight rfl HO_15.out); rintro e w187 ⟨rfl, hy0, hb, hkp⟩; refine ⟨_, rfl, ?_⟩; replace HO_9 := Aside0.mk (Kd.R_mono (ok' := fun k_ => OB_ k_ (.slice Ao186 t133.length co186) ∧ OB_ k_ (.slice Ao34 t112.length co34) ∧ OB_ k_ (.slice Ao40 t153.length co40) ∧ OB_ k_ (.slice Ao51 t130.length co51)) (Kd.R_keptB (HO_9.out) hkp (fun k_ hk_ hs_ => (hk_.1) hs_)) (fun k_ hk_ => ⟨hk_.1.1, hk_.1.2.1, hk_.1.2.2.1, hk_.1.2.2.2⟩)); replace HO_120000 := Aside0.mk (Kd.R_mono (ok' := fun k_ => OB_ k_ v116 ∧ OB_ k_ (.slice Ao186 t133.length co186) ∧ OB_ k_ (.slice Ao40 t153.length co40) ∧ OB_ k_ (.slice Ao51 t130.length co51)) (Kd.R_keptB (HO_120000.out) hkp (fun k_ hk_ hs_ => (hk_.2.1) hs_)) (fun k_ hk_ => ⟨hk_.1.1, hk_.1.2.1, hk_.1.2.2.1, hk_.1.2.2.2⟩)); replace HO_124000 := Aside0.mk (Kd.R_mono (ok' := fun k_ => OB_ k_ v116 ∧ OB_ k_ (.slice Ao186 t133.length co186) ∧ OB_ k_ (.slice Ao34 t112.length co34) ∧ OB_ k_ (.slice Ao51 t130.length co51)) (Kd.R_keptB (HO_124000.out) hkp (fun k_ hk_ hs_ => (hk_.2.1) hs_)) (fun k_ hk_ => ⟨hk_.1.1, hk_.1.2.1, hk_.1.2.2.1, hk_.1.2.2.2⟩)); replace HO_138000 := Aside0.mk (Kd.R_mono (ok' := fun k_ => OB_ k_ v116 ∧ OB_ k_ (.slice Ao186 t133.length co186) ∧ OB_ k_ (.slice Ao34 t112.length co34) ∧ OB_ k_ (.slice Ao40 t153.length co40)) (Kd.R_keptB (HO_138000.out) hkp (fun k_ hk_ hs_ => (hk_.2.1) hs_)) (fun k_ hk_ => ⟨hk_.1.1, hk_.1.2.1, hk_.1.2.2.1, hk_.1.2.2.2⟩)); replace BK101 := a7_ BK101 hkp HO_15; replace BK119 := a7_ BK119 hkp HO_15; replace BK123 := a7_ BK123 hkp HO_15; replace BK137 := a7_ BK137 hkp HO_15; replace HO_15 := Aside0.mk (Kd.R_reok rfl hy0 (fun k_ e_ => HO_15.out.1 k_ e_)); replace HB := Aside0.mk (hb); (try clear hb); (try clear hkp); (try clear hy0); have hcz188_0 : w187.cell? ⟨gb137, 0, none⟩ = some (.slice Ao51 t130.length co51) := (blk_cell BK137.out 0).trans rfl; have hfz188_0 := blk_frozen BK137.out 0) | ((with_reducible refine gate_callee (f := 18) rfl ?_); refine goesL_ (some 125) rfl rfl Try.func18 (by kernel_rfl) rfl #[.agg #[.slice Ao51 t161.length co51], .int .i64 1] rfl (by (try simp only [List.map_toArray, List.map_cons, List.map_nil]); first | done | (rw [show t161.length = t130.length from (Kd.R_reads' HO_138000.out).1.symm] <;> rfl) | rfl | (simp only [List.length_drop, List.length_take]; rfl)) ?_; (with_reducible refine (laws_heldSpace.calls kj100 _ _ t161 1 t164 _ ?side1 ?side2 A153.out).mono ?_); (case side1 => exact c1_ HO_138000); (case side2 => rw [show t161.length = t130.length from (Kd.R_reads' HO_138000.out).1.symm]; exact (Kd.R_reads' HO_138000.out).2.1); rintro e w189 ⟨rfl, hb⟩; refine ⟨_, rfl, ?_⟩; replace HO_9 := a1_ HO_9 hb; replace HO_15 := a1_ HO_15 hb; replace HO_120000 := a1_ HO_120000 hb; replace HO_124000 := a1_ HO_124000 hb; replace HO_138000 := a1_ HO_138000 hb; replace BK101 := a2_ BK101 hb; replace BK119 := a2_ BK119 hb; replace BK123 := a2_ BK123 hb; replace BK137 := a2_ BK137 hb; replace HB := Aside0.mk (below_step (gb_ HB.out) hb); (try clear hb); (try clear hb2); (try clear hk); (try clear hi)) | ((with_reducible refine gate_callee (f := 19) rfl ?_); refine goesL_ (some 130) rfl rfl Try.func19 (by kernel_rfl) rfl #[.slice Ao186 t163.length co186, .int .i64 t164] rfl (by (try simp only [List.map_toArray, List.map_cons, List.map_nil]); first | done | (rw [show t163.length = t133.length from (Kd.R_reads' HO_15.out).1.symm] <;> rfl) | rfl | (simp only [List.length_drop, List.length_take]; rfl)) ?_; (with_reducible refine (laws_heldInt64S.calls kj100 _ _ t163 t164 t165 _ ?side1 ?side2 A164.out).mono ?_); (case side1 => exact c1_ HO_15); (case side2 => rw [show t163.length = t133.length from (Kd.R_reads' HO_15.out).1.symm]; exact (Kd.R_reads' HO_15.out).2.1); rintro e w' ⟨rfl, ⟨nd, rfl⟩⟩; refine ⟨_, rfl, ?_⟩; (try (rw [drewN_self w189]; generalize hq_ : World.drewN w189 _ = w189; have n0_ : Aside0 (Kd.R (Kd.int .i64) 2 w189 w.heap.size (fun k_ => OB_ k_ (.slice Ao40 t153.length co40) ∧ OB_ k_ (.slice Ao51 t130.length co51) ∧ OB_ k_ (.slice Ao186 t133.length co186) ∧ OB_ k_ v116) (.slice Ao34 t112.length co34) t112) := ⟨by rw [← hq_]; exact (rb_ (Kd.R_mono HO_120000.out (fun _ hk => by grind)))⟩; have n1_ : Aside0 (Kd.R (Kd.int .i64) 2 w189 w.heap.size (fun k_ => OB_ k_ (.slice Ao34 t112.length co34) ∧ OB_ k_ (.slice Ao51 t130.length co51) ∧ OB_ k_ (.slice Ao186 t133.length co186) ∧ OB_ k_ v116) (.slice Ao40 t153.length co40) t153) := ⟨by rw [← hq_]; exact (rb_ (Kd.R_mono HO_124000.out (fun _ hk => by grind)))⟩; have n2_ : Aside0 (Kd.R (Kd.int .i64) 2 w189 w.heap.size (fun k_ => OB_ k_ (.slice Ao34 t112.length co34) ∧ OB_ k_ (.slice Ao40 t153.length co40) ∧ OB_ k_ (.slice Ao186 t133.length co186) ∧ OB_ k_ v116) (.slice Ao51 t130.length co51) t161) := ⟨by rw [← hq_]; exact (rb_ (Kd.R_mono HO_138000.out (fun _ hk => by grind)))⟩; have n3_ : Aside0 (Kd.R (Kd.int .i64) 2 w189 w.heap.size (fun k_ => OB_ k_ (.slice Ao34 t112.length co34) ∧ OB_ k_ (.slice Ao40 t153.length co40) ∧ OB_ k_ (.slice Ao51 t130.length co51) ∧ OB_ k_ v116) (.slice Ao186 t133.length co186) t163) := ⟨by rw [← hq_]; exact (rb_ (Kd.R_mono HO_15.out (fun _ hk => by grind)))⟩; have n4_ : Aside0 (Kd.R (Kd.int .i64) 2 w189 w.heap.size (fun k_ => OB_ k_ (.slice Ao34 t112.length co34) ∧ OB_ k_ (.slice Ao40 t153.length co40) ∧ OB_ k_ (.slice Ao51 t130.length co51) ∧ OB_ k_ (.slice Ao186 t133.length co186)) v116 t115) := ⟨by rw [← hq_]; exact (rb_ (Kd.R_mono HO_9.out (fun _ hk => by grind)))⟩; have n5_ : Aside0 (w189.heap[gb101]? = some (.cells #[.slice A0_0 l0_0.length c0_0] 24 (0, 0))) := ⟨by rw [← hq_]; exact (bb_ BK101.out)⟩; have n6_ : Aside0 (w189.heap[gb119]? = some (.cells #[.slice Ao34 t112.length co34] 26 (0, 0))) := ⟨by rw [← hq_]; exact (bb_ BK119.out)⟩; have n7_ : Aside0 (w189.heap[gb123]? = some (.cells #[.slice Ao40 t153.length co40] 26 (0, 0))) := ⟨by rw [← hq_]; exact (bb_ BK123.out)⟩; have n8_ : Aside0 (w189.heap[gb137]? = some (.cells #[.slice Ao51 t130.length co51] 26 (0, 0))) := ⟨by rw [← hq_]; exact (bb_ BK137.out)⟩; have n9_ : Aside0 (Below w.heap.size w w189) := ⟨by rw [← hq_]; exact (gb_ HB.out)⟩; clear HO_120000 HO_124000 HO_138000 HO_15 HO_9 BK101 BK119 BK123 BK137 HB hq_; have HO_120000 := n0_; have HO_124000 := n1_; have HO_138000 := n2_; have HO_15 := n3_; have HO_9 := n4_; have BK101 := n5_; have BK119 := n6_; have BK123 := n7_; have BK137 := n8_; have HB := n9_; clear n0_ n1_ n2_ n3_ n4_ n5_ n6_ n7_ n8_ n9_)); have hnb190 := NB101_119.out; have hnc190 := NB119_101.out; have hnb191 := NB101_123.out; have hnc191 := NB123_101.out; have hcz192_0 : w189.cell? ⟨gb101, 0, none⟩ = some (.slice A0_0 l0_0.length c0_0) := (blk_cell BK101.out 0).trans rfl; have hfz192_0 := blk_frozen BK101.out 0) | ((with_reducible refine gate_callee (f := 11) rfl ?_); refine goesL_ (some 138) rfl rfl Try.func11 (by kernel_rfl) rfl #[.agg #[.slice A0_0 l0_0.length c0_0]] rfl (by (try simp only [List.map_toArray, List.map_cons, List.map_nil]); first | done | rfl | (simp only [List.length_drop, List.length_take]; rfl)) ?_; (with_reducible refine (laws_toSpace.calls kj100 _ _ l0_0 t166 _ ?side1 ?side2 A176.out).mono ?_); (case side1 => exact c2_ HR0_0 HB); (case side2 => exact HC0_0.out); rintro e w193 ⟨v167, rfl, ho0, hb⟩; refine ⟨_, rfl, ?_⟩; have HO168 := Aside0.mk (Kd.R_lower (Kd.R_new' (Kd.R_new' (Kd.R_new' (Kd.R_new' (Kd.R_new' ho0 (Kd.R_lt (rb_ HO_9.out))) (Kd.R_lt (rb_ HO_15.out))) (Kd.R_lt (rb_ HO_120000.out))) (Kd.R_lt (rb_ HO_124000.out))) (Kd.R_lt (rb_ HO_138000.out))) (below_size (gb_ HB.out))); replace HO_9 := a5_ HO_9 ho0 hb; replace HO_15 := a5_ HO_15 ho0 hb; replace HO_120000 := a5_ HO_120000 ho0 hb; replace HO_124000 := a5_ HO_124000 ho0 hb; replace HO_138000 := a5_ HO_138000 ho0 hb; replace BK101 := a2_ BK101 hb; replace BK119 := a2_ BK119 hb; replace BK123 := a2_ BK123 hb; replace BK137 := a2_ BK137 hb; replace HB := Aside0.mk (below_step (gb_ HB.out) hb); (try clear hb); (try clear hb2); (try clear hk); (try clear hi); (try clear ho0)) | ((with_reducible refine gate_callee (f := 12) rfl ?_); refine goesL_ (some 140) rfl rfl Try.func12 (by kernel_rfl) rfl #[.slice A1 l1.length c1] rfl (by (try simp only [List.map_toArray, List.map_cons, List.map_nil]); first | done | rfl | (simp only [List.length_drop, List.length_take]; rfl)) ?_; (with_reducible refine (laws_toInt64S.calls kj100 _ _ l1 t169 _ ?side1 ?side2 A177.out).mono ?_); (case side1 => exact c2_ HR1 HB); (case side2 => exact HC1.out); rintro e w194 ⟨v170, rfl, ho0, hb⟩; refine ⟨_, rfl, ?_⟩; have HO171 := Aside0.mk (Kd.R_lower (Kd.R_new' (Kd.R_new' (Kd.R_new' (Kd.R_new' (Kd.R_new' (Kd.R_new' ho0 (Kd.R_lt (rb_ HO_9.out))) (Kd.R_lt (rb_ HO_15.out))) (Kd.R_lt (rb_ HO_120000.out))) (Kd.R_lt (rb_ HO_124000.out))) (Kd.R_lt (rb_ HO_138000.out))) (Kd.R_lt (rb_ HO168.out))) (below_size (gb_ HB.out))); replace HO_9 := a5_ HO_9 ho0 hb; replace HO_15 := a5_ HO_15 ho0 hb; replace HO_120000 := a5_ HO_120000 ho0 hb; replace HO_124000 := a5_ HO_124000 ho0 hb; replace HO_138000 := a5_ HO_138000 ho0 hb; replace HO168 := a5_ HO168 ho0 hb; replace BK101 := a2_ BK101 hb; replace BK119 := a2_ BK119 hb; replace BK123 := a2_ BK123 hb; replace BK137 := a2_ BK137 hb; replace HB := Aside0.mk (below_step (gb_ HB.out) hb); (try clear hb); (try clear hb2); (try clear hk); (try clear hi); (try clear ho0)) | ((with_reducible refine gate_callee (f := 12) rfl ?_); refine goesL_ (some 142) rfl rfl Try.func12 (by kernel_rfl) rfl #[.slice A2 l2.length c2] rfl (by (try simp only [List.map_toArray, List.map_cons, List.map_nil]); first | done | rfl | (simp only [List.length_drop, List.length_take]; rfl)) ?_; (with_reducible refine (laws_toInt64S.calls kj100 _ _ l2 t172 _ ?side1 ?side2 A178.out).mono ?_); (case side1 => exact c2_ HR2 HB); (case side2 => exact HC2.out); rintro e w195 ⟨v173, rfl, ho0, hb⟩; refine ⟨_, rfl, ?_⟩; have HO174 := Aside0.mk (Kd.R_lower (Kd.R_new' (Kd.R_new' (Kd.R_new' (Kd.R_new' (Kd.R_new' (Kd.R_new' (Kd.R_new' ho0 (Kd.R_lt (rb_ HO_9.out))) (Kd.R_lt (rb_ HO_15.out))) (Kd.R_lt (rb_ HO_120000.out))) (Kd.R_lt (rb_ HO_124000.out))) (Kd.R_lt (rb_ HO_138000.out))) (Kd.R_lt (rb_ HO168.out))) (Kd.R_lt (rb_ HO171.out))) (below_size (gb_ HB.out))); replace HO_9 := a5_ HO_9 ho0 hb; replace HO_15 := a5_ HO_15 ho0 hb; replace HO_120000 := a5_ HO_120000 ho0 hb; replace HO_124000 := a5_ HO_124000 ho0 hb; replace HO_138000 := a5_ HO_138000 ho0 hb; replace HO168 := a5_ HO168 ho0 hb; replace HO171 := a5_ HO171 ho0 hb; replace BK101 := a2_ BK101 hb; replace BK119 := a2_ BK119 hb; replace BK123 := a2_ BK123 hb; replace BK137 := a2_ BK137 hb; replace HB := Aside0.mk (below_step (gb_ HB.out) hb); (try clear hb); (try clear hb2); (try clear hk); (try clear hi); (try clear ho0); obtain ⟨Ao196, co196, eo196⟩ := Kd.R_slice HO168.out; subst eo196; obtain ⟨Ao197, co197, eo197⟩ := Kd.R_slice HO171.out; subst eo197; obtain ⟨Ao198, co198, eo198⟩ := Kd.R_slice HO174.out; subst eo198) | ((with_reducible refine gate_callee (f := 23) rfl ?_); refine goesL_ (some 143) rfl rfl Try.func23 (by kernel_rfl) rfl #[.agg #[.slice Ao196 t166.length co196], .slice Ao197 t169.length co197, .slice Ao198 t172.length co198] rfl (by (try simp only [List.map_toArray, List.map_cons, List.map_nil]); first | done | rfl | (simp only [List.length_drop, List.length_take]; rfl)) ?_; (with_reducible refine (impl_OrderPlaces.calls _ _ t166 _ _ t169 _ _ t172 t175 t178 t181 _ ?side1 ?side2 ?side3 ?side4 ?side5 ?side6 A179.out).mono ?_); (case side1 => exact c1_ HO168); (case side2 => exact (Kd.R_reads' HO168.out).2.1); (case side3 => exact c1_ HO171); (case side4 => exact (Kd.R_reads' HO171.out).2.1); (case side5 => exact c1_ HO174); (case side6 => exact (Kd.R_reads' HO174.out).2.1); rintro e w199 ⟨v176, v179, rfl, ho0, ho1, hb⟩; refine ⟨_, rfl, ?_⟩; have HO177 := Aside0.mk (Kd.R_lower (Kd.R_new' (Kd.R_new' (Kd.R_new' (Kd.R_new' (Kd.R_new' (Kd.R_new' (Kd.R_new' (Kd.R_new' ho0 (Kd.R_lt (rb_ HO_9.out))) (Kd.R_lt (rb_ HO_15.out))) (Kd.R_lt (rb_ HO_120000.out))) (Kd.R_lt (rb_ HO_124000.out))) (Kd.R_lt (rb_ HO_138000.out))) (Kd.R_lt (rb_ HO168.out))) (Kd.R_lt (rb_ HO171.out))) (Kd.R_lt (rb_ HO174.out))) (below_size (gb_ HB.out))); have HO180 := Aside0.mk (Kd.R_lower (Kd.R_new' (Kd.R_new' (Kd.R_new' (Kd.R_new' (Kd.R_new' (Kd.R_new' (Kd.R_new' (Kd.R_new' ho1 (Kd.R_lt (rb_ HO_9.out))) (Kd.R_lt (rb_ HO_15.out))) (Kd.R_lt (rb_ HO_120000.out))) (Kd.R_lt (rb_ HO_124000.out))) (Kd.R_lt (rb_ HO_138000.out))) (Kd.R_lt (rb_ HO168.out))) (Kd.R_lt (rb_ HO171.out))) (Kd.R_lt (rb_ HO174.out))) (below_size (gb_ HB.out))); replace HO_9 := Aside0.mk (Kd.R_mono (Kd.R_told (Kd.R_told (Kd.R_old (rb_ HO_9.out) hb) (Kd.R_base ho0)) (Kd.R_base ho1)) (fun _ h_ => h_.1)); replace HO_15 := Aside0.mk (Kd.R_mono (Kd.R_told (Kd.R_told (Kd.R_old (rb_ HO_15.out) hb) (Kd.R_base ho0)) (Kd.R_base ho1)) (fun _ h_ => h_.1)); replace HO_120000 := Aside0.mk (Kd.R_mono (Kd.R_told (Kd.R_told (Kd.R_old (rb_ HO_120000.out) hb) (Kd.R_base ho0)) (Kd.R_base ho1)) (fun _ h_ => h_.1)); replace HO_124000 := Aside0.mk (Kd.R_mono (Kd.R_told (Kd.R_told (Kd.R_old (rb_ HO_124000.out) hb) (Kd.R_base ho0)) (Kd.R_base ho1)) (fun _ h_ => h_.1)); replace HO_138000 := Aside0.mk (Kd.R_mono (Kd.R_told (Kd.R_told (Kd.R_old (rb_ HO_138000.out) hb) (Kd.R_base ho0)) (Kd.R_base ho1)) (fun _ h_ => h_.1)); replace HO168 := Aside0.mk (Kd.R_mono (Kd.R_told (Kd.R_told (Kd.R_old (rb_ HO168.out) hb) (Kd.R_base ho0)) (Kd.R_base ho1)) (fun _ h_ => h_.1)); replace HO171 := Aside0.mk (Kd.R_mono (Kd.R_told (Kd.R_told (Kd.R_old (rb_ HO171.out) hb) (Kd.R_base ho0)) (Kd.R_base ho1)) (fun _ h_ => h_.1)); replace HO174 := Aside0.mk (Kd.R_mono (Kd.R_told (Kd.R_told (Kd.R_old (rb_ HO174.out) hb) (Kd.R_base ho0)) (Kd.R_base ho1)) (fun _ h_ => h_.1)); replace BK101 := a2_ BK101 hb; replace BK119 := a2_ BK119 hb; replace BK123 := a2_ BK123 hb; replace BK137 := a2_ BK137 hb; replace HB := Aside0.mk (below_step (gb_ HB.out) hb); (try clear hb); (try clear hb2); (try clear hk); (try clear hi); (try clear ho0); (try clear ho1)) | ((with_reducible refine gate_dst (N := 20) rfl ?_); refine box_event ?hg (N := 20) ?hd (cs := #[.slice none 0 0]) (t := 26) ?hr ?_; (case hd => rfl); (case hg => rfl); (case hr => first | (go_simp; done) | (go_simp; rfl)); intro gb182 hg w200 hbox hb; have n0_ := a1_ HO_9 hb; have n1_ := a1_ HO_15 hb; have n2_ := a1_ HO_120000 hb; have n3_ := a1_ HO_124000 hb; have n4_ := a1_ HO_138000 hb; have n5_ := a1_ HO168 hb; have n6_ := a1_ HO171 hb; have n7_ := a1_ HO174 hb; have n8_ := a1_ HO177 hb; have n9_ := a1_ HO180 hb; have n10_ := a2_ BK101 hb; have n11_ := a2_ BK119 hb; have n12_ := a2_ BK123 hb; have n13_ := a2_ BK137 hb; have n14_ := Aside0.mk (below_step (gb_ HB.out) hb); have n15_ := Aside0.mk (hbox); have n16_ := Aside0.mk ((by rw [hg]; exact (below_size (gb_ HB.out)) : w.heap.size ≤ gb182)); have n17_ := Aside0.mk ((by rw [hg]; exact (below_size (gb_ HB.out)) : w.heap.size ≤ gb182)); have n18_ := Aside0.mk ((by rw [hg]; exact Nat.ne_of_lt (blk_lt (g := gb101) (o := .cells #[.slice A0_0 l0_0.length c0_0] 24 (0, 0)) (bb_ BK101.out)) : gb101 ≠ gb182)); have n19_ := Aside0.mk ((by rw [hg]; exact Nat.ne_of_gt (blk_lt (g := gb101) (o := .cells #[.slice A0_0 l0_0.length c0_0] 24 (0, 0)) (bb_ BK101.out)) : gb182 ≠ gb101)); have n20_ := Aside0.mk ((by rw [hg]; exact Nat.ne_of_lt (blk_lt (g := gb119) (o := .cells #[.slice Ao34 t112.length co34] 26 (0, 0)) (bb_ BK119.out)) : gb119 ≠ gb182)); have n21_ := Aside0.mk ((by rw [hg]; exact Nat.ne_of_gt (blk_lt (g := gb119) (o := .cells #[.slice Ao34 t112.length co34] 26 (0, 0)) (bb_ BK119.out)) : gb182 ≠ gb119)); have n22_ := Aside0.mk ((by rw [hg]; exact Nat.ne_of_lt (blk_lt (g := gb123) (o := .cells #[.slice Ao40 t153.length co40] 26 (0, 0)) (bb_ BK123.out)) : gb123 ≠ gb182)); have n23_ := Aside0.mk ((by rw [hg]; exact Nat.ne_of_gt (blk_lt (g := gb123) (o := .cells #[.slice Ao40 t153.length co40] 26 (0, 0)) (bb_ BK123.out)) : gb182 ≠ gb123)); have n24_ := Aside0.mk ((by rw [hg]; exact Nat.ne_of_lt (blk_lt (g := gb137) (o := .cells #[.slice Ao51 t130.length co51] 26 (0, 0)) (bb_ BK137.out)) : gb137 ≠ gb182)); have n25_ := Aside0.mk ((by rw [hg]; exact Nat.ne_of_gt (blk_lt (g := gb137) (o := .cells #[.slice Ao51 t130.length co51] 26 (0, 0)) (bb_ BK137.out)) : gb182 ≠ gb137)); clear HO_9 HO_15 HO_120000 HO_124000 HO_138000 HO168 HO171 HO174 HO177 HO180 BK101 BK119 BK123 BK137 HB; have HO_9 := n0_; have HO_15 := n1_; have HO_120000 := n2_; have HO_124000 := n3_; have HO_138000 := n4_; have HO168 := n5_; have HO171 := n6_; have HO174 := n7_; have HO177 := n8_; have HO180 := n9_; have BK101 := n10_; have BK119 := n11_; have BK123 := n12_; have BK137 := n13_; have HB := n14_; have BK182 := n15_; have GW182 := n16_; have GE182 := n17_; have NB101_182 := n18_; have NB182_101 := n19_; have NB119_182 := n20_; have NB182_119 := n21_; have NB123_182 := n22_; have NB182_123 := n23_; have NB137_182 := n24_; have NB182_137 := n25_; clear n0_ n1_ n2_ n3_ n4_ n5_ n6_ n7_ n8_ n9_ n10_ n11_ n12_ n13_ n14_ n15_ n16_ n17_ n18_ n19_ n20_ n21_ n22_ n23_ n24_ n25_ hb hbox hg; obtain ⟨Ao201, co201, eo201⟩ := Kd.R_slice HO177.out; subst eo201; have hnb202 := NB182_101.out; have hnc202 := NB101_182.out; have hnb203 := NB182_119.out; have hnc203 := NB119_182.out; have hnb204 := NB182_123.out; have hnc204 := NB123_182.out; have hnb205 := NB182_137.out; have hnc205 := NB137_182.out; have hcz206_0 : w200.cell? ⟨gb182, 0, none⟩ = some (.slice none 0 0) := (blk_cell BK182.out 0).trans rfl; have hfz206_0 := blk_frozen BK182.out 0))
                (try simp only [Act.put, List.setIfInBounds_toArray, List.set_cons_zero, List.set_cons_succ])
                go_cut [161] (fun cs_161 wc => ∃ (kq : Nat) (x161_179 : Bool), cs_161 = .bool x161_179 ∧ Aside0 (laws_FnExactOrderPlaces.j2 kq t163 t162 x161_179 t161 = some r) ∧ Aside0 (kq ≤ kj100) ∧ Aside0 (Kd.R (Kd.int .i64) 2 wc w.heap.size (fun k_ => OB_ k_ (.slice Ao34 t112.length co34) ∧ OB_ k_ (.slice Ao40 t153.length co40) ∧ OB_ k_ (.slice Ao51 t130.length co51) ∧ OB_ k_ (.slice Ao201 t175.length co201)) (.slice Ao186 t133.length co186) t163) ∧ Aside0 (Kd.R (Kd.int .i64) 2 wc w.heap.size (fun k_ => OB_ k_ (.slice Ao186 t133.length co186) ∧ OB_ k_ (.slice Ao40 t153.length co40) ∧ OB_ k_ (.slice Ao51 t130.length co51) ∧ OB_ k_ (.slice Ao201 t175.length co201)) (.slice Ao34 t112.length co34) t112) ∧ Aside0 (Kd.R (Kd.int .i64) 2 wc w.heap.size (fun k_ => OB_ k_ (.slice Ao186 t133.length co186) ∧ OB_ k_ (.slice Ao34 t112.length co34) ∧ OB_ k_ (.slice Ao51 t130.length co51) ∧ OB_ k_ (.slice Ao201 t175.length co201)) (.slice Ao40 t153.length co40) t153) ∧ Aside0 (Kd.R (Kd.int .i64) 2 wc w.heap.size (fun k_ => OB_ k_ (.slice Ao186 t133.length co186) ∧ OB_ k_ (.slice Ao34 t112.length co34) ∧ OB_ k_ (.slice Ao40 t153.length co40) ∧ OB_ k_ (.slice Ao201 t175.length co201)) (.slice Ao51 t130.length co51) t161) ∧ Aside0 (Kd.R (Kd.int .i64) 2 wc w.heap.size (fun k_ => OB_ k_ (.slice Ao186 t133.length co186) ∧ OB_ k_ (.slice Ao34 t112.length co34) ∧ OB_ k_ (.slice Ao40 t153.length co40) ∧ OB_ k_ (.slice Ao51 t130.length co51)) (.slice Ao201 t175.length co201) t175) ∧ Aside0 (wc.heap[gb101]? = some (.cells #[(.slice A0_0 l0_0.length c0_0)] 24 (0, 0))) ∧ Aside0 (wc.heap[gb119]? = some (.cells #[(.slice Ao34 t112.length co34)] 26 (0, 0))) ∧ Aside0 (wc.heap[gb123]? = some (.cells #[(.slice Ao40 t153.length co40)] 26 (0, 0))) ∧ Aside0 (wc.heap[gb137]? = some (.cells #[(.slice Ao51 t130.length co51)] 26 (0, 0))) ∧ Aside0 (wc.heap[gb182]? = some (.cells #[(.slice Ao201 t175.length co201)] 26 (0, 0))) ∧ Aside0 (Below w.heap.size w wc))
                case first =>
                 have H := HC180.out
                 clear HC180
                 replace H := Option.bind_eq_some_iff.mp H
                 obtain ⟨t183, A2070, H⟩ := H
                 replace H : (if t183 = true then ((laws_eqInt64S.f kj100 t178 t115).bind fun t184 => (if t184 = true then (laws_FnExactOrderPlaces.j2 kj100 t163 t162 (t181 != t118) t161) else (laws_FnExactOrderPlaces.j2 kj100 t163 t162 true t161))) else (laws_FnExactOrderPlaces.j2 kj100 t163 t162 true t161)) = some r := H
                 have A207 := Aside0.mk A2070
                 clear A2070
                 by_cases c208 : t183 = true
                 ·subst c208
                  have H1 : ((laws_eqInt64S.f kj100 t178 t115).bind fun t184 => (if t184 = true then (laws_FnExactOrderPlaces.j2 kj100 t163 t162 (t181 != t118) t161) else (laws_FnExactOrderPlaces.j2 kj100 t163 t162 true t161))) = some r := by rw [if_pos rfl] at H; exact H
                  clear H
                  have H := H1
                  clear H1
                  replace H := Option.bind_eq_some_iff.mp H
                  obtain ⟨t184, A2090, H⟩ := H
                  replace H : (if t184 = true then (laws_FnExactOrderPlaces.j2 kj100 t163 t162 (t181 != t118) t161) else (laws_FnExactOrderPlaces.j2 kj100 t163 t162 true t161)) = some r := H
                  have A209 := Aside0.mk A2090
                  clear A2090
                  by_cases c210 : t184 = true
                  ·subst c210
                   have H1 : (laws_FnExactOrderPlaces.j2 kj100 t163 t162 (t181 != t118) t161) = some r := by rw [if_pos rfl] at H; exact H
                   clear H
                   have H := H1
                   clear H1
                   have H' := Aside0.mk H
                   clear H
                   have hnb211 := NB182_101.out
                   have hnc211 := NB101_182.out
                   have hnb212 := NB182_119.out
                   have hnc212 := NB119_182.out
                   have hnb213 := NB182_123.out
                   have hnc213 := NB123_182.out
                   have hnb214 := NB182_137.out
                   have hnc214 := NB137_182.out
                   have hcz215_0 : w200.cell? ⟨gb182, 0, none⟩ = some (.slice none 0 0) := (blk_cell BK182.out 0).trans rfl
                   have hfz215_0 := blk_frozen BK182.out 0
                   have hnb216 := NB119_101.out
                   have hnc216 := NB101_119.out
                   have hnb217 := NB119_123.out
                   have hnc217 := NB123_119.out
                   have hnb218 := NB119_137.out
                   have hnc218 := NB137_119.out
                   have hcz219_0 : w200.cell? ⟨gb119, 0, none⟩ = some (.slice Ao34 t112.length co34) := (blk_cell BK119.out 0).trans rfl
                   have hfz219_0 := blk_frozen BK119.out 0
                   go_wp2_with (first | ((with_reducible refine gate_callee (f := 14) rfl ?_); refine goesL_ (some 149) rfl rfl Try.func14 (by kernel_rfl) rfl #[.agg #[.slice Ao201 t175.length co201], .agg #[.slice Ao34 t112.length co34]] rfl (by (try simp only [List.map_toArray, List.map_cons, List.map_nil]); first | done | rfl | (simp only [List.length_drop, List.length_take]; rfl)) ?_; (with_reducible refine (laws_eqSpace.calls kj100 _ _ t175 _ _ t112 true _ ?side1 ?side2 ?side3 ?side4 A207.out).mono ?_); (case side1 => refine (Kd.R_reads' (e := 2) (base := w.heap.size) (ok := fun _ => True) (n := t175.length) (c := co201) ?_).2.2; exact (rb_ (Kd.R_mono (Kd.R_far (p := ⟨gb182, 0, none⟩) (Kd.R_types HO177.out BK182.out (by decide)) (fun _ hk => hk.2) (.slice Ao201 t175.length co201)) (fun _ _ => trivial)))); (case side2 => exact (Kd.R_reads' HO177.out).2.1); (case side3 => refine (Kd.R_reads' (e := 2) (base := w.heap.size) (ok := fun _ => True) (n := t112.length) (c := co34) ?_).2.2; exact (rb_ (Kd.R_mono (Kd.R_far (p := ⟨gb182, 0, none⟩) (Kd.R_types HO_120000.out BK182.out (by decide)) (fun _ hk => hk.2) (.slice Ao201 t175.length co201)) (fun _ _ => trivial)))); (case side4 => exact (Kd.R_reads' HO_120000.out).2.1); rintro e w220 ⟨rfl, hb⟩; refine ⟨_, rfl, ?_⟩; replace HO_9 := a4_ HO_9 BK182 hb; replace HO_15 := a4_ HO_15 BK182 hb; replace HO_120000 := a4_ HO_120000 BK182 hb; replace HO_124000 := a4_ HO_124000 BK182 hb; replace HO_138000 := a4_ HO_138000 BK182 hb; replace HO168 := a4_ HO168 BK182 hb; replace HO171 := a4_ HO171 BK182 hb; replace HO174 := a4_ HO174 BK182 hb; replace HO177 := a4_ HO177 BK182 hb; replace HO180 := a4_ HO180 BK182 hb; replace BK101 := a3_ BK101 NB101_182 hb; replace BK119 := a3_ BK119 NB119_182 hb; replace BK123 := a3_ BK123 NB123_182 hb; replace BK137 := a3_ BK137 NB137_182 hb; replace BK182 := Aside0.mk (blk_below (g := gb182) (o := .cells #[.slice Ao201 t175.length co201] 26 (0, 0)) (by (with_reducible repeat (first | refine blk_drewN ?_ _ | refine blk_drew ?_ | refine blk_alloc ?_ _)); refine blk_put (cs := #[.slice none 0 0]) ?_ 0 _ rfl; (with_reducible repeat (first | refine blk_drewN ?_ _ | refine blk_drew ?_ | refine blk_alloc ?_ _)); exact BK182.out) hb); replace HB := Aside0.mk (below_step (gb_ HB.out) hb); (try clear hb); (try clear hb2); (try clear hk); (try clear hi); obtain ⟨Ao221, co221, eo221⟩ := Kd.R_slice HO180.out; subst eo221; obtain ⟨Ao222, co222, eo222⟩ := Kd.R_slice HO_9.out; subst eo222) | (go_at_call 15; (with_reducible refine (laws_eqInt64S.calls kj100 _ _ t178 _ _ t115 true _ ?side1 ?side2 ?side3 ?side4 A209.out).mono ?_); (case side1 => exact c1_ HO180); (case side2 => exact (Kd.R_reads' HO180.out).2.1); (case side3 => exact c1_ HO_9); (case side4 => exact (Kd.R_reads' HO_9.out).2.1); rintro e w' ⟨rfl, ⟨nd, rfl⟩⟩))
                   go_meet
                   case rel => exact ⟨_, ((t181 != t118)), (by first | rfl | (simp; done) | (simp [*]; done)), H', ⟨by have := HJ20.out; have := HJ100.out; first | omega | exact Nat.le_refl _⟩, ⟨by (try simp only [hl124000_100]); (with_reducible repeat (first | apply Kd.R_alloc | apply Kd.R_drewN | apply Kd.R_drew)); exact Kd.R_mono HO_15.out (fun _ hk => by grind)⟩, ⟨by (try simp only [hl124000_100]); (with_reducible repeat (first | apply Kd.R_alloc | apply Kd.R_drewN | apply Kd.R_drew)); exact Kd.R_mono HO_120000.out (fun _ hk => by grind)⟩, ⟨by (try simp only [hl124000_100]); (with_reducible repeat (first | apply Kd.R_alloc | apply Kd.R_drewN | apply Kd.R_drew)); exact Kd.R_mono HO_124000.out (fun _ hk => by grind)⟩, ⟨by (try simp only [hl124000_100]); (with_reducible repeat (first | apply Kd.R_alloc | apply Kd.R_drewN | apply Kd.R_drew)); exact Kd.R_mono HO_138000.out (fun _ hk => by grind)⟩, ⟨by (try simp only [hl124000_100]); (with_reducible repeat (first | apply Kd.R_alloc | apply Kd.R_drewN | apply Kd.R_drew)); exact Kd.R_mono HO177.out (fun _ hk => by grind)⟩, ⟨by (try simp only [hl124000_100]); (with_reducible repeat (first | refine blk_drewN ?_ _ | refine blk_drew ?_ | refine blk_alloc ?_ _)); exact BK101.out⟩, ⟨by (try simp only [hl124000_100]); (with_reducible repeat (first | refine blk_drewN ?_ _ | refine blk_drew ?_ | refine blk_alloc ?_ _)); exact BK119.out⟩, ⟨by (try simp only [hl124000_100]); (with_reducible repeat (first | refine blk_drewN ?_ _ | refine blk_drew ?_ | refine blk_alloc ?_ _)); exact BK123.out⟩, ⟨by (try simp only [hl124000_100]); (with_reducible repeat (first | refine blk_drewN ?_ _ | refine blk_drew ?_ | refine blk_alloc ?_ _)); exact BK137.out⟩, ⟨by (try simp only [hl124000_100]); (with_reducible repeat (first | refine blk_drewN ?_ _ | refine blk_drew ?_ | refine blk_alloc ?_ _)); exact BK182.out⟩, ⟨gb_ HB.out⟩⟩
                  ·replace c210 := Bool.eq_false_iff.mpr c210
                   subst c210
                   have H1 : (laws_FnExactOrderPlaces.j2 kj100 t163 t162 true t161) = some r := by rw [if_neg (show ¬ (false = true) by decide)] at H; exact H
                   clear H
                   have H := H1
                   clear H1
                   have H' := Aside0.mk H
                   clear H
                   have hnb223 := NB182_101.out
                   have hnc223 := NB101_182.out
                   have hnb224 := NB182_119.out
                   have hnc224 := NB119_182.out
                   have hnb225 := NB182_123.out
                   have hnc225 := NB123_182.out
                   have hnb226 := NB182_137.out
                   have hnc226 := NB137_182.out
                   have hcz227_0 : w200.cell? ⟨gb182, 0, none⟩ = some (.slice none 0 0) := (blk_cell BK182.out 0).trans rfl
                   have hfz227_0 := blk_frozen BK182.out 0
                   have hnb228 := NB119_101.out
                   have hnc228 := NB101_119.out
                   have hnb229 := NB119_123.out
                   have hnc229 := NB123_119.out
                   have hnb230 := NB119_137.out
                   have hnc230 := NB137_119.out
                   have hcz231_0 : w200.cell? ⟨gb119, 0, none⟩ = some (.slice Ao34 t112.length co34) := (blk_cell BK119.out 0).trans rfl
                   have hfz231_0 := blk_frozen BK119.out 0
                   go_wp2_with (first | ((with_reducible refine gate_callee (f := 14) rfl ?_); refine goesL_ (some 149) rfl rfl Try.func14 (by kernel_rfl) rfl #[.agg #[.slice Ao201 t175.length co201], .agg #[.slice Ao34 t112.length co34]] rfl (by (try simp only [List.map_toArray, List.map_cons, List.map_nil]); first | done | rfl | (simp only [List.length_drop, List.length_take]; rfl)) ?_; (with_reducible refine (laws_eqSpace.calls kj100 _ _ t175 _ _ t112 true _ ?side1 ?side2 ?side3 ?side4 A207.out).mono ?_); (case side1 => refine (Kd.R_reads' (e := 2) (base := w.heap.size) (ok := fun _ => True) (n := t175.length) (c := co201) ?_).2.2; exact (rb_ (Kd.R_mono (Kd.R_far (p := ⟨gb182, 0, none⟩) (Kd.R_types HO177.out BK182.out (by decide)) (fun _ hk => hk.2) (.slice Ao201 t175.length co201)) (fun _ _ => trivial)))); (case side2 => exact (Kd.R_reads' HO177.out).2.1); (case side3 => refine (Kd.R_reads' (e := 2) (base := w.heap.size) (ok := fun _ => True) (n := t112.length) (c := co34) ?_).2.2; exact (rb_ (Kd.R_mono (Kd.R_far (p := ⟨gb182, 0, none⟩) (Kd.R_types HO_120000.out BK182.out (by decide)) (fun _ hk => hk.2) (.slice Ao201 t175.length co201)) (fun _ _ => trivial)))); (case side4 => exact (Kd.R_reads' HO_120000.out).2.1); rintro e w232 ⟨rfl, hb⟩; refine ⟨_, rfl, ?_⟩; replace HO_9 := a4_ HO_9 BK182 hb; replace HO_15 := a4_ HO_15 BK182 hb; replace HO_120000 := a4_ HO_120000 BK182 hb; replace HO_124000 := a4_ HO_124000 BK182 hb; replace HO_138000 := a4_ HO_138000 BK182 hb; replace HO168 := a4_ HO168 BK182 hb; replace HO171 := a4_ HO171 BK182 hb; replace HO174 := a4_ HO174 BK182 hb; replace HO177 := a4_ HO177 BK182 hb; replace HO180 := a4_ HO180 BK182 hb; replace BK101 := a3_ BK101 NB101_182 hb; replace BK119 := a3_ BK119 NB119_182 hb; replace BK123 := a3_ BK123 NB123_182 hb; replace BK137 := a3_ BK137 NB137_182 hb; replace BK182 := Aside0.mk (blk_below (g := gb182) (o := .cells #[.slice Ao201 t175.length co201] 26 (0, 0)) (by (with_reducible repeat (first | refine blk_drewN ?_ _ | refine blk_drew ?_ | refine blk_alloc ?_ _)); refine blk_put (cs := #[.slice none 0 0]) ?_ 0 _ rfl; (with_reducible repeat (first | refine blk_drewN ?_ _ | refine blk_drew ?_ | refine blk_alloc ?_ _)); exact BK182.out) hb); replace HB := Aside0.mk (below_step (gb_ HB.out) hb); (try clear hb); (try clear hb2); (try clear hk); (try clear hi); obtain ⟨Ao233, co233, eo233⟩ := Kd.R_slice HO180.out; subst eo233; obtain ⟨Ao234, co234, eo234⟩ := Kd.R_slice HO_9.out; subst eo234) | (go_at_call 15; (with_reducible refine (laws_eqInt64S.calls kj100 _ _ t178 _ _ t115 false _ ?side1 ?side2 ?side3 ?side4 A209.out).mono ?_); (case side1 => exact c1_ HO180); (case side2 => exact (Kd.R_reads' HO180.out).2.1); (case side3 => exact c1_ HO_9); (case side4 => exact (Kd.R_reads' HO_9.out).2.1); rintro e w' ⟨rfl, ⟨nd, rfl⟩⟩))
                   go_meet
                   case rel => exact ⟨_, (true), (by first | rfl | (simp; done) | (simp [*]; done)), H', ⟨by have := HJ20.out; have := HJ100.out; first | omega | exact Nat.le_refl _⟩, ⟨by (try simp only [hl124000_100]); (with_reducible repeat (first | apply Kd.R_alloc | apply Kd.R_drewN | apply Kd.R_drew)); exact Kd.R_mono HO_15.out (fun _ hk => by grind)⟩, ⟨by (try simp only [hl124000_100]); (with_reducible repeat (first | apply Kd.R_alloc | apply Kd.R_drewN | apply Kd.R_drew)); exact Kd.R_mono HO_120000.out (fun _ hk => by grind)⟩, ⟨by (try simp only [hl124000_100]); (with_reducible repeat (first | apply Kd.R_alloc | apply Kd.R_drewN | apply Kd.R_drew)); exact Kd.R_mono HO_124000.out (fun _ hk => by grind)⟩, ⟨by (try simp only [hl124000_100]); (with_reducible repeat (first | apply Kd.R_alloc | apply Kd.R_drewN | apply Kd.R_drew)); exact Kd.R_mono HO_138000.out (fun _ hk => by grind)⟩, ⟨by (try simp only [hl124000_100]); (with_reducible repeat (first | apply Kd.R_alloc | apply Kd.R_drewN | apply Kd.R_drew)); exact Kd.R_mono HO177.out (fun _ hk => by grind)⟩, ⟨by (try simp only [hl124000_100]); (with_reducible repeat (first | refine blk_drewN ?_ _ | refine blk_drew ?_ | refine blk_alloc ?_ _)); exact BK101.out⟩, ⟨by (try simp only [hl124000_100]); (with_reducible repeat (first | refine blk_drewN ?_ _ | refine blk_drew ?_ | refine blk_alloc ?_ _)); exact BK119.out⟩, ⟨by (try simp only [hl124000_100]); (with_reducible repeat (first | refine blk_drewN ?_ _ | refine blk_drew ?_ | refine blk_alloc ?_ _)); exact BK123.out⟩, ⟨by (try simp only [hl124000_100]); (with_reducible repeat (first | refine blk_drewN ?_ _ | refine blk_drew ?_ | refine blk_alloc ?_ _)); exact BK137.out⟩, ⟨by (try simp only [hl124000_100]); (with_reducible repeat (first | refine blk_drewN ?_ _ | refine blk_drew ?_ | refine blk_alloc ?_ _)); exact BK182.out⟩, ⟨gb_ HB.out⟩⟩
                 ·replace c208 := Bool.eq_false_iff.mpr c208
                  subst c208
                  have H1 : (laws_FnExactOrderPlaces.j2 kj100 t163 t162 true t161) = some r := by rw [if_neg (show ¬ (false = true) by decide)] at H; exact H
                  clear H
                  have H := H1
                  clear H1
                  have H' := Aside0.mk H
                  clear H
                  have hnb235 := NB182_101.out
                  have hnc235 := NB101_182.out
                  have hnb236 := NB182_119.out
                  have hnc236 := NB119_182.out
                  have hnb237 := NB182_123.out
                  have hnc237 := NB123_182.out
                  have hnb238 := NB182_137.out
                  have hnc238 := NB137_182.out
                  have hcz239_0 : w200.cell? ⟨gb182, 0, none⟩ = some (.slice none 0 0) := (blk_cell BK182.out 0).trans rfl
                  have hfz239_0 := blk_frozen BK182.out 0
                  have hnb240 := NB119_101.out
                  have hnc240 := NB101_119.out
                  have hnb241 := NB119_123.out
                  have hnc241 := NB123_119.out
                  have hnb242 := NB119_137.out
                  have hnc242 := NB137_119.out
                  have hcz243_0 : w200.cell? ⟨gb119, 0, none⟩ = some (.slice Ao34 t112.length co34) := (blk_cell BK119.out 0).trans rfl
                  have hfz243_0 := blk_frozen BK119.out 0
                  go_wp2_with (first | ((with_reducible refine gate_callee (f := 14) rfl ?_); refine goesL_ (some 149) rfl rfl Try.func14 (by kernel_rfl) rfl #[.agg #[.slice Ao201 t175.length co201], .agg #[.slice Ao34 t112.length co34]] rfl (by (try simp only [List.map_toArray, List.map_cons, List.map_nil]); first | done | rfl | (simp only [List.length_drop, List.length_take]; rfl)) ?_; (with_reducible refine (laws_eqSpace.calls kj100 _ _ t175 _ _ t112 false _ ?side1 ?side2 ?side3 ?side4 A207.out).mono ?_); (case side1 => refine (Kd.R_reads' (e := 2) (base := w.heap.size) (ok := fun _ => True) (n := t175.length) (c := co201) ?_).2.2; exact (rb_ (Kd.R_mono (Kd.R_far (p := ⟨gb182, 0, none⟩) (Kd.R_types HO177.out BK182.out (by decide)) (fun _ hk => hk.2) (.slice Ao201 t175.length co201)) (fun _ _ => trivial)))); (case side2 => exact (Kd.R_reads' HO177.out).2.1); (case side3 => refine (Kd.R_reads' (e := 2) (base := w.heap.size) (ok := fun _ => True) (n := t112.length) (c := co34) ?_).2.2; exact (rb_ (Kd.R_mono (Kd.R_far (p := ⟨gb182, 0, none⟩) (Kd.R_types HO_120000.out BK182.out (by decide)) (fun _ hk => hk.2) (.slice Ao201 t175.length co201)) (fun _ _ => trivial)))); (case side4 => exact (Kd.R_reads' HO_120000.out).2.1); rintro e w244 ⟨rfl, hb⟩; refine ⟨_, rfl, ?_⟩; replace HO_9 := a4_ HO_9 BK182 hb; replace HO_15 := a4_ HO_15 BK182 hb; replace HO_120000 := a4_ HO_120000 BK182 hb; replace HO_124000 := a4_ HO_124000 BK182 hb; replace HO_138000 := a4_ HO_138000 BK182 hb; replace HO168 := a4_ HO168 BK182 hb; replace HO171 := a4_ HO171 BK182 hb; replace HO174 := a4_ HO174 BK182 hb; replace HO177 := a4_ HO177 BK182 hb; replace HO180 := a4_ HO180 BK182 hb; replace BK101 := a3_ BK101 NB101_182 hb; replace BK119 := a3_ BK119 NB119_182 hb; replace BK123 := a3_ BK123 NB123_182 hb; replace BK137 := a3_ BK137 NB137_182 hb; replace BK182 := Aside0.mk (blk_below (g := gb182) (o := .cells #[.slice Ao201 t175.length co201] 26 (0, 0)) (by (with_reducible repeat (first | refine blk_drewN ?_ _ | refine blk_drew ?_ | refine blk_alloc ?_ _)); refine blk_put (cs := #[.slice none 0 0]) ?_ 0 _ rfl; (with_reducible repeat (first | refine blk_drewN ?_ _ | refine blk_drew ?_ | refine blk_alloc ?_ _)); exact BK182.out) hb); replace HB := Aside0.mk (below_step (gb_ HB.out) hb); (try clear hb); (try clear hb2); (try clear hk); (try clear hi)))
                  go_meet
                  case rel => exact ⟨_, (true), (by first | rfl | (simp; done) | (simp [*]; done)), H', ⟨by have := HJ20.out; have := HJ100.out; first | omega | exact Nat.le_refl _⟩, ⟨by (try simp only [hl124000_100]); (with_reducible repeat (first | apply Kd.R_alloc | apply Kd.R_drewN | apply Kd.R_drew)); exact Kd.R_mono HO_15.out (fun _ hk => by grind)⟩, ⟨by (try simp only [hl124000_100]); (with_reducible repeat (first | apply Kd.R_alloc | apply Kd.R_drewN | apply Kd.R_drew)); exact Kd.R_mono HO_120000.out (fun _ hk => by grind)⟩, ⟨by (try simp only [hl124000_100]); (with_reducible repeat (first | apply Kd.R_alloc | apply Kd.R_drewN | apply Kd.R_drew)); exact Kd.R_mono HO_124000.out (fun _ hk => by grind)⟩, ⟨by (try simp only [hl124000_100]); (with_reducible repeat (first | apply Kd.R_alloc | apply Kd.R_drewN | apply Kd.R_drew)); exact Kd.R_mono HO_138000.out (fun _ hk => by grind)⟩, ⟨by (try simp only [hl124000_100]); (with_reducible repeat (first | apply Kd.R_alloc | apply Kd.R_drewN | apply Kd.R_drew)); exact Kd.R_mono HO177.out (fun _ hk => by grind)⟩, ⟨by (try simp only [hl124000_100]); (with_reducible repeat (first | refine blk_drewN ?_ _ | refine blk_drew ?_ | refine blk_alloc ?_ _)); exact BK101.out⟩, ⟨by (try simp only [hl124000_100]); (with_reducible repeat (first | refine blk_drewN ?_ _ | refine blk_drew ?_ | refine blk_alloc ?_ _)); exact BK119.out⟩, ⟨by (try simp only [hl124000_100]); (with_reducible repeat (first | refine blk_drewN ?_ _ | refine blk_drew ?_ | refine blk_alloc ?_ _)); exact BK123.out⟩, ⟨by (try simp only [hl124000_100]); (with_reducible repeat (first | refine blk_drewN ?_ _ | refine blk_drew ?_ | refine blk_alloc ?_ _)); exact BK137.out⟩, ⟨by (try simp only [hl124000_100]); (with_reducible repeat (first | refine blk_drewN ?_ _ | refine blk_drew ?_ | refine blk_alloc ?_ _)); exact BK182.out⟩, ⟨gb_ HB.out⟩⟩
                case rest =>
                 clear HC180
                 try clear c1
                 try clear c2
                 try clear p2
                 try clear c3
                 try clear c4
                 try clear c4b0
                 try clear c4b1
                 try clear c5
                 try clear c6
                 try clear c6b0
                 try clear c6b1
                 try clear c7
                 try clear c8
                 try clear c9
                 try clear c9b0
                 try clear c11
                 try clear c12
                 try clear c13
                 try clear c14
                 try clear c15
                 try clear c16
                 try clear c17
                 try clear c18
                 try clear c19
                 try clear c20
                 try clear c21
                 try clear c22
                 try clear c23
                 try clear c24
                 try clear c35
                 try clear c41
                 try clear c42
                 try clear c52
                 try clear c53
                 try clear c54
                 try clear c57
                 try clear c59
                 try clear c60
                 try clear c61
                 try clear c62
                 try clear c64
                 try clear c65
                 try clear c70
                 try clear c71
                 try clear c72
                 try clear c74
                 try clear c75
                 try clear c80
                 try clear c81
                 try clear c82
                 try clear c84
                 try clear c85
                 try clear c88
                 try clear c91
                 try clear c94
                 try clear c97
                 try clear c110
                 try clear c111
                 try clear c112
                 try clear c117
                 try clear c117b0
                 try clear c119
                 try clear c121
                 try clear c122
                 try clear c123
                 try clear c124
                 try clear c126
                 try clear c127
                 try clear c132
                 try clear c133
                 try clear c134
                 try clear c136
                 try clear c137
                 try clear c142
                 try clear c143
                 try clear c144
                 try clear c146
                 try clear c147
                 try clear c150
                 try clear c154
                 try clear c154b0
                 try clear c155
                 try clear c156
                 try clear c157
                 try clear c165
                 try clear c165b0
                 try clear c166
                 try clear c167
                 try clear c168
                 try clear c175
                 try clear c175b0
                 try clear c175b1
                 try clear c181
                 try clear c182
                 try clear c183
                 try clear c190
                 try clear c191
                 try clear c202
                 try clear c203
                 try clear c204
                 try clear c205
                 try clear c208
                 try clear c210
                 try clear c211
                 try clear c212
                 try clear c213
                 try clear c214
                 try clear c216
                 try clear c217
                 try clear c218
                 try clear c223
                 try clear c224
                 try clear c225
                 try clear c226
                 try clear c228
                 try clear c229
                 try clear c230
                 try clear c235
                 try clear c236
                 try clear c237
                 try clear c238
                 try clear c240
                 try clear c241
                 try clear c242
                 try clear hcz113_0
                 try clear hcz11_0
                 try clear hcz125_0
                 try clear hcz128_0
                 try clear hcz135_0
                 try clear hcz138_0
                 try clear hcz145_0
                 try clear hcz148_0
                 try clear hcz158_0
                 try clear hcz162_0
                 try clear hcz169_0
                 try clear hcz173_0
                 try clear hcz184_0
                 try clear hcz188_0
                 try clear hcz192_0
                 try clear hcz206_0
                 try clear hcz215_0
                 try clear hcz219_0
                 try clear hcz227_0
                 try clear hcz231_0
                 try clear hcz239_0
                 try clear hcz23_0
                 try clear hcz243_0
                 try clear hcz25_0
                 try clear hcz36_0
                 try clear hcz37_0
                 try clear hcz43_0
                 try clear hcz46_0
                 try clear hcz55_0
                 try clear hcz63_0
                 try clear hcz66_0
                 try clear hcz73_0
                 try clear hcz76_0
                 try clear hcz83_0
                 try clear hcz86_0
                 try clear hfz113_0
                 try clear hfz11_0
                 try clear hfz125_0
                 try clear hfz128_0
                 try clear hfz135_0
                 try clear hfz138_0
                 try clear hfz145_0
                 try clear hfz148_0
                 try clear hfz158_0
                 try clear hfz162_0
                 try clear hfz169_0
                 try clear hfz173_0
                 try clear hfz184_0
                 try clear hfz188_0
                 try clear hfz192_0
                 try clear hfz206_0
                 try clear hfz215_0
                 try clear hfz219_0
                 try clear hfz227_0
                 try clear hfz231_0
                 try clear hfz239_0
                 try clear hfz23_0
                 try clear hfz243_0
                 try clear hfz25_0
                 try clear hfz36_0
                 try clear hfz37_0
                 try clear hfz43_0
                 try clear hfz46_0
                 try clear hfz55_0
                 try clear hfz63_0
                 try clear hfz66_0
                 try clear hfz73_0
                 try clear hfz76_0
                 try clear hfz83_0
                 try clear hfz86_0
                 try clear p2
                 obtain ⟨kq, x161_179, rfl, HA, HJ179, HO_15, HO_120000, HO_124000, HO_138000, HO_183000, BK101, BK119, BK123, BK137, BK182, HB⟩ := hcut
                 have hl15_179 := (Kd.R_reads' HO_15.out).1
                 rw [hl15_179] at HO_15
                 (try simp only [hl15_179])
                 (try simp only [hl15_179] at BK101)
                 (try simp only [hl15_179] at BK119)
                 (try simp only [hl15_179] at BK123)
                 (try simp only [hl15_179] at BK137)
                 (try simp only [hl15_179] at BK182)
                 (try simp only [hl15_179] at HO_120000)
                 (try simp only [hl15_179] at HO_124000)
                 (try simp only [hl15_179] at HO_138000)
                 (try simp only [hl15_179] at HO_183000)
                 have hl138000_179 := (Kd.R_reads' HO_138000.out).1
                 rw [hl138000_179] at HO_138000
                 (try simp only [hl138000_179])
                 (try simp only [hl138000_179] at BK101)
                 (try simp only [hl138000_179] at BK119)
                 (try simp only [hl138000_179] at BK123)
                 (try simp only [hl138000_179] at BK137)
                 (try simp only [hl138000_179] at BK182)
                 (try simp only [hl138000_179] at HO_15)
                 (try simp only [hl138000_179] at HO_120000)
                 (try simp only [hl138000_179] at HO_124000)
                 (try simp only [hl138000_179] at HO_183000)
                 cases kq with
                 | zero => exact absurd HA.out (by simp [laws_FnExactOrderPlaces.j2])
                 | succ kj179 =>
                  have H := HA.out
                  clear HA
                  simp only [laws_FnExactOrderPlaces.j2] at H
                  by_cases c245 : x161_179 = true
                  ·subst c245
                   have H1 : (some false) = some r := by rw [if_pos rfl] at H; exact H
                   clear H
                   have H := H1
                   clear H1
                   obtain rfl := Option.some.inj H
                   go_wp2
                   go_ret
                   exact ⟨by first | rfl | (simp [errW_none, errW_some] <;> rfl) | (simp [*, errW_none, errW_some] <;> rfl), gb_ HB.out⟩
                  ·replace c245 := Bool.eq_false_iff.mpr c245
                   subst c245
                   have H1 : ((laws_heldSpace.f kj179 t161 1).bind fun t185 => (if t185 < 0 then (some false) else ((laws_heldInt64S.f kj179 t163 t185).bind fun t186 => (if t186 < 0 then (some false) else (if t186 = t162 then (some true) else (some false)))))) = some r := by rw [if_neg (show ¬ (false = true) by decide)] at H; exact H
                   clear H
                   have H := H1
                   clear H1
                   replace H := Option.bind_eq_some_iff.mp H
                   obtain ⟨t185, A2460, H⟩ := H
                   replace H : (if t185 < 0 then (some false) else ((laws_heldInt64S.f kj179 t163 t185).bind fun t186 => (if t186 < 0 then (some false) else (if t186 = t162 then (some true) else (some false))))) = some r := H
                   have A246 := Aside0.mk A2460
                   clear A2460
                   by_cases c247 : t185 < 0
                   ·rw [if_pos c247] at H
                    have c247b0 : decide (t185 < 0) = true := decide_eq_true c247
                    clear c247
                    obtain rfl := Option.some.inj H
                    have hnb248 := NB137_101.out
                    have hnc248 := NB101_137.out
                    have hnb249 := NB137_119.out
                    have hnc249 := NB119_137.out
                    have hnb250 := NB137_123.out
                    have hnc250 := NB123_137.out
                    have hnb251 := NB137_182.out
                    have hnc251 := NB182_137.out
                    have hcz252_0 : wc.cell? ⟨gb137, 0, none⟩ = some (.slice Ao51 t161.length co51) := (blk_cell BK137.out 0).trans rfl
                    have hfz252_0 := blk_frozen BK137.out 0
                    go_wp2_with (first | ((with_reducible refine gate_callee (f := 18) rfl ?_); refine goesL_ (some 164) rfl rfl Try.func18 (by kernel_rfl) rfl #[.agg #[.slice Ao51 t161.length co51], .int .i64 1] rfl (by (try simp only [List.map_toArray, List.map_cons, List.map_nil]); first | done | rfl | (simp only [List.length_drop, List.length_take]; rfl)) ?_; (with_reducible refine (laws_heldSpace.calls kj179 _ _ t161 1 t185 _ ?side1 ?side2 A246.out).mono ?_); (case side1 => exact c1_ HO_138000); (case side2 => exact (Kd.R_reads' HO_138000.out).2.1); rintro e w253 ⟨rfl, hb⟩; refine ⟨_, rfl, ?_⟩; replace HO_15 := a1_ HO_15 hb; replace HO_120000 := a1_ HO_120000 hb; replace HO_124000 := a1_ HO_124000 hb; replace HO_138000 := a1_ HO_138000 hb; replace HO_183000 := a1_ HO_183000 hb; replace BK101 := a2_ BK101 hb; replace BK119 := a2_ BK119 hb; replace BK123 := a2_ BK123 hb; replace BK137 := a2_ BK137 hb; replace BK182 := a2_ BK182 hb; replace HB := Aside0.mk (below_step (gb_ HB.out) hb); (try clear hb); (try clear hb2); (try clear hk); (try clear hi)))
                    go_ret
                    exact ⟨by first | rfl | (simp [errW_none, errW_some] <;> rfl) | (simp [*, errW_none, errW_some] <;> rfl), gb_ HB.out⟩
                   ·rw [if_neg c247] at H
                    have c247b0 : decide (t185 < 0) = false := decide_eq_false c247
                    clear c247
                    replace H := Option.bind_eq_some_iff.mp H
                    obtain ⟨t186, A2540, H⟩ := H
                    replace H : (if t186 < 0 then (some false) else (if t186 = t162 then (some true) else (some false))) = some r := H
                    have A254 := Aside0.mk A2540
                    clear A2540
                    by_cases c255 : t186 < 0
                    ·rw [if_pos c255] at H
                     have c255b0 : decide (t186 < 0) = true := decide_eq_true c255
                     clear c255
                     obtain rfl := Option.some.inj H
                     have hnb256 := NB137_101.out
                     have hnc256 := NB101_137.out
                     have hnb257 := NB137_119.out
                     have hnc257 := NB119_137.out
                     have hnb258 := NB137_123.out
                     have hnc258 := NB123_137.out
                     have hnb259 := NB137_182.out
                     have hnc259 := NB182_137.out
                     have hcz260_0 : wc.cell? ⟨gb137, 0, none⟩ = some (.slice Ao51 t161.length co51) := (blk_cell BK137.out 0).trans rfl
                     have hfz260_0 := blk_frozen BK137.out 0
                     go_wp2_with (first | ((with_reducible refine gate_callee (f := 18) rfl ?_); refine goesL_ (some 164) rfl rfl Try.func18 (by kernel_rfl) rfl #[.agg #[.slice Ao51 t161.length co51], .int .i64 1] rfl (by (try simp only [List.map_toArray, List.map_cons, List.map_nil]); first | done | rfl | (simp only [List.length_drop, List.length_take]; rfl)) ?_; (with_reducible refine (laws_heldSpace.calls kj179 _ _ t161 1 t185 _ ?side1 ?side2 A246.out).mono ?_); (case side1 => exact c1_ HO_138000); (case side2 => exact (Kd.R_reads' HO_138000.out).2.1); rintro e w261 ⟨rfl, hb⟩; refine ⟨_, rfl, ?_⟩; replace HO_15 := a1_ HO_15 hb; replace HO_120000 := a1_ HO_120000 hb; replace HO_124000 := a1_ HO_124000 hb; replace HO_138000 := a1_ HO_138000 hb; replace HO_183000 := a1_ HO_183000 hb; replace BK101 := a2_ BK101 hb; replace BK119 := a2_ BK119 hb; replace BK123 := a2_ BK123 hb; replace BK137 := a2_ BK137 hb; replace BK182 := a2_ BK182 hb; replace HB := Aside0.mk (below_step (gb_ HB.out) hb); (try clear hb); (try clear hb2); (try clear hk); (try clear hi)) | ((with_reducible refine gate_callee (f := 19) rfl ?_); refine goesL_ (some 169) rfl rfl Try.func19 (by kernel_rfl) rfl #[.slice Ao186 t163.length co186, .int .i64 t185] rfl (by (try simp only [List.map_toArray, List.map_cons, List.map_nil]); first | done | rfl | (simp only [List.length_drop, List.length_take]; rfl)) ?_; (with_reducible refine (laws_heldInt64S.calls kj179 _ _ t163 t185 t186 _ ?side1 ?side2 A254.out).mono ?_); (case side1 => exact c1_ HO_15); (case side2 => exact (Kd.R_reads' HO_15.out).2.1); rintro e w' ⟨rfl, ⟨nd, rfl⟩⟩; refine ⟨_, rfl, ?_⟩))
                     go_ret
                     exact ⟨by first | rfl | (simp [errW_none, errW_some] <;> rfl) | (simp [*, errW_none, errW_some] <;> rfl), gb_ HB.out⟩
                    ·rw [if_neg c255] at H
                     have c255b0 : decide (t186 < 0) = false := decide_eq_false c255
                     clear c255
                     by_cases c262 : t186 = t162
                     ·rw [if_pos c262] at H
                      have c262b0 : (t186 == t162) = true := beq_iff_eq.mpr c262
                      have c262b1 : (t186 != t162) = false := bne_eq_false_iff_eq.mpr c262
                      clear c262
                      obtain rfl := Option.some.inj H
                      have hnb263 := NB137_101.out
                      have hnc263 := NB101_137.out
                      have hnb264 := NB137_119.out
                      have hnc264 := NB119_137.out
                      have hnb265 := NB137_123.out
                      have hnc265 := NB123_137.out
                      have hnb266 := NB137_182.out
                      have hnc266 := NB182_137.out
                      have hcz267_0 : wc.cell? ⟨gb137, 0, none⟩ = some (.slice Ao51 t161.length co51) := (blk_cell BK137.out 0).trans rfl
                      have hfz267_0 := blk_frozen BK137.out 0
                      go_wp2_with (first | ((with_reducible refine gate_callee (f := 18) rfl ?_); refine goesL_ (some 164) rfl rfl Try.func18 (by kernel_rfl) rfl #[.agg #[.slice Ao51 t161.length co51], .int .i64 1] rfl (by (try simp only [List.map_toArray, List.map_cons, List.map_nil]); first | done | rfl | (simp only [List.length_drop, List.length_take]; rfl)) ?_; (with_reducible refine (laws_heldSpace.calls kj179 _ _ t161 1 t185 _ ?side1 ?side2 A246.out).mono ?_); (case side1 => exact c1_ HO_138000); (case side2 => exact (Kd.R_reads' HO_138000.out).2.1); rintro e w268 ⟨rfl, hb⟩; refine ⟨_, rfl, ?_⟩; replace HO_15 := a1_ HO_15 hb; replace HO_120000 := a1_ HO_120000 hb; replace HO_124000 := a1_ HO_124000 hb; replace HO_138000 := a1_ HO_138000 hb; replace HO_183000 := a1_ HO_183000 hb; replace BK101 := a2_ BK101 hb; replace BK119 := a2_ BK119 hb; replace BK123 := a2_ BK123 hb; replace BK137 := a2_ BK137 hb; replace BK182 := a2_ BK182 hb; replace HB := Aside0.mk (below_step (gb_ HB.out) hb); (try clear hb); (try clear hb2); (try clear hk); (try clear hi)) | ((with_reducible refine gate_callee (f := 19) rfl ?_); refine goesL_ (some 169) rfl rfl Try.func19 (by kernel_rfl) rfl #[.slice Ao186 t163.length co186, .int .i64 t185] rfl (by (try simp only [List.map_toArray, List.map_cons, List.map_nil]); first | done | rfl | (simp only [List.length_drop, List.length_take]; rfl)) ?_; (with_reducible refine (laws_heldInt64S.calls kj179 _ _ t163 t185 t186 _ ?side1 ?side2 A254.out).mono ?_); (case side1 => exact c1_ HO_15); (case side2 => exact (Kd.R_reads' HO_15.out).2.1); rintro e w' ⟨rfl, ⟨nd, rfl⟩⟩; refine ⟨_, rfl, ?_⟩))
                      go_ret
                      exact ⟨by first | rfl | (simp [errW_none, errW_some] <;> rfl) | (simp [*, errW_none, errW_some] <;> rfl), gb_ HB.out⟩
                     ·rw [if_neg c262] at H
                      have c262b0 : (t186 == t162) = false := beq_eq_false_iff_ne.mpr c262
                      have c262b1 : (t186 != t162) = true := bne_iff_ne.mpr c262
                      obtain rfl := Option.some.inj H
                      have hnb269 := NB137_101.out
                      have hnc269 := NB101_137.out
                      have hnb270 := NB137_119.out
                      have hnc270 := NB119_137.out
                      have hnb271 := NB137_123.out
                      have hnc271 := NB123_137.out
                      have hnb272 := NB137_182.out
                      have hnc272 := NB182_137.out
                      have hcz273_0 : wc.cell? ⟨gb137, 0, none⟩ = some (.slice Ao51 t161.length co51) := (blk_cell BK137.out 0).trans rfl
                      have hfz273_0 := blk_frozen BK137.out 0
                      go_wp2_with (first | ((with_reducible refine gate_callee (f := 18) rfl ?_); refine goesL_ (some 164) rfl rfl Try.func18 (by kernel_rfl) rfl #[.agg #[.slice Ao51 t161.length co51], .int .i64 1] rfl (by (try simp only [List.map_toArray, List.map_cons, List.map_nil]); first | done | rfl | (simp only [List.length_drop, List.length_take]; rfl)) ?_; (with_reducible refine (laws_heldSpace.calls kj179 _ _ t161 1 t185 _ ?side1 ?side2 A246.out).mono ?_); (case side1 => exact c1_ HO_138000); (case side2 => exact (Kd.R_reads' HO_138000.out).2.1); rintro e w274 ⟨rfl, hb⟩; refine ⟨_, rfl, ?_⟩; replace HO_15 := a1_ HO_15 hb; replace HO_120000 := a1_ HO_120000 hb; replace HO_124000 := a1_ HO_124000 hb; replace HO_138000 := a1_ HO_138000 hb; replace HO_183000 := a1_ HO_183000 hb; replace BK101 := a2_ BK101 hb; replace BK119 := a2_ BK119 hb; replace BK123 := a2_ BK123 hb; replace BK137 := a2_ BK137 hb; replace BK182 := a2_ BK182 hb; replace HB := Aside0.mk (below_step (gb_ HB.out) hb); (try clear hb); (try clear hb2); (try clear hk); (try clear hi)) | ((with_reducible refine gate_callee (f := 19) rfl ?_); refine goesL_ (some 169) rfl rfl Try.func19 (by kernel_rfl) rfl #[.slice Ao186 t163.length co186, .int .i64 t185] rfl (by (try simp only [List.map_toArray, List.map_cons, List.map_nil]); first | done | rfl | (simp only [List.length_drop, List.length_take]; rfl)) ?_; (with_reducible refine (laws_heldInt64S.calls kj179 _ _ t163 t185 t186 _ ?side1 ?side2 A254.out).mono ?_); (case side1 => exact c1_ HO_15); (case side2 => exact (Kd.R_reads' HO_15.out).2.1); rintro e w' ⟨rfl, ⟨nd, rfl⟩⟩; refine ⟨_, rfl, ?_⟩))
                      go_ret
                      exact ⟨by first | rfl | (simp [errW_none, errW_some] <;> rfl) | (simp [*, errW_none, errW_some] <;> rfl), gb_ HB.out⟩
               ·rw [if_neg c175] at H
                have c175b0 : (t165 == t162) = false := beq_eq_false_iff_ne.mpr c175
                have c175b1 : (t165 != t162) = true := bne_iff_ne.mpr c175
                obtain rfl := Option.some.inj H
                have hnb275 := NB137_101.out
                have hnc275 := NB101_137.out
                have hnb276 := NB137_119.out
                have hnc276 := NB119_137.out
                have hnb277 := NB137_123.out
                have hnc277 := NB123_137.out
                have hcz278_0 : wc.cell? ⟨gb137, 0, none⟩ = some (.slice Ao51 t130.length co51) := (blk_cell BK137.out 0).trans rfl
                have hfz278_0 := blk_frozen BK137.out 0
                go_wp2_with (first | ((with_reducible refine gate_callee (f := 16) rfl ?_); refine goesL_ (some 119) rfl rfl Try.func16 (by kernel_rfl) rfl #[.agg #[.slice Ao51 t130.length co51], .int .i64 1] rfl (by (try simp only [List.map_toArray, List.map_cons, List.map_nil]); first | done | rfl | (simp only [List.length_drop, List.length_take]; rfl)) ?_; (with_reducible refine (laws_markSpace.calls kj100 (fun k_ => some k_ = (.slice Ao51 t130.length co51 : Value).ownBlock) (.slice Ao51 t130.length co51) t130 1 t160 t161 w _ ?side1 ?side2 A151.out).mono ?_); (case side1 => exact gb_ HB.out); (case side2 => exact Kd.R_tight rfl HO_138000.out); rintro e w279 ⟨rfl, hy0, hb, hkp⟩; refine ⟨_, rfl, ?_⟩; replace HO_9 := Aside0.mk (Kd.R_mono (ok' := fun k_ => OB_ k_ v134 ∧ OB_ k_ (.slice Ao34 t112.length co34) ∧ OB_ k_ (.slice Ao40 t153.length co40) ∧ OB_ k_ (.slice Ao51 t130.length co51)) (Kd.R_keptB (HO_9.out) hkp (fun k_ hk_ hs_ => (hk_.2.2.2) hs_)) (fun k_ hk_ => ⟨hk_.1.1, hk_.1.2.1, hk_.1.2.2.1, hk_.1.2.2.2⟩)); replace HO_15 := Aside0.mk (Kd.R_mono (ok' := fun k_ => OB_ k_ v116 ∧ OB_ k_ (.slice Ao34 t112.length co34) ∧ OB_ k_ (.slice Ao40 t153.length co40) ∧ OB_ k_ (.slice Ao51 t130.length co51)) (Kd.R_keptB (HO_15.out) hkp (fun k_ hk_ hs_ => (hk_.2.2.2) hs_)) (fun k_ hk_ => ⟨hk_.1.1, hk_.1.2.1, hk_.1.2.2.1, hk_.1.2.2.2⟩)); replace HO_120000 := Aside0.mk (Kd.R_mono (ok' := fun k_ => OB_ k_ v116 ∧ OB_ k_ v134 ∧ OB_ k_ (.slice Ao40 t153.length co40) ∧ OB_ k_ (.slice Ao51 t130.length co51)) (Kd.R_keptB (HO_120000.out) hkp (fun k_ hk_ hs_ => (hk_.2.2.2) hs_)) (fun k_ hk_ => ⟨hk_.1.1, hk_.1.2.1, hk_.1.2.2.1, hk_.1.2.2.2⟩)); replace HO_124000 := Aside0.mk (Kd.R_mono (ok' := fun k_ => OB_ k_ v116 ∧ OB_ k_ v134 ∧ OB_ k_ (.slice Ao34 t112.length co34) ∧ OB_ k_ (.slice Ao51 t130.length co51)) (Kd.R_keptB (HO_124000.out) hkp (fun k_ hk_ hs_ => (hk_.2.2.2) hs_)) (fun k_ hk_ => ⟨hk_.1.1, hk_.1.2.1, hk_.1.2.2.1, hk_.1.2.2.2⟩)); replace BK101 := a7_ BK101 hkp HO_138000; replace BK119 := a7_ BK119 hkp HO_138000; replace BK123 := a7_ BK123 hkp HO_138000; replace BK137 := a7_ BK137 hkp HO_138000; replace HO_138000 := Aside0.mk (Kd.R_reok rfl hy0 (fun k_ e_ => HO_138000.out.1 k_ e_)); replace HB := Aside0.mk (hb); (try clear hb); (try clear hkp); (try clear hy0); obtain ⟨Ao280, co280, eo280⟩ := Kd.R_slice HO_15.out; subst eo280) | ((with_reducible refine gate_callee (f := 17) rfl ?_); refine goesL_ (some 122) rfl rfl Try.func17 (by kernel_rfl) rfl #[.slice Ao280 t133.length co280, .int .i64 t160] rfl (by (try simp only [List.map_toArray, List.map_cons, List.map_nil]); first | done | rfl | (simp only [List.length_drop, List.length_take]; rfl)) ?_; (with_reducible refine (laws_markInt64S.calls kj100 (fun k_ => some k_ = (.slice Ao280 t133.length co280 : Value).ownBlock) (.slice Ao280 t133.length co280) t133 t160 t162 t163 w _ ?side1 ?side2 A152.out).mono ?_); (case side1 => exact gb_ HB.out); (case side2 => exact Kd.R_tight rfl HO_15.out); rintro e w281 ⟨rfl, hy0, hb, hkp⟩; refine ⟨_, rfl, ?_⟩; replace HO_9 := Aside0.mk (Kd.R_mono (ok' := fun k_ => OB_ k_ (.slice Ao280 t133.length co280) ∧ OB_ k_ (.slice Ao34 t112.length co34) ∧ OB_ k_ (.slice Ao40 t153.length co40) ∧ OB_ k_ (.slice Ao51 t130.length co51)) (Kd.R_keptB (HO_9.out) hkp (fun k_ hk_ hs_ => (hk_.1) hs_)) (fun k_ hk_ => ⟨hk_.1.1, hk_.1.2.1, hk_.1.2.2.1, hk_.1.2.2.2⟩)); replace HO_120000 := Aside0.mk (Kd.R_mono (ok' := fun k_ => OB_ k_ v116 ∧ OB_ k_ (.slice Ao280 t133.length co280) ∧ OB_ k_ (.slice Ao40 t153.length co40) ∧ OB_ k_ (.slice Ao51 t130.length co51)) (Kd.R_keptB (HO_120000.out) hkp (fun k_ hk_ hs_ => (hk_.2.1) hs_)) (fun k_ hk_ => ⟨hk_.1.1, hk_.1.2.1, hk_.1.2.2.1, hk_.1.2.2.2⟩)); replace HO_124000 := Aside0.mk (Kd.R_mono (ok' := fun k_ => OB_ k_ v116 ∧ OB_ k_ (.slice Ao280 t133.length co280) ∧ OB_ k_ (.slice Ao34 t112.length co34) ∧ OB_ k_ (.slice Ao51 t130.length co51)) (Kd.R_keptB (HO_124000.out) hkp (fun k_ hk_ hs_ => (hk_.2.1) hs_)) (fun k_ hk_ => ⟨hk_.1.1, hk_.1.2.1, hk_.1.2.2.1, hk_.1.2.2.2⟩)); replace HO_138000 := Aside0.mk (Kd.R_mono (ok' := fun k_ => OB_ k_ v116 ∧ OB_ k_ (.slice Ao280 t133.length co280) ∧ OB_ k_ (.slice Ao34 t112.length co34) ∧ OB_ k_ (.slice Ao40 t153.length co40)) (Kd.R_keptB (HO_138000.out) hkp (fun k_ hk_ hs_ => (hk_.2.1) hs_)) (fun k_ hk_ => ⟨hk_.1.1, hk_.1.2.1, hk_.1.2.2.1, hk_.1.2.2.2⟩)); replace BK101 := a7_ BK101 hkp HO_15; replace BK119 := a7_ BK119 hkp HO_15; replace BK123 := a7_ BK123 hkp HO_15; replace BK137 := a7_ BK137 hkp HO_15; replace HO_15 := Aside0.mk (Kd.R_reok rfl hy0 (fun k_ e_ => HO_15.out.1 k_ e_)); replace HB := Aside0.mk (hb); (try clear hb); (try clear hkp); (try clear hy0); have hcz282_0 : w281.cell? ⟨gb137, 0, none⟩ = some (.slice Ao51 t130.length co51) := (blk_cell BK137.out 0).trans rfl; have hfz282_0 := blk_frozen BK137.out 0) | ((with_reducible refine gate_callee (f := 18) rfl ?_); refine goesL_ (some 125) rfl rfl Try.func18 (by kernel_rfl) rfl #[.agg #[.slice Ao51 t161.length co51], .int .i64 1] rfl (by (try simp only [List.map_toArray, List.map_cons, List.map_nil]); first | done | (rw [show t161.length = t130.length from (Kd.R_reads' HO_138000.out).1.symm] <;> rfl) | rfl | (simp only [List.length_drop, List.length_take]; rfl)) ?_; (with_reducible refine (laws_heldSpace.calls kj100 _ _ t161 1 t164 _ ?side1 ?side2 A153.out).mono ?_); (case side1 => exact c1_ HO_138000); (case side2 => rw [show t161.length = t130.length from (Kd.R_reads' HO_138000.out).1.symm]; exact (Kd.R_reads' HO_138000.out).2.1); rintro e w283 ⟨rfl, hb⟩; refine ⟨_, rfl, ?_⟩; replace HO_9 := a1_ HO_9 hb; replace HO_15 := a1_ HO_15 hb; replace HO_120000 := a1_ HO_120000 hb; replace HO_124000 := a1_ HO_124000 hb; replace HO_138000 := a1_ HO_138000 hb; replace BK101 := a2_ BK101 hb; replace BK119 := a2_ BK119 hb; replace BK123 := a2_ BK123 hb; replace BK137 := a2_ BK137 hb; replace HB := Aside0.mk (below_step (gb_ HB.out) hb); (try clear hb); (try clear hb2); (try clear hk); (try clear hi)) | ((with_reducible refine gate_callee (f := 19) rfl ?_); refine goesL_ (some 130) rfl rfl Try.func19 (by kernel_rfl) rfl #[.slice Ao280 t163.length co280, .int .i64 t164] rfl (by (try simp only [List.map_toArray, List.map_cons, List.map_nil]); first | done | (rw [show t163.length = t133.length from (Kd.R_reads' HO_15.out).1.symm] <;> rfl) | rfl | (simp only [List.length_drop, List.length_take]; rfl)) ?_; (with_reducible refine (laws_heldInt64S.calls kj100 _ _ t163 t164 t165 _ ?side1 ?side2 A164.out).mono ?_); (case side1 => exact c1_ HO_15); (case side2 => rw [show t163.length = t133.length from (Kd.R_reads' HO_15.out).1.symm]; exact (Kd.R_reads' HO_15.out).2.1); rintro e w' ⟨rfl, ⟨nd, rfl⟩⟩; refine ⟨_, rfl, ?_⟩))
                go_ret
                exact ⟨by first | rfl | (simp [errW_none, errW_some] <;> rfl) | (simp [*, errW_none, errW_some] <;> rfl), gb_ HB.out⟩
         ·replace c97 := Bool.eq_false_iff.mpr c97
          subst c97
          have H1 : (some false) = some r := by rw [if_neg (show ¬ (false = true) by decide)] at H; exact H
          clear H
          have H := H1
          clear H1
          obtain rfl := Option.some.inj H
          try go_wp2
          replace HO_9 := Aside0.mk (Kd.R_drew HO_9.out)
          replace HO_12 := Aside0.mk (Kd.R_drew HO_12.out)
          replace HO_13 := Aside0.mk (Kd.R_drew HO_13.out)
          replace HO_15 := Aside0.mk (Kd.R_drew HO_15.out)
          replace HO_120000 := Aside0.mk (Kd.R_drew HO_120000.out)
          replace HO_124000 := Aside0.mk (Kd.R_drew HO_124000.out)
          replace HO_138000 := Aside0.mk (Kd.R_drew HO_138000.out)
          replace BK101 := Aside0.mk (blk_drew BK101.out)
          replace BK119 := Aside0.mk (blk_drew BK119.out)
          replace BK123 := Aside0.mk (blk_drew BK123.out)
          replace BK137 := Aside0.mk (blk_drew BK137.out)
          replace HB := Aside0.mk (below_drew1 HB.out)
          refine start_ (n := 5) (S := fun w' => w'.cell? ⟨gb123, 0, none⟩ = some (.slice Ao40 t120.length co40) ∧ w'.cell? ⟨gb101, 0, none⟩ = some (.slice A0_0 l0_0.length c0_0)) (ds := []) #[false, false, false, false, false] (by kernel_rfl) rfl rfl ⟨(blk_cell BK123.out 0).trans rfl, (blk_cell BK101.out 0).trans rfl⟩ (fun hHeld => ?_)
          generalize wc.drew = w284 at HO_9 HO_12 HO_13 HO_15 HO_120000 HO_124000 HO_138000 BK101 BK119 BK123 BK137 HB hHeld ⊢
          refine take_ (i := 0) (N := some 74) (v := ?_) (a' := ?_) #[true, false, false, false, false] rfl rfl (by kernel_rfl) (fun _ _ _ h => h) (Or.inl ⟨by rfl, ?_⟩) hHeld ?_ ?_
          rotate_left
          ·rintro w' ⟨s0, s1⟩
           go_simp
           with_reducible rfl
          rotate_left
          ·simp only [Act.put, List.setIfInBounds_toArray, List.set_cons_zero, List.set_cons_succ, i64_w, i32_w]
           rfl
          refine take_ (i := 1) (N := some 75) (v := ?_) (a' := ?_) #[true, true, false, false, false] rfl rfl (by kernel_rfl) (fun _ _ _ h => h) (Or.inl ⟨by rfl, ?_⟩) hHeld ?_ ?_
          rotate_left
          ·rintro w' ⟨s0, s1⟩
           go_simp
           with_reducible rfl
          rotate_left
          ·simp only [Act.put, List.setIfInBounds_toArray, List.set_cons_zero, List.set_cons_succ, i64_w, i32_w]
           rfl
          refine one_ (i := 2) (N := some 76) #[true, true, true, false, false] rfl rfl (by kernel_rfl) (by decide) (fun K hK => ?_)
          refine goes_ Try.func11 (by kernel_rfl) rfl #[.agg #[.slice A0_0 l0_0.length c0_0]] (by rfl) rfl rfl (by (try simp only [List.map_toArray, List.map_cons, List.map_nil]); first | done | rfl | (simp only [List.length_drop, List.length_take]; rfl)) ?_
          with_reducible refine (laws_toSpace.calls kj20 _ _ l0_0 t140 _ ?side1 ?side2 A89.out).mono ?_
          (case side1 => exact c2_ HR0_0 HB)
          (case side2 => exact HC0_0.out)
          rintro e w285 ⟨v141, rfl, ho0, hb⟩
          refine ⟨_, rfl, ?_⟩
          have HO142 := Aside0.mk (Kd.R_lower (Kd.R_new' (Kd.R_new' (Kd.R_new' (Kd.R_new' (Kd.R_new' (Kd.R_new' (Kd.R_new' ho0 (Kd.R_lt (rb_ HO_9.out))) (Kd.R_lt (rb_ HO_12.out))) (Kd.R_lt (rb_ HO_13.out))) (Kd.R_lt (rb_ HO_15.out))) (Kd.R_lt (rb_ HO_120000.out))) (Kd.R_lt (rb_ HO_124000.out))) (Kd.R_lt (rb_ HO_138000.out))) (below_size (gb_ HB.out)))
          replace HO_9 := a5_ HO_9 ho0 hb
          replace HO_12 := a5_ HO_12 ho0 hb
          replace HO_13 := a5_ HO_13 ho0 hb
          replace HO_15 := a5_ HO_15 ho0 hb
          replace HO_120000 := a5_ HO_120000 ho0 hb
          replace HO_124000 := a5_ HO_124000 ho0 hb
          replace HO_138000 := a5_ HO_138000 ho0 hb
          replace BK101 := a2_ BK101 hb
          replace BK119 := a2_ BK119 hb
          replace BK123 := a2_ BK123 hb
          replace BK137 := a2_ BK137 hb
          replace HB := Aside0.mk (below_step (gb_ HB.out) hb)
          (try clear hb)
          (try clear hb2)
          (try clear hk)
          (try clear hi)
          (try clear ho0)
          obtain ⟨Ao286, co286, eo286⟩ := Kd.R_slice HO142.out
          (first | subst eo286 | (injection eo286 with f1_ f2_ f3_; have f4_ := f1_.symm; have f5_ := f3_.symm; clear f1_ f2_ f3_; subst f4_; subst f5_))
          refine hK.out _ _ ⟨(blk_cell BK123.out 0).trans rfl, (blk_cell BK101.out 0).trans rfl⟩ (fun hHeld => ?_)
          clear hK K
          refine norm_ (a' := ?_) ?_ ?_
          rotate_left
          ·show Act.put _ (some 76) _ = _
           simp only [Act.put, List.setIfInBounds_toArray, List.set_cons_zero, List.set_cons_succ, i64_w, i32_w]
           rfl
          refine one_ (i := 3) (N := some 77) #[true, true, true, true, false] rfl rfl (by kernel_rfl) (by decide) (fun K hK => ?_)
          refine goes_ Try.func14 (by kernel_rfl) rfl #[.agg #[.slice Ao40 t120.length co40], .agg #[.slice Ao286 t140.length co286]] (by rfl) rfl rfl (by (try simp only [List.map_toArray, List.map_cons, List.map_nil]); first | done | rfl | (simp only [List.length_drop, List.length_take]; rfl)) ?_
          with_reducible refine (laws_eqSpace.calls kj20 _ _ t120 _ _ t140 true _ ?side1 ?side2 ?side3 ?side4 A90.out).mono ?_
          (case side1 => exact c1_ HO_124000)
          (case side2 => exact (Kd.R_reads' HO_124000.out).2.1)
          (case side3 => exact c1_ HO142)
          (case side4 => exact (Kd.R_reads' HO142.out).2.1)
          rintro e w287 ⟨rfl, hb⟩
          refine ⟨_, rfl, ?_⟩
          replace HO_9 := a1_ HO_9 hb
          replace HO_12 := a1_ HO_12 hb
          replace HO_13 := a1_ HO_13 hb
          replace HO_15 := a1_ HO_15 hb
          replace HO_120000 := a1_ HO_120000 hb
          replace HO_124000 := a1_ HO_124000 hb
          replace HO_138000 := a1_ HO_138000 hb
          replace HO142 := a1_ HO142 hb
          replace BK101 := a2_ BK101 hb
          replace BK119 := a2_ BK119 hb
          replace BK123 := a2_ BK123 hb
          replace BK137 := a2_ BK137 hb
          replace HB := Aside0.mk (below_step (gb_ HB.out) hb)
          (try clear hb)
          (try clear hb2)
          (try clear hk)
          (try clear hi)
          refine hK.out _ _ ⟨(blk_cell BK123.out 0).trans rfl, (blk_cell BK101.out 0).trans rfl⟩ (fun hHeld => ?_)
          clear hK K
          refine norm_ (a' := ?_) ?_ ?_
          rotate_left
          ·show Act.put _ (some 77) _ = _
           simp only [Act.put, List.setIfInBounds_toArray, List.set_cons_zero, List.set_cons_succ, i64_w, i32_w]
           rfl
          refine pure_ (i := 4) (N := some 78) (v := ?_) (a' := ?_) #[true, true, true, true, true] rfl rfl (by kernel_rfl) (fun _ _ _ h => h) (Or.inl ⟨by rfl, ?_⟩) ?_ ?_
          rotate_left
          ·intro w'
           go_simp
           with_reducible rfl
          rotate_left
          ·simp only [Act.put, List.setIfInBounds_toArray, List.set_cons_zero, List.set_cons_succ, i64_w, i32_w]
           rfl
          refine done_ (by kernel_rfl) ?_
          try go_wp2_with (first | ((with_reducible refine gate_callee (f := 12) rfl ?_); refine goesL_ (some 81) rfl rfl Try.func12 (by kernel_rfl) rfl #[.slice A1 l1.length c1] rfl (by (try simp only [List.map_toArray, List.map_cons, List.map_nil]); first | done | rfl | (simp only [List.length_drop, List.length_take]; rfl)) ?_; (with_reducible refine (laws_toInt64S.calls kj20 _ _ l1 t144 _ ?side1 ?side2 A92.out).mono ?_); (case side1 => exact c2_ HR1 HB); (case side2 => exact HC1.out); rintro e w288 ⟨v145, rfl, ho0, hb⟩; refine ⟨_, rfl, ?_⟩; have HO146 := Aside0.mk (Kd.R_lower (Kd.R_new' (Kd.R_new' (Kd.R_new' (Kd.R_new' (Kd.R_new' (Kd.R_new' (Kd.R_new' (Kd.R_new' ho0 (Kd.R_lt (rb_ HO_9.out))) (Kd.R_lt (rb_ HO_12.out))) (Kd.R_lt (rb_ HO_13.out))) (Kd.R_lt (rb_ HO_15.out))) (Kd.R_lt (rb_ HO_120000.out))) (Kd.R_lt (rb_ HO_124000.out))) (Kd.R_lt (rb_ HO_138000.out))) (Kd.R_lt (rb_ HO142.out))) (below_size (gb_ HB.out))); replace HO_9 := a5_ HO_9 ho0 hb; replace HO_12 := a5_ HO_12 ho0 hb; replace HO_13 := a5_ HO_13 ho0 hb; replace HO_15 := a5_ HO_15 ho0 hb; replace HO_120000 := a5_ HO_120000 ho0 hb; replace HO_124000 := a5_ HO_124000 ho0 hb; replace HO_138000 := a5_ HO_138000 ho0 hb; replace HO142 := a5_ HO142 ho0 hb; replace BK101 := a2_ BK101 hb; replace BK119 := a2_ BK119 hb; replace BK123 := a2_ BK123 hb; replace BK137 := a2_ BK137 hb; replace HB := Aside0.mk (below_step (gb_ HB.out) hb); (try clear hb); (try clear hb2); (try clear hk); (try clear hi); (try clear ho0); obtain ⟨Ao289, co289, eo289⟩ := Kd.R_slice HO146.out; subst eo289) | ((with_reducible refine gate_callee (f := 15) rfl ?_); refine goesL_ (some 82) rfl rfl Try.func15 (by kernel_rfl) rfl #[.slice Ao47 t124.length co47, .slice Ao289 t144.length co289] rfl (by (try simp only [List.map_toArray, List.map_cons, List.map_nil]); first | done | rfl | (simp only [List.length_drop, List.length_take]; rfl)) ?_; (with_reducible refine (laws_eqInt64S.calls kj20 _ _ t124 _ _ t144 true _ ?side1 ?side2 ?side3 ?side4 A93.out).mono ?_); (case side1 => exact c1_ HO_12); (case side2 => exact (Kd.R_reads' HO_12.out).2.1); (case side3 => exact c1_ HO146); (case side4 => exact (Kd.R_reads' HO146.out).2.1); rintro e w' ⟨rfl, ⟨nd, rfl⟩⟩; refine ⟨_, rfl, ?_⟩) | ((with_reducible refine gate_callee (f := 12) rfl ?_); refine goesL_ (some 86) rfl rfl Try.func12 (by kernel_rfl) rfl #[.slice A2 l2.length c2] rfl (by (try simp only [List.map_toArray, List.map_cons, List.map_nil]); first | done | rfl | (simp only [List.length_drop, List.length_take]; rfl)) ?_; (with_reducible refine (laws_toInt64S.calls kj20 _ _ l2 t148 _ ?side1 ?side2 A95.out).mono ?_); (case side1 => repeat (first | exact (Kd.C_below HR2.out (gb_ HB.out)) | (with_reducible refine Kd.C_alloc ?_ _) | (with_reducible refine Kd.C_drewN ?_ _) | (with_reducible refine Kd.C_drew ?_))); (case side2 => exact HC2.out); rintro e w290 ⟨v149, rfl, ho0, hb⟩; refine ⟨_, rfl, ?_⟩; have HO150 := Aside0.mk (Kd.R_lower (Kd.R_new' (Kd.R_new' (Kd.R_new' (Kd.R_new' (Kd.R_new' (Kd.R_new' (Kd.R_new' (Kd.R_new' (Kd.R_new' ho0 (Kd.R_lt (rb_ HO_9.out))) (Kd.R_lt (rb_ HO_12.out))) (Kd.R_lt (rb_ HO_13.out))) (Kd.R_lt (rb_ HO_15.out))) (Kd.R_lt (rb_ HO_120000.out))) (Kd.R_lt (rb_ HO_124000.out))) (Kd.R_lt (rb_ HO_138000.out))) (Kd.R_lt (rb_ HO142.out))) (Kd.R_lt (rb_ HO146.out))) (below_size (gb_ HB.out))); replace HO_9 := a5_ HO_9 ho0 hb; replace HO_12 := a5_ HO_12 ho0 hb; replace HO_13 := a5_ HO_13 ho0 hb; replace HO_15 := a5_ HO_15 ho0 hb; replace HO_120000 := a5_ HO_120000 ho0 hb; replace HO_124000 := a5_ HO_124000 ho0 hb; replace HO_138000 := a5_ HO_138000 ho0 hb; replace HO142 := a5_ HO142 ho0 hb; replace HO146 := a5_ HO146 ho0 hb; replace BK101 := a2_ BK101 hb; replace BK119 := a2_ BK119 hb; replace BK123 := a2_ BK123 hb; replace BK137 := a2_ BK137 hb; replace HB := Aside0.mk (below_step (gb_ HB.out) hb); (try clear hb); (try clear hb2); (try clear hk); (try clear hi); (try clear ho0); obtain ⟨Ao291, co291, eo291⟩ := Kd.R_slice HO150.out; subst eo291) | ((with_reducible refine gate_callee (f := 15) rfl ?_); refine goesL_ (some 87) rfl rfl Try.func15 (by kernel_rfl) rfl #[.slice Ao48 t127.length co48, .slice Ao291 t148.length co291] rfl (by (try simp only [List.map_toArray, List.map_cons, List.map_nil]); first | done | rfl | (simp only [List.length_drop, List.length_take]; rfl)) ?_; (with_reducible refine (laws_eqInt64S.calls kj20 _ _ t127 _ _ t148 false _ ?side1 ?side2 ?side3 ?side4 A96.out).mono ?_); (case side1 => exact c1_ HO_13); (case side2 => exact (Kd.R_reads' HO_13.out).2.1); (case side3 => exact c1_ HO150); (case side4 => exact (Kd.R_reads' HO150.out).2.1); rintro e w' ⟨rfl, ⟨nd, rfl⟩⟩; refine ⟨_, rfl, ?_⟩))
          go_ret
          exact ⟨by first | rfl | (simp [errW_none, errW_some] <;> rfl) | (simp [*, errW_none, errW_some] <;> rfl), gb_ HB.out⟩
        ·replace c94 := Bool.eq_false_iff.mpr c94
         subst c94
         have H1 : (some false) = some r := by rw [if_neg (show ¬ (false = true) by decide)] at H; exact H
         clear H
         have H := H1
         clear H1
         obtain rfl := Option.some.inj H
         try go_wp2
         replace HO_9 := Aside0.mk (Kd.R_drew HO_9.out)
         replace HO_12 := Aside0.mk (Kd.R_drew HO_12.out)
         replace HO_13 := Aside0.mk (Kd.R_drew HO_13.out)
         replace HO_15 := Aside0.mk (Kd.R_drew HO_15.out)
         replace HO_120000 := Aside0.mk (Kd.R_drew HO_120000.out)
         replace HO_124000 := Aside0.mk (Kd.R_drew HO_124000.out)
         replace HO_138000 := Aside0.mk (Kd.R_drew HO_138000.out)
         replace BK101 := Aside0.mk (blk_drew BK101.out)
         replace BK119 := Aside0.mk (blk_drew BK119.out)
         replace BK123 := Aside0.mk (blk_drew BK123.out)
         replace BK137 := Aside0.mk (blk_drew BK137.out)
         replace HB := Aside0.mk (below_drew1 HB.out)
         refine start_ (n := 5) (S := fun w' => w'.cell? ⟨gb123, 0, none⟩ = some (.slice Ao40 t120.length co40) ∧ w'.cell? ⟨gb101, 0, none⟩ = some (.slice A0_0 l0_0.length c0_0)) (ds := []) #[false, false, false, false, false] (by kernel_rfl) rfl rfl ⟨(blk_cell BK123.out 0).trans rfl, (blk_cell BK101.out 0).trans rfl⟩ (fun hHeld => ?_)
         generalize wc.drew = w292 at HO_9 HO_12 HO_13 HO_15 HO_120000 HO_124000 HO_138000 BK101 BK119 BK123 BK137 HB hHeld ⊢
         refine take_ (i := 0) (N := some 74) (v := ?_) (a' := ?_) #[true, false, false, false, false] rfl rfl (by kernel_rfl) (fun _ _ _ h => h) (Or.inl ⟨by rfl, ?_⟩) hHeld ?_ ?_
         rotate_left
         ·rintro w' ⟨s0, s1⟩
          go_simp
          with_reducible rfl
         rotate_left
         ·simp only [Act.put, List.setIfInBounds_toArray, List.set_cons_zero, List.set_cons_succ, i64_w, i32_w]
          rfl
         refine take_ (i := 1) (N := some 75) (v := ?_) (a' := ?_) #[true, true, false, false, false] rfl rfl (by kernel_rfl) (fun _ _ _ h => h) (Or.inl ⟨by rfl, ?_⟩) hHeld ?_ ?_
         rotate_left
         ·rintro w' ⟨s0, s1⟩
          go_simp
          with_reducible rfl
         rotate_left
         ·simp only [Act.put, List.setIfInBounds_toArray, List.set_cons_zero, List.set_cons_succ, i64_w, i32_w]
          rfl
         refine one_ (i := 2) (N := some 76) #[true, true, true, false, false] rfl rfl (by kernel_rfl) (by decide) (fun K hK => ?_)
         refine goes_ Try.func11 (by kernel_rfl) rfl #[.agg #[.slice A0_0 l0_0.length c0_0]] (by rfl) rfl rfl (by (try simp only [List.map_toArray, List.map_cons, List.map_nil]); first | done | rfl | (simp only [List.length_drop, List.length_take]; rfl)) ?_
         with_reducible refine (laws_toSpace.calls kj20 _ _ l0_0 t140 _ ?side1 ?side2 A89.out).mono ?_
         (case side1 => exact c2_ HR0_0 HB)
         (case side2 => exact HC0_0.out)
         rintro e w293 ⟨v141, rfl, ho0, hb⟩
         refine ⟨_, rfl, ?_⟩
         have HO142 := Aside0.mk (Kd.R_lower (Kd.R_new' (Kd.R_new' (Kd.R_new' (Kd.R_new' (Kd.R_new' (Kd.R_new' (Kd.R_new' ho0 (Kd.R_lt (rb_ HO_9.out))) (Kd.R_lt (rb_ HO_12.out))) (Kd.R_lt (rb_ HO_13.out))) (Kd.R_lt (rb_ HO_15.out))) (Kd.R_lt (rb_ HO_120000.out))) (Kd.R_lt (rb_ HO_124000.out))) (Kd.R_lt (rb_ HO_138000.out))) (below_size (gb_ HB.out)))
         replace HO_9 := a5_ HO_9 ho0 hb
         replace HO_12 := a5_ HO_12 ho0 hb
         replace HO_13 := a5_ HO_13 ho0 hb
         replace HO_15 := a5_ HO_15 ho0 hb
         replace HO_120000 := a5_ HO_120000 ho0 hb
         replace HO_124000 := a5_ HO_124000 ho0 hb
         replace HO_138000 := a5_ HO_138000 ho0 hb
         replace BK101 := a2_ BK101 hb
         replace BK119 := a2_ BK119 hb
         replace BK123 := a2_ BK123 hb
         replace BK137 := a2_ BK137 hb
         replace HB := Aside0.mk (below_step (gb_ HB.out) hb)
         (try clear hb)
         (try clear hb2)
         (try clear hk)
         (try clear hi)
         (try clear ho0)
         obtain ⟨Ao294, co294, eo294⟩ := Kd.R_slice HO142.out
         (first | subst eo294 | (injection eo294 with f1_ f2_ f3_; have f4_ := f1_.symm; have f5_ := f3_.symm; clear f1_ f2_ f3_; subst f4_; subst f5_))
         refine hK.out _ _ ⟨(blk_cell BK123.out 0).trans rfl, (blk_cell BK101.out 0).trans rfl⟩ (fun hHeld => ?_)
         clear hK K
         refine norm_ (a' := ?_) ?_ ?_
         rotate_left
         ·show Act.put _ (some 76) _ = _
          simp only [Act.put, List.setIfInBounds_toArray, List.set_cons_zero, List.set_cons_succ, i64_w, i32_w]
          rfl
         refine one_ (i := 3) (N := some 77) #[true, true, true, true, false] rfl rfl (by kernel_rfl) (by decide) (fun K hK => ?_)
         refine goes_ Try.func14 (by kernel_rfl) rfl #[.agg #[.slice Ao40 t120.length co40], .agg #[.slice Ao294 t140.length co294]] (by rfl) rfl rfl (by (try simp only [List.map_toArray, List.map_cons, List.map_nil]); first | done | rfl | (simp only [List.length_drop, List.length_take]; rfl)) ?_
         with_reducible refine (laws_eqSpace.calls kj20 _ _ t120 _ _ t140 true _ ?side1 ?side2 ?side3 ?side4 A90.out).mono ?_
         (case side1 => exact c1_ HO_124000)
         (case side2 => exact (Kd.R_reads' HO_124000.out).2.1)
         (case side3 => exact c1_ HO142)
         (case side4 => exact (Kd.R_reads' HO142.out).2.1)
         rintro e w295 ⟨rfl, hb⟩
         refine ⟨_, rfl, ?_⟩
         replace HO_9 := a1_ HO_9 hb
         replace HO_12 := a1_ HO_12 hb
         replace HO_13 := a1_ HO_13 hb
         replace HO_15 := a1_ HO_15 hb
         replace HO_120000 := a1_ HO_120000 hb
         replace HO_124000 := a1_ HO_124000 hb
         replace HO_138000 := a1_ HO_138000 hb
         replace HO142 := a1_ HO142 hb
         replace BK101 := a2_ BK101 hb
         replace BK119 := a2_ BK119 hb
         replace BK123 := a2_ BK123 hb
         replace BK137 := a2_ BK137 hb
         replace HB := Aside0.mk (below_step (gb_ HB.out) hb)
         (try clear hb)
         (try clear hb2)
         (try clear hk)
         (try clear hi)
         refine hK.out _ _ ⟨(blk_cell BK123.out 0).trans rfl, (blk_cell BK101.out 0).trans rfl⟩ (fun hHeld => ?_)
         clear hK K
         refine norm_ (a' := ?_) ?_ ?_
         rotate_left
         ·show Act.put _ (some 77) _ = _
          simp only [Act.put, List.setIfInBounds_toArray, List.set_cons_zero, List.set_cons_succ, i64_w, i32_w]
          rfl
         refine pure_ (i := 4) (N := some 78) (v := ?_) (a' := ?_) #[true, true, true, true, true] rfl rfl (by kernel_rfl) (fun _ _ _ h => h) (Or.inl ⟨by rfl, ?_⟩) ?_ ?_
         rotate_left
         ·intro w'
          go_simp
          with_reducible rfl
         rotate_left
         ·simp only [Act.put, List.setIfInBounds_toArray, List.set_cons_zero, List.set_cons_succ, i64_w, i32_w]
          rfl
         refine done_ (by kernel_rfl) ?_
         try go_wp2_with (first | ((with_reducible refine gate_callee (f := 12) rfl ?_); refine goesL_ (some 81) rfl rfl Try.func12 (by kernel_rfl) rfl #[.slice A1 l1.length c1] rfl (by (try simp only [List.map_toArray, List.map_cons, List.map_nil]); first | done | rfl | (simp only [List.length_drop, List.length_take]; rfl)) ?_; (with_reducible refine (laws_toInt64S.calls kj20 _ _ l1 t144 _ ?side1 ?side2 A92.out).mono ?_); (case side1 => exact c2_ HR1 HB); (case side2 => exact HC1.out); rintro e w296 ⟨v145, rfl, ho0, hb⟩; refine ⟨_, rfl, ?_⟩; have HO146 := Aside0.mk (Kd.R_lower (Kd.R_new' (Kd.R_new' (Kd.R_new' (Kd.R_new' (Kd.R_new' (Kd.R_new' (Kd.R_new' (Kd.R_new' ho0 (Kd.R_lt (rb_ HO_9.out))) (Kd.R_lt (rb_ HO_12.out))) (Kd.R_lt (rb_ HO_13.out))) (Kd.R_lt (rb_ HO_15.out))) (Kd.R_lt (rb_ HO_120000.out))) (Kd.R_lt (rb_ HO_124000.out))) (Kd.R_lt (rb_ HO_138000.out))) (Kd.R_lt (rb_ HO142.out))) (below_size (gb_ HB.out))); replace HO_9 := a5_ HO_9 ho0 hb; replace HO_12 := a5_ HO_12 ho0 hb; replace HO_13 := a5_ HO_13 ho0 hb; replace HO_15 := a5_ HO_15 ho0 hb; replace HO_120000 := a5_ HO_120000 ho0 hb; replace HO_124000 := a5_ HO_124000 ho0 hb; replace HO_138000 := a5_ HO_138000 ho0 hb; replace HO142 := a5_ HO142 ho0 hb; replace BK101 := a2_ BK101 hb; replace BK119 := a2_ BK119 hb; replace BK123 := a2_ BK123 hb; replace BK137 := a2_ BK137 hb; replace HB := Aside0.mk (below_step (gb_ HB.out) hb); (try clear hb); (try clear hb2); (try clear hk); (try clear hi); (try clear ho0); obtain ⟨Ao297, co297, eo297⟩ := Kd.R_slice HO146.out; subst eo297) | ((with_reducible refine gate_callee (f := 15) rfl ?_); refine goesL_ (some 82) rfl rfl Try.func15 (by kernel_rfl) rfl #[.slice Ao47 t124.length co47, .slice Ao297 t144.length co297] rfl (by (try simp only [List.map_toArray, List.map_cons, List.map_nil]); first | done | rfl | (simp only [List.length_drop, List.length_take]; rfl)) ?_; (with_reducible refine (laws_eqInt64S.calls kj20 _ _ t124 _ _ t144 false _ ?side1 ?side2 ?side3 ?side4 A93.out).mono ?_); (case side1 => exact c1_ HO_12); (case side2 => exact (Kd.R_reads' HO_12.out).2.1); (case side3 => exact c1_ HO146); (case side4 => exact (Kd.R_reads' HO146.out).2.1); rintro e w' ⟨rfl, ⟨nd, rfl⟩⟩; refine ⟨_, rfl, ?_⟩))
         go_ret
         exact ⟨by first | rfl | (simp [errW_none, errW_some] <;> rfl) | (simp [*, errW_none, errW_some] <;> rfl), gb_ HB.out⟩
       ·replace c91 := Bool.eq_false_iff.mpr c91
        subst c91
        have H1 : (some false) = some r := by rw [if_neg (show ¬ (false = true) by decide)] at H; exact H
        clear H
        have H := H1
        clear H1
        obtain rfl := Option.some.inj H
        try go_wp2
        replace HO_9 := Aside0.mk (Kd.R_drew HO_9.out)
        replace HO_12 := Aside0.mk (Kd.R_drew HO_12.out)
        replace HO_13 := Aside0.mk (Kd.R_drew HO_13.out)
        replace HO_15 := Aside0.mk (Kd.R_drew HO_15.out)
        replace HO_120000 := Aside0.mk (Kd.R_drew HO_120000.out)
        replace HO_124000 := Aside0.mk (Kd.R_drew HO_124000.out)
        replace HO_138000 := Aside0.mk (Kd.R_drew HO_138000.out)
        replace BK101 := Aside0.mk (blk_drew BK101.out)
        replace BK119 := Aside0.mk (blk_drew BK119.out)
        replace BK123 := Aside0.mk (blk_drew BK123.out)
        replace BK137 := Aside0.mk (blk_drew BK137.out)
        replace HB := Aside0.mk (below_drew1 HB.out)
        refine start_ (n := 5) (S := fun w' => w'.cell? ⟨gb123, 0, none⟩ = some (.slice Ao40 t120.length co40) ∧ w'.cell? ⟨gb101, 0, none⟩ = some (.slice A0_0 l0_0.length c0_0)) (ds := []) #[false, false, false, false, false] (by kernel_rfl) rfl rfl ⟨(blk_cell BK123.out 0).trans rfl, (blk_cell BK101.out 0).trans rfl⟩ (fun hHeld => ?_)
        generalize wc.drew = w298 at HO_9 HO_12 HO_13 HO_15 HO_120000 HO_124000 HO_138000 BK101 BK119 BK123 BK137 HB hHeld ⊢
        refine take_ (i := 0) (N := some 74) (v := ?_) (a' := ?_) #[true, false, false, false, false] rfl rfl (by kernel_rfl) (fun _ _ _ h => h) (Or.inl ⟨by rfl, ?_⟩) hHeld ?_ ?_
        rotate_left
        ·rintro w' ⟨s0, s1⟩
         go_simp
         with_reducible rfl
        rotate_left
        ·simp only [Act.put, List.setIfInBounds_toArray, List.set_cons_zero, List.set_cons_succ, i64_w, i32_w]
         rfl
        refine take_ (i := 1) (N := some 75) (v := ?_) (a' := ?_) #[true, true, false, false, false] rfl rfl (by kernel_rfl) (fun _ _ _ h => h) (Or.inl ⟨by rfl, ?_⟩) hHeld ?_ ?_
        rotate_left
        ·rintro w' ⟨s0, s1⟩
         go_simp
         with_reducible rfl
        rotate_left
        ·simp only [Act.put, List.setIfInBounds_toArray, List.set_cons_zero, List.set_cons_succ, i64_w, i32_w]
         rfl
        refine one_ (i := 2) (N := some 76) #[true, true, true, false, false] rfl rfl (by kernel_rfl) (by decide) (fun K hK => ?_)
        refine goes_ Try.func11 (by kernel_rfl) rfl #[.agg #[.slice A0_0 l0_0.length c0_0]] (by rfl) rfl rfl (by (try simp only [List.map_toArray, List.map_cons, List.map_nil]); first | done | rfl | (simp only [List.length_drop, List.length_take]; rfl)) ?_
        with_reducible refine (laws_toSpace.calls kj20 _ _ l0_0 t140 _ ?side1 ?side2 A89.out).mono ?_
        (case side1 => exact c2_ HR0_0 HB)
        (case side2 => exact HC0_0.out)
        rintro e w299 ⟨v141, rfl, ho0, hb⟩
        refine ⟨_, rfl, ?_⟩
        have HO142 := Aside0.mk (Kd.R_lower (Kd.R_new' (Kd.R_new' (Kd.R_new' (Kd.R_new' (Kd.R_new' (Kd.R_new' (Kd.R_new' ho0 (Kd.R_lt (rb_ HO_9.out))) (Kd.R_lt (rb_ HO_12.out))) (Kd.R_lt (rb_ HO_13.out))) (Kd.R_lt (rb_ HO_15.out))) (Kd.R_lt (rb_ HO_120000.out))) (Kd.R_lt (rb_ HO_124000.out))) (Kd.R_lt (rb_ HO_138000.out))) (below_size (gb_ HB.out)))
        replace HO_9 := a5_ HO_9 ho0 hb
        replace HO_12 := a5_ HO_12 ho0 hb
        replace HO_13 := a5_ HO_13 ho0 hb
        replace HO_15 := a5_ HO_15 ho0 hb
        replace HO_120000 := a5_ HO_120000 ho0 hb
        replace HO_124000 := a5_ HO_124000 ho0 hb
        replace HO_138000 := a5_ HO_138000 ho0 hb
        replace BK101 := a2_ BK101 hb
        replace BK119 := a2_ BK119 hb
        replace BK123 := a2_ BK123 hb
        replace BK137 := a2_ BK137 hb
        replace HB := Aside0.mk (below_step (gb_ HB.out) hb)
        (try clear hb)
        (try clear hb2)
        (try clear hk)
        (try clear hi)
        (try clear ho0)
        obtain ⟨Ao300, co300, eo300⟩ := Kd.R_slice HO142.out
        (first | subst eo300 | (injection eo300 with f1_ f2_ f3_; have f4_ := f1_.symm; have f5_ := f3_.symm; clear f1_ f2_ f3_; subst f4_; subst f5_))
        refine hK.out _ _ ⟨(blk_cell BK123.out 0).trans rfl, (blk_cell BK101.out 0).trans rfl⟩ (fun hHeld => ?_)
        clear hK K
        refine norm_ (a' := ?_) ?_ ?_
        rotate_left
        ·show Act.put _ (some 76) _ = _
         simp only [Act.put, List.setIfInBounds_toArray, List.set_cons_zero, List.set_cons_succ, i64_w, i32_w]
         rfl
        refine one_ (i := 3) (N := some 77) #[true, true, true, true, false] rfl rfl (by kernel_rfl) (by decide) (fun K hK => ?_)
        refine goes_ Try.func14 (by kernel_rfl) rfl #[.agg #[.slice Ao40 t120.length co40], .agg #[.slice Ao300 t140.length co300]] (by rfl) rfl rfl (by (try simp only [List.map_toArray, List.map_cons, List.map_nil]); first | done | rfl | (simp only [List.length_drop, List.length_take]; rfl)) ?_
        with_reducible refine (laws_eqSpace.calls kj20 _ _ t120 _ _ t140 false _ ?side1 ?side2 ?side3 ?side4 A90.out).mono ?_
        (case side1 => exact c1_ HO_124000)
        (case side2 => exact (Kd.R_reads' HO_124000.out).2.1)
        (case side3 => exact c1_ HO142)
        (case side4 => exact (Kd.R_reads' HO142.out).2.1)
        rintro e w301 ⟨rfl, hb⟩
        refine ⟨_, rfl, ?_⟩
        replace HO_9 := a1_ HO_9 hb
        replace HO_12 := a1_ HO_12 hb
        replace HO_13 := a1_ HO_13 hb
        replace HO_15 := a1_ HO_15 hb
        replace HO_120000 := a1_ HO_120000 hb
        replace HO_124000 := a1_ HO_124000 hb
        replace HO_138000 := a1_ HO_138000 hb
        replace HO142 := a1_ HO142 hb
        replace BK101 := a2_ BK101 hb
        replace BK119 := a2_ BK119 hb
        replace BK123 := a2_ BK123 hb
        replace BK137 := a2_ BK137 hb
        replace HB := Aside0.mk (below_step (gb_ HB.out) hb)
        (try clear hb)
        (try clear hb2)
        (try clear hk)
        (try clear hi)
        refine hK.out _ _ ⟨(blk_cell BK123.out 0).trans rfl, (blk_cell BK101.out 0).trans rfl⟩ (fun hHeld => ?_)
        clear hK K
        refine norm_ (a' := ?_) ?_ ?_
        rotate_left
        ·show Act.put _ (some 77) _ = _
         simp only [Act.put, List.setIfInBounds_toArray, List.set_cons_zero, List.set_cons_succ, i64_w, i32_w]
         rfl
        refine pure_ (i := 4) (N := some 78) (v := ?_) (a' := ?_) #[true, true, true, true, true] rfl rfl (by kernel_rfl) (fun _ _ _ h => h) (Or.inl ⟨by rfl, ?_⟩) ?_ ?_
        rotate_left
        ·intro w'
         go_simp
         with_reducible rfl
        rotate_left
        ·simp only [Act.put, List.setIfInBounds_toArray, List.set_cons_zero, List.set_cons_succ, i64_w, i32_w]
         rfl
        refine done_ (by kernel_rfl) ?_
        try go_wp2
        go_ret
        exact ⟨by first | rfl | (simp [errW_none, errW_some] <;> rfl) | (simp [*, errW_none, errW_some] <;> rfl), gb_ HB.out⟩

end Go.Proofs.Ytbhgnphdhkmliaa.P
