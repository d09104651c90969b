/- Walks of Go functions, printed for this seat by this session's driver with the kit's print program: each says that a call returns what the plain Lean function beside it says. -/
import Derived.Test.YtbhgnphdhkmliaaF0
import Derived.Test.YtbhgnphdhkmliaaFBase
import Derived.Test.YtbhgnphdhkmliaaFspecGreedyCode
import Derived.Test.YtbhgnphdhkmliaaHGreedy
namespace Go.Proofs.Ytbhgnphdhkmliaa.P
open Go.RowKit Go.Proofs.YtbhgnphdhkmliaaW.PrintWords Go.Proofs.YtbhgnphdhkmliaaW.PrintLast Go.Proofs.YtbhgnphdhkmliaaW.PrintMore
attribute [local go_sem] max2_int min2_int max_two min_two max_three min_three max_four min_four
set_option linter.unusedVariables false
set_option linter.unusedSimpArgs false

/-! ### laws_FnExactGreedyCode: function 7 -/
mutual
def laws_FnExactGreedyCode.j0 : Nat → Int → List Int → Int → List Int → Int → Bool → List Int → List Int → Option (Bool)
  | 0, _, _, _, _, _, _, _, _ => none
  | k + 1, x1, x6, x7, x9, x10, x44, x102000, x114000 => if x44 = true then (some false) else ((laws_toSpace.f k x102000).bind fun t119 => ((laws_eqSpace.f k x114000 t119).bind fun t122 => (if t122 = true then ((laws_markSpace.f k x114000 1).bind fun bt123 => (if bt123.1 < 0 then (laws_FnExactGreedyCode.j1 k x1 x6 x7 x9 true x102000) else ((laws_eqInt64S.f k x9 x6).bind fun t125 => (if t125 = true then (laws_FnExactGreedyCode.j1 k x1 x6 x7 x9 (x10 != x7) x102000) else (laws_FnExactGreedyCode.j1 k x1 x6 x7 x9 true x102000))))) else (some false))))
def laws_FnExactGreedyCode.j1 : Nat → Int → List Int → Int → List Int → Bool → List Int → Option (Bool)
  | 0, _, _, _, _, _, _ => none
  | k + 1, x1, x6, x7, x9, x65, x102000 => if x65 = true then (some false) else ((laws_markInt64S.f k x9 1).bind fun bt126 => ((laws_heldInt64S.f k bt126.2 1).bind fun t128 => (if t128 < 0 then (some false) else (if t128 = bt126.1 then ((laws_toSpace.f k x102000).bind fun t129 => ((impl_GreedyCode.f t129 x1).bind fun bt132 => ((laws_eqInt64S.f k bt132.1 x6).bind fun t136 => (if t136 = true then (laws_FnExactGreedyCode.j2 k bt126.2 bt126.1 (bt132.2 != x7)) else (laws_FnExactGreedyCode.j2 k bt126.2 bt126.1 true))))) else (some false)))))
def laws_FnExactGreedyCode.j2 : Nat → List Int → Int → Bool → Option (Bool)
  | 0, _, _, _ => none
  | k + 1, x9, x12, x92 => if x92 = true then (some false) else ((laws_heldInt64S.f k x9 1).bind fun t137 => (if t137 < 0 then (some false) else (if t137 = x12 then (some true) else (some false))))
end
def laws_FnExactGreedyCode.f (k : Nat) (l0_0 : List Int) (a1 : Int) : Option (Bool) := (laws_szSpace.f l0_0 1048576).bind fun t102 => (if t102 < 0 then (some true) else ((laws_toSpace.f k l0_0).bind fun t103 => ((spec_GreedyCode.f k t103 a1).bind fun bt106 => ((laws_toSpace.f k l0_0).bind fun t110 => ((impl_GreedyCode.f t110 a1).bind fun bt114 => ((laws_eqInt64S.f k bt114.1 bt106.1).bind fun t118 => (if t118 = true then (laws_FnExactGreedyCode.j0 k a1 bt106.1 bt106.2 bt114.1 bt114.2 (bt114.2 != bt106.2) l0_0 t110) else (laws_FnExactGreedyCode.j0 k a1 bt106.1 bt106.2 bt114.1 bt114.2 true l0_0 t110))))))))
theorem laws_FnExactGreedyCode.mono_l : ∀ k, (∀ y0 y1 y2 y3 y4 y5 y6 y7, LeO (laws_FnExactGreedyCode.j0 k y0 y1 y2 y3 y4 y5 y6 y7) (laws_FnExactGreedyCode.j0 (k + 1) y0 y1 y2 y3 y4 y5 y6 y7)) ∧ (∀ y0 y1 y2 y3 y4 y5, LeO (laws_FnExactGreedyCode.j1 k y0 y1 y2 y3 y4 y5) (laws_FnExactGreedyCode.j1 (k + 1) y0 y1 y2 y3 y4 y5)) ∧ (∀ y0 y1 y2, LeO (laws_FnExactGreedyCode.j2 k y0 y1 y2) (laws_FnExactGreedyCode.j2 (k + 1) y0 y1 y2))
  | 0 => ⟨fun _ _ _ _ _ _ _ _ r h => by simp [laws_FnExactGreedyCode.j0] at h, fun _ _ _ _ _ _ r h => by simp [laws_FnExactGreedyCode.j1] at h, fun _ _ _ r h => by simp [laws_FnExactGreedyCode.j2] at h⟩
  | k + 1 => by
    obtain ⟨ih0, ih1, ih2⟩ := laws_FnExactGreedyCode.mono_l k
    refine ⟨?_, ?_, ?_⟩
    · intro y0 y1 y2 y3 y4 y5 y6 y7
      unfold laws_FnExactGreedyCode.j0
      repeat' first
      | (with_reducible exact ih0 _ _ _ _ _ _ _ _)
      | (with_reducible exact ih1 _ _ _ _ _ _)
      | (with_reducible exact ih2 _ _ _)
      | (with_reducible exact laws_eqInt64S.mono _ _ _)
      | (with_reducible exact laws_eqSpace.mono _ _ _)
      | (with_reducible exact laws_heldInt64S.mono _ _ _)
      | (with_reducible exact laws_markInt64S.mono _ _ _)
      | (with_reducible exact laws_markSpace.mono _ _ _)
      | (with_reducible exact laws_toSpace.mono _ _)
      | (with_reducible exact spec_GreedyCode.mono _ _ _)
      | (with_reducible exact LeO.refl _)
      | (with_reducible exact LeO.none _)
      | (with_reducible refine LeO.ite ?_ ?_)
      | (with_reducible refine LeO.bind ?_ (fun _ => ?_))
      | exact ih0 _ _ _ _ _ _ _ _
      | exact ih1 _ _ _ _ _ _
      | exact ih2 _ _ _
      | exact laws_eqInt64S.mono _ _ _
      | exact laws_eqSpace.mono _ _ _
      | exact laws_heldInt64S.mono _ _ _
      | exact laws_markInt64S.mono _ _ _
      | exact laws_markSpace.mono _ _ _
      | exact laws_toSpace.mono _ _
      | exact spec_GreedyCode.mono _ _ _
      | exact LeO.none _
      | refine LeO.ite ?_ ?_
      | refine LeO.bind ?_ (fun _ => ?_)
    · intro y0 y1 y2 y3 y4 y5
      unfold laws_FnExactGreedyCode.j1
      repeat' first
      | (with_reducible exact ih0 _ _ _ _ _ _ _ _)
      | (with_reducible exact ih1 _ _ _ _ _ _)
      | (with_reducible exact ih2 _ _ _)
      | (with_reducible exact laws_eqInt64S.mono _ _ _)
      | (with_reducible exact laws_eqSpace.mono _ _ _)
      | (with_reducible exact laws_heldInt64S.mono _ _ _)
      | (with_reducible exact laws_markInt64S.mono _ _ _)
      | (with_reducible exact laws_markSpace.mono _ _ _)
      | (with_reducible exact laws_toSpace.mono _ _)
      | (with_reducible exact spec_GreedyCode.mono _ _ _)
      | (with_reducible exact LeO.refl _)
      | (with_reducible exact LeO.none _)
      | (with_reducible refine LeO.ite ?_ ?_)
      | (with_reducible refine LeO.bind ?_ (fun _ => ?_))
      | exact ih0 _ _ _ _ _ _ _ _
      | exact ih1 _ _ _ _ _ _
      | exact ih2 _ _ _
      | exact laws_eqInt64S.mono _ _ _
      | exact laws_eqSpace.mono _ _ _
      | exact laws_heldInt64S.mono _ _ _
      | exact laws_markInt64S.mono _ _ _
      | exact laws_markSpace.mono _ _ _
      | exact laws_toSpace.mono _ _
      | exact spec_GreedyCode.mono _ _ _
      | exact LeO.none _
      | refine LeO.ite ?_ ?_
      | refine LeO.bind ?_ (fun _ => ?_)
    · intro y0 y1 y2
      unfold laws_FnExactGreedyCode.j2
      repeat' first
      | (with_reducible exact ih0 _ _ _ _ _ _ _ _)
      | (with_reducible exact ih1 _ _ _ _ _ _)
      | (with_reducible exact ih2 _ _ _)
      | (with_reducible exact laws_eqInt64S.mono _ _ _)
      | (with_reducible exact laws_eqSpace.mono _ _ _)
      | (with_reducible exact laws_heldInt64S.mono _ _ _)
      | (with_reducible exact laws_markInt64S.mono _ _ _)
      | (with_reducible exact laws_markSpace.mono _ _ _)
      | (with_reducible exact laws_toSpace.mono _ _)
      | (with_reducible exact spec_GreedyCode.mono _ _ _)
      | (with_reducible exact LeO.refl _)
      | (with_reducible exact LeO.none _)
      | (with_reducible refine LeO.ite ?_ ?_)
      | (with_reducible refine LeO.bind ?_ (fun _ => ?_))
      | exact ih0 _ _ _ _ _ _ _ _
      | exact ih1 _ _ _ _ _ _
      | exact ih2 _ _ _
      | exact laws_eqInt64S.mono _ _ _
      | exact laws_eqSpace.mono _ _ _
      | exact laws_heldInt64S.mono _ _ _
      | exact laws_markInt64S.mono _ _ _
      | exact laws_markSpace.mono _ _ _
      | exact laws_toSpace.mono _ _
      | exact spec_GreedyCode.mono _ _ _
      | exact LeO.none _
      | refine LeO.ite ?_ ?_
      | refine LeO.bind ?_ (fun _ => ?_)
theorem laws_FnExactGreedyCode.mono : ∀ a0 a1 k, LeO (laws_FnExactGreedyCode.f k a0 a1) (laws_FnExactGreedyCode.f (k + 1) a0 a1) := by
  intro a0 a1 k
  obtain ⟨ih0, ih1, ih2⟩ := laws_FnExactGreedyCode.mono_l k
  unfold laws_FnExactGreedyCode.f
  repeat' first
      | (with_reducible exact ih0 _ _ _ _ _ _ _ _)
      | (with_reducible exact ih1 _ _ _ _ _ _)
      | (with_reducible exact ih2 _ _ _)
      | (with_reducible exact laws_eqInt64S.mono _ _ _)
      | (with_reducible exact laws_eqSpace.mono _ _ _)
      | (with_reducible exact laws_heldInt64S.mono _ _ _)
      | (with_reducible exact laws_markInt64S.mono _ _ _)
      | (with_reducible exact laws_markSpace.mono _ _ _)
      | (with_reducible exact laws_toSpace.mono _ _)
      | (with_reducible exact spec_GreedyCode.mono _ _ _)
      | (with_reducible exact LeO.refl _)
      | (with_reducible exact LeO.none _)
      | (with_reducible refine LeO.ite ?_ ?_)
      | (with_reducible refine LeO.bind ?_ (fun _ => ?_))
      | exact ih0 _ _ _ _ _ _ _ _
      | exact ih1 _ _ _ _ _ _
      | exact ih2 _ _ _
      | exact laws_eqInt64S.mono _ _ _
      | exact laws_eqSpace.mono _ _ _
      | exact laws_heldInt64S.mono _ _ _
      | exact laws_markInt64S.mono _ _ _
      | exact laws_markSpace.mono _ _ _
      | exact laws_toSpace.mono _ _
      | exact spec_GreedyCode.mono _ _ _
      | exact LeO.none _
      | refine LeO.ite ?_ ?_
      | refine LeO.bind ?_ (fun _ => ?_)
set_option maxHeartbeats 8000000 in
set_option maxRecDepth 100000 in
theorem laws_FnExactGreedyCode.calls (k : Nat) (A0_0 : Option Addr) (c0_0 : Nat) (l0_0 : List Int) (a1 : Int) (r : Bool) (w : World) (hr0_0 : Kd.C (Kd.int .i64) w A0_0 l0_0.length l0_0) (hc0_0 : l0_0.length ≤ c0_0) (h : laws_FnExactGreedyCode.f k l0_0 a1 = some r) :
  Calls Try.prog 7 #[.agg #[.slice A0_0 l0_0.length c0_0], .int .i64 a1] w fun e w' => e = .returned (.bool r) ∧ Below w.heap.size w w' := by
 have hu24 := Try.underlying24
 have hu26 := Try.underlying26
 have HR0_0 := Aside0.mk hr0_0
 have HC0_0 := Aside0.mk hc0_0
 clear hr0_0 hc0_0
 have HB := Aside0.mk (Below.refl w.heap.size w)
 have H : ((laws_szSpace.f l0_0 1048576).bind fun t102 => (if t102 < 0 then (some true) else ((laws_toSpace.f k l0_0).bind fun t103 => ((spec_GreedyCode.f k t103 a1).bind fun bt106 => ((laws_toSpace.f k l0_0).bind fun t110 => ((impl_GreedyCode.f t110 a1).bind fun bt114 => ((laws_eqInt64S.f k bt114.1 bt106.1).bind fun t118 => (if t118 = true then (laws_FnExactGreedyCode.j0 k a1 bt106.1 bt106.2 bt114.1 bt114.2 (bt114.2 != bt106.2) l0_0 t110) else (laws_FnExactGreedyCode.j0 k a1 bt106.1 bt106.2 bt114.1 bt114.2 true l0_0 t110))))))))) = some r := h
 clear h
 replace H := Option.bind_eq_some_iff.mp H
 obtain ⟨t102, A30, H⟩ := H
 replace H : (if t102 < 0 then (some true) else ((laws_toSpace.f k l0_0).bind fun t103 => ((spec_GreedyCode.f k t103 a1).bind fun bt106 => ((laws_toSpace.f k l0_0).bind fun t110 => ((impl_GreedyCode.f t110 a1).bind fun bt114 => ((laws_eqInt64S.f k bt114.1 bt106.1).bind fun t118 => (if t118 = true then (laws_FnExactGreedyCode.j0 k a1 bt106.1 bt106.2 bt114.1 bt114.2 (bt114.2 != bt106.2) l0_0 t110) else (laws_FnExactGreedyCode.j0 k a1 bt106.1 bt106.2 bt114.1 bt114.2 true l0_0 t110)))))))) = some r := H
 have A3 := Aside0.mk A30
 clear A30
 by_cases c4 : t102 < 0
 ·rw [if_pos c4] at H
  have c4b0 : decide (t102 < 0) = true := decide_eq_true c4
  clear c4
  obtain rfl := Option.some.inj H
  go_enter Try.func7, Try.ntmps7
  go_wp2_with (first | ((with_reducible refine gate_dst (N := 2) rfl ?_); refine box_event ?hg (N := 2) ?hd (cs := #[.slice A0_0 l0_0.length c0_0]) (t := 24) ?hr ?_; (case hd => rfl); (case hg => rfl); (case hr => first | (go_simp; done) | (go_simp; rfl)); intro gb101 hg w5 hbox hb; have n0_ := Aside0.mk (below_step (gb_ HB.out) hb); have n1_ := Aside0.mk (hbox); have n2_ := Aside0.mk ((by rw [hg]; exact (below_size (gb_ HB.out)) : w.heap.size ≤ gb101)); have n3_ := Aside0.mk ((by rw [hg]; exact (below_size (gb_ HB.out)) : w.heap.size ≤ gb101)); clear HB; have HB := n0_; have BK101 := n1_; have GW101 := n2_; have GE101 := n3_; clear n0_ n1_ n2_ n3_ hb hbox hg; have hcz6_0 : w5.cell? ⟨gb101, 0, none⟩ = some (.slice A0_0 l0_0.length c0_0) := (blk_cell BK101.out 0).trans rfl; have hfz6_0 := blk_frozen BK101.out 0) | ((with_reducible refine gate_callee (f := 9) rfl ?_); refine goesL_ (some 18) rfl rfl Try.func9 (by kernel_rfl) rfl #[.agg #[.slice A0_0 l0_0.length c0_0], .int .i64 1048576] rfl (by (try simp only [List.map_toArray, List.map_cons, List.map_nil]); first | done | rfl | (simp only [List.length_drop, List.length_take]; rfl)) ?_; (with_reducible refine (laws_szSpace.calls _ _ l0_0 1048576 t102 _ ?side1 ?side2 A3.out).mono ?_); (case side1 => exact c2_ HR0_0 HB); (case side2 => exact HC0_0.out); rintro e w7 ⟨rfl, hb⟩; refine ⟨_, rfl, ?_⟩; replace BK101 := a2_ BK101 hb; replace HB := Aside0.mk (below_step (gb_ HB.out) hb); (try clear hb); (try clear hb2); (try clear hk); (try clear hi)))
  go_ret
  exact ⟨by first | rfl | (simp [errW_none, errW_some] <;> rfl) | (simp [*, errW_none, errW_some] <;> rfl), gb_ HB.out⟩
 ·rw [if_neg c4] at H
  have c4b0 : decide (t102 < 0) = false := decide_eq_false c4
  clear c4
  replace H := Option.bind_eq_some_iff.mp H
  obtain ⟨t103, A80, H⟩ := H
  replace H : ((spec_GreedyCode.f k t103 a1).bind fun bt106 => ((laws_toSpace.f k l0_0).bind fun t110 => ((impl_GreedyCode.f t110 a1).bind fun bt114 => ((laws_eqInt64S.f k bt114.1 bt106.1).bind fun t118 => (if t118 = true then (laws_FnExactGreedyCode.j0 k a1 bt106.1 bt106.2 bt114.1 bt114.2 (bt114.2 != bt106.2) l0_0 t110) else (laws_FnExactGreedyCode.j0 k a1 bt106.1 bt106.2 bt114.1 bt114.2 true l0_0 t110)))))) = some r := H
  have A8 := Aside0.mk A80
  clear A80
  replace H := Option.bind_eq_some_iff.mp H
  obtain ⟨⟨t106, t109⟩, A90, H⟩ := H
  replace H : ((laws_toSpace.f k l0_0).bind fun t110 => ((impl_GreedyCode.f t110 a1).bind fun bt114 => ((laws_eqInt64S.f k bt114.1 t106).bind fun t118 => (if t118 = true then (laws_FnExactGreedyCode.j0 k a1 t106 t109 bt114.1 bt114.2 (bt114.2 != t109) l0_0 t110) else (laws_FnExactGreedyCode.j0 k a1 t106 t109 bt114.1 bt114.2 true l0_0 t110))))) = some r := H
  have A9 := Aside0.mk A90
  clear A90
  replace H := Option.bind_eq_some_iff.mp H
  obtain ⟨t110, A100, H⟩ := H
  replace H : ((impl_GreedyCode.f t110 a1).bind fun bt114 => ((laws_eqInt64S.f k bt114.1 t106).bind fun t118 => (if t118 = true then (laws_FnExactGreedyCode.j0 k a1 t106 t109 bt114.1 bt114.2 (bt114.2 != t109) l0_0 t110) else (laws_FnExactGreedyCode.j0 k a1 t106 t109 bt114.1 bt114.2 true l0_0 t110)))) = some r := H
  have A10 := Aside0.mk A100
  clear A100
  replace H := Option.bind_eq_some_iff.mp H
  obtain ⟨⟨t114, t117⟩, A110, H⟩ := H
  replace H : ((laws_eqInt64S.f k t114 t106).bind fun t118 => (if t118 = true then (laws_FnExactGreedyCode.j0 k a1 t106 t109 t114 t117 (t117 != t109) l0_0 t110) else (laws_FnExactGreedyCode.j0 k a1 t106 t109 t114 t117 true l0_0 t110))) = some r := H
  have A11 := Aside0.mk A110
  clear A110
  have HC12 := Aside0.mk H
  clear H
  go_enter Try.func7, Try.ntmps7
  go_upto_region 8 with (first | ((with_reducible refine gate_dst (N := 2) rfl ?_); refine box_event ?hg (N := 2) ?hd (cs := #[.slice A0_0 l0_0.length c0_0]) (t := 24) ?hr ?_; (case hd => rfl); (case hg => rfl); (case hr => first | (go_simp; done) | (go_simp; rfl)); intro gb101 hg w13 hbox hb; have n0_ := Aside0.mk (below_step (gb_ HB.out) hb); have n1_ := Aside0.mk (hbox); have n2_ := Aside0.mk ((by rw [hg]; exact (below_size (gb_ HB.out)) : w.heap.size ≤ gb101)); have n3_ := Aside0.mk ((by rw [hg]; exact (below_size (gb_ HB.out)) : w.heap.size ≤ gb101)); clear HB; have HB := n0_; have BK101 := n1_; have GW101 := n2_; have GE101 := n3_; clear n0_ n1_ n2_ n3_ hb hbox hg; have hcz14_0 : w13.cell? ⟨gb101, 0, none⟩ = some (.slice A0_0 l0_0.length c0_0) := (blk_cell BK101.out 0).trans rfl; have hfz14_0 := blk_frozen BK101.out 0) | ((with_reducible refine gate_callee (f := 9) rfl ?_); refine goesL_ (some 18) rfl rfl Try.func9 (by kernel_rfl) rfl #[.agg #[.slice A0_0 l0_0.length c0_0], .int .i64 1048576] rfl (by (try simp only [List.map_toArray, List.map_cons, List.map_nil]); first | done | rfl | (simp only [List.length_drop, List.length_take]; rfl)) ?_; (with_reducible refine (laws_szSpace.calls _ _ l0_0 1048576 t102 _ ?side1 ?side2 A3.out).mono ?_); (case side1 => exact c2_ HR0_0 HB); (case side2 => exact HC0_0.out); rintro e w15 ⟨rfl, hb⟩; refine ⟨_, rfl, ?_⟩; replace BK101 := a2_ BK101 hb; replace HB := Aside0.mk (below_step (gb_ HB.out) hb); (try clear hb); (try clear hb2); (try clear hk); (try clear hi); have hcz16_0 : w15.cell? ⟨gb101, 0, none⟩ = some (.slice A0_0 l0_0.length c0_0) := (blk_cell BK101.out 0).trans rfl; have hfz16_0 := blk_frozen BK101.out 0) | ((with_reducible refine gate_callee (f := 11) rfl ?_); refine goesL_ (some 23) rfl rfl Try.func11 (by kernel_rfl) rfl #[.agg #[.slice A0_0 l0_0.length c0_0]] rfl (by (try simp only [List.map_toArray, List.map_cons, List.map_nil]); first | done | rfl | (simp only [List.length_drop, List.length_take]; rfl)) ?_; (with_reducible refine (laws_toSpace.calls k _ _ l0_0 t103 _ ?side1 ?side2 A8.out).mono ?_); (case side1 => exact c2_ HR0_0 HB); (case side2 => exact HC0_0.out); rintro e w17 ⟨v104, rfl, ho0, hb⟩; refine ⟨_, rfl, ?_⟩; have HO105 := Aside0.mk (Kd.R_lower ho0 (below_size (gb_ HB.out))); replace BK101 := a2_ BK101 hb; replace HB := Aside0.mk (below_step (gb_ HB.out) hb); (try clear hb); (try clear hb2); (try clear hk); (try clear hi); (try clear ho0); obtain ⟨Ao18, co18, eo18⟩ := Kd.R_slice HO105.out; subst eo18) | ((with_reducible refine gate_callee (f := 26) rfl ?_); refine goesL_ (some 25) rfl rfl Try.func26 (by kernel_rfl) rfl #[.agg #[.slice Ao18 t103.length co18], .int .i64 a1] rfl (by (try simp only [List.map_toArray, List.map_cons, List.map_nil]); first | done | rfl | (simp only [List.length_drop, List.length_take]; rfl)) ?_; (with_reducible refine (spec_GreedyCode.calls k _ _ t103 a1 t106 t109 _ ?side1 ?side2 A9.out).mono ?_); (case side1 => exact c1_ HO105); (case side2 => exact (Kd.R_reads' HO105.out).2.1); rintro e w19 ⟨v107, rfl, ho0, hb⟩; refine ⟨_, rfl, ?_⟩; have HO108 := Aside0.mk (Kd.R_lower (Kd.R_new' ho0 (Kd.R_lt (rb_ HO105.out))) (below_size (gb_ HB.out))); replace HO105 := a5_ HO105 ho0 hb; replace BK101 := a2_ BK101 hb; replace HB := Aside0.mk (below_step (gb_ HB.out) hb); (try clear hb); (try clear hb2); (try clear hk); (try clear hi); (try clear ho0); have hcz20_0 : w19.cell? ⟨gb101, 0, none⟩ = some (.slice A0_0 l0_0.length c0_0) := (blk_cell BK101.out 0).trans rfl; have hfz20_0 := blk_frozen BK101.out 0) | ((with_reducible refine gate_callee (f := 11) rfl ?_); refine goesL_ (some 29) rfl rfl Try.func11 (by kernel_rfl) rfl #[.agg #[.slice A0_0 l0_0.length c0_0]] rfl (by (try simp only [List.map_toArray, List.map_cons, List.map_nil]); first | done | rfl | (simp only [List.length_drop, List.length_take]; rfl)) ?_; (with_reducible refine (laws_toSpace.calls k _ _ l0_0 t110 _ ?side1 ?side2 A10.out).mono ?_); (case side1 => exact c2_ HR0_0 HB); (case side2 => exact HC0_0.out); rintro e w21 ⟨v111, rfl, ho0, hb⟩; refine ⟨_, rfl, ?_⟩; have HO112 := Aside0.mk (Kd.R_lower (Kd.R_new' (Kd.R_new' ho0 (Kd.R_lt (rb_ HO105.out))) (Kd.R_lt (rb_ HO108.out))) (below_size (gb_ HB.out))); replace HO105 := a5_ HO105 ho0 hb; replace HO108 := a5_ HO108 ho0 hb; replace BK101 := a2_ BK101 hb; replace HB := Aside0.mk (below_step (gb_ HB.out) hb); (try clear hb); (try clear hb2); (try clear hk); (try clear hi); (try clear ho0)) | ((with_reducible refine gate_dst (N := 8) rfl ?_); refine box_event ?hg (N := 8) ?hd (cs := #[.slice none 0 0]) (t := 26) ?hr ?_; (case hd => rfl); (case hg => rfl); (case hr => first | (go_simp; done) | (go_simp; rfl)); intro gb113 hg w22 hbox hb; have n0_ := a1_ HO105 hb; have n1_ := a1_ HO108 hb; have n2_ := a1_ HO112 hb; have n3_ := a2_ BK101 hb; have n4_ := Aside0.mk (below_step (gb_ HB.out) hb); have n5_ := Aside0.mk (hbox); have n6_ := Aside0.mk ((by rw [hg]; exact (below_size (gb_ HB.out)) : w.heap.size ≤ gb113)); have n7_ := Aside0.mk ((by rw [hg]; exact (below_size (gb_ HB.out)) : w.heap.size ≤ gb113)); have n8_ := Aside0.mk ((by rw [hg]; exact Nat.ne_of_lt (blk_lt (g := gb101) (o := .cells #[.slice A0_0 l0_0.length c0_0] 24 (0, 0)) (bb_ BK101.out)) : gb101 ≠ gb113)); have n9_ := Aside0.mk ((by rw [hg]; exact Nat.ne_of_gt (blk_lt (g := gb101) (o := .cells #[.slice A0_0 l0_0.length c0_0] 24 (0, 0)) (bb_ BK101.out)) : gb113 ≠ gb101)); clear HO105 HO108 HO112 BK101 HB; have HO105 := n0_; have HO108 := n1_; have HO112 := n2_; have BK101 := n3_; have HB := n4_; have BK113 := n5_; have GW113 := n6_; have GE113 := n7_; have NB101_113 := n8_; have NB113_101 := n9_; clear n0_ n1_ n2_ n3_ n4_ n5_ n6_ n7_ n8_ n9_ hb hbox hg; obtain ⟨Ao23, co23, eo23⟩ := Kd.R_slice HO112.out; subst eo23; have hnb24 := NB113_101.out; have hnc24 := NB101_113.out; have hcz25_0 : w22.cell? ⟨gb113, 0, none⟩ = some (.slice none 0 0) := (blk_cell BK113.out 0).trans rfl; have hfz25_0 := blk_frozen BK113.out 0) | ((with_reducible refine gate_callee (f := 27) rfl ?_); refine goesL_ (some 33) rfl rfl Try.func27 (by kernel_rfl) rfl #[.agg #[.slice Ao23 t110.length co23], .int .i64 a1] rfl (by (try simp only [List.map_toArray, List.map_cons, List.map_nil]); first | done | rfl | (simp only [List.length_drop, List.length_take]; rfl)) ?_; (with_reducible refine (impl_GreedyCode.calls _ _ t110 a1 t114 t117 _ ?side1 ?side2 A11.out).mono ?_); (case side1 => refine (Kd.R_reads' (e := 2) (base := w.heap.size) (ok := fun _ => True) (n := t110.length) (c := co23) ?_).2.2; exact (rb_ (Kd.R_mono (Kd.R_far (p := ⟨gb113, 0, none⟩) (Kd.R_types HO112.out BK113.out (by decide)) (fun _ hk => hk.2) (.slice Ao23 t110.length co23)) (fun _ _ => trivial)))); (case side2 => exact (Kd.R_reads' HO112.out).2.1); rintro e w26 ⟨v115, rfl, ho0, hb⟩; refine ⟨_, rfl, ?_⟩; have HO116 := Aside0.mk (Kd.R_lower (Kd.R_new' (Kd.R_new' (Kd.R_new' ho0 (Kd.R_lt (rb_ (Kd.R_mono (Kd.R_far (p := ⟨gb113, 0, none⟩) (Kd.R_types HO105.out BK113.out (by decide)) (fun _ hk => hk.2) (.slice Ao23 t110.length co23)) (fun _ h_ => h_.1))))) (Kd.R_lt (rb_ (Kd.R_mono (Kd.R_far (p := ⟨gb113, 0, none⟩) (Kd.R_types HO108.out BK113.out (by decide)) (fun _ hk => hk.2) (.slice Ao23 t110.length co23)) (fun _ h_ => h_.1))))) (Kd.R_lt (rb_ (Kd.R_mono (Kd.R_far (p := ⟨gb113, 0, none⟩) (Kd.R_types HO112.out BK113.out (by decide)) (fun _ hk => hk.2) (.slice Ao23 t110.length co23)) (fun _ h_ => h_.1))))) (below_size (gb_ HB.out))); replace HO105 := a8_ HO105 BK113 ho0 hb; replace HO108 := a8_ HO108 BK113 ho0 hb; replace HO112 := a8_ HO112 BK113 ho0 hb; replace BK101 := a3_ BK101 NB101_113 hb; replace BK113 := Aside0.mk (blk_below (g := gb113) (o := .cells #[.slice Ao23 t110.length co23] 26 (0, 0)) (by (with_reducible repeat (first | refine blk_drewN ?_ _ | refine blk_drew ?_ | refine blk_alloc ?_ _)); refine blk_put (cs := #[.slice none 0 0]) ?_ 0 _ rfl; (with_reducible repeat (first | refine blk_drewN ?_ _ | refine blk_drew ?_ | refine blk_alloc ?_ _)); exact BK113.out) hb); replace HB := Aside0.mk (below_step (gb_ HB.out) hb); (try clear hb); (try clear hb2); (try clear hk); (try clear hi); (try clear ho0)))
  (try simp only [Act.put, List.setIfInBounds_toArray, List.set_cons_zero, List.set_cons_succ])
  go_cut [44] (fun cs_44 wc => ∃ (kq : Nat) (x44_11 : Bool), cs_44 = .bool x44_11 ∧ Aside0 (laws_FnExactGreedyCode.j0 kq a1 t106 t109 t114 t117 x44_11 l0_0 t110 = some r) ∧ Aside0 (kq ≤ k) ∧ Aside0 (Kd.R (Kd.int .i64) 2 wc w.heap.size (fun k_ => OB_ k_ v115 ∧ OB_ k_ (.slice Ao23 t110.length co23)) v107 t106) ∧ Aside0 (Kd.R (Kd.int .i64) 2 wc w.heap.size (fun k_ => OB_ k_ v107 ∧ OB_ k_ (.slice Ao23 t110.length co23)) v115 t114) ∧ Aside0 (Kd.R (Kd.int .i64) 2 wc w.heap.size (fun k_ => OB_ k_ v107 ∧ OB_ k_ v115) (.slice Ao23 t110.length co23) t110) ∧ Aside0 (wc.heap[gb101]? = some (.cells #[(.slice A0_0 l0_0.length c0_0)] 24 (0, 0))) ∧ Aside0 (wc.heap[gb113]? = some (.cells #[(.slice Ao23 t110.length co23)] 26 (0, 0))) ∧ Aside0 (Below w.heap.size w wc))
  case first =>
   have H := HC12.out
   clear HC12
   replace H := Option.bind_eq_some_iff.mp H
   obtain ⟨t118, A270, H⟩ := H
   replace H : (if t118 = true then (laws_FnExactGreedyCode.j0 k a1 t106 t109 t114 t117 (t117 != t109) l0_0 t110) else (laws_FnExactGreedyCode.j0 k a1 t106 t109 t114 t117 true l0_0 t110)) = some r := H
   have A27 := Aside0.mk A270
   clear A270
   by_cases c28 : t118 = true
   ·subst c28
    have H1 : (laws_FnExactGreedyCode.j0 k a1 t106 t109 t114 t117 (t117 != t109) l0_0 t110) = some r := by rw [if_pos rfl] at H; exact H
    clear H
    have H := H1
    clear H1
    have H' := Aside0.mk H
    clear H
    obtain ⟨Ao29, co29, eo29⟩ := Kd.R_slice HO116.out
    subst eo29
    obtain ⟨Ao30, co30, eo30⟩ := Kd.R_slice HO108.out
    subst eo30
    go_wp2_with (first | ((with_reducible refine gate_callee (f := 15) rfl ?_); refine goesL_ (some 38) rfl rfl Try.func15 (by kernel_rfl) rfl #[.slice Ao29 t114.length co29, .slice Ao30 t106.length co30] rfl (by (try simp only [List.map_toArray, List.map_cons, List.map_nil]); first | done | rfl | (simp only [List.length_drop, List.length_take]; rfl)) ?_; (with_reducible refine (laws_eqInt64S.calls k _ _ t114 _ _ t106 true _ ?side1 ?side2 ?side3 ?side4 A27.out).mono ?_); (case side1 => exact c1_ HO116); (case side2 => exact (Kd.R_reads' HO116.out).2.1); (case side3 => exact c1_ HO108); (case side4 => exact (Kd.R_reads' HO108.out).2.1); rintro e w' ⟨rfl, ⟨nd, rfl⟩⟩; refine ⟨_, rfl, ?_⟩))
    go_meet
    case rel => exact ⟨_, ((t117 != t109)), (by first | rfl | (simp; done) | (simp [*]; done)), H', ⟨by first | omega | exact Nat.le_refl _⟩, ⟨by (with_reducible repeat (first | apply Kd.R_alloc | apply Kd.R_drewN | apply Kd.R_drew)); exact Kd.R_mono HO108.out (fun _ hk => by grind)⟩, ⟨by (with_reducible repeat (first | apply Kd.R_alloc | apply Kd.R_drewN | apply Kd.R_drew)); exact Kd.R_mono HO116.out (fun _ hk => by grind)⟩, ⟨by (with_reducible repeat (first | apply Kd.R_alloc | apply Kd.R_drewN | apply Kd.R_drew)); exact Kd.R_mono HO112.out (fun _ hk => by grind)⟩, ⟨by (with_reducible repeat (first | refine blk_drewN ?_ _ | refine blk_drew ?_ | refine blk_alloc ?_ _)); exact BK101.out⟩, ⟨by (with_reducible repeat (first | refine blk_drewN ?_ _ | refine blk_drew ?_ | refine blk_alloc ?_ _)); exact BK113.out⟩, ⟨gb_ HB.out⟩⟩
   ·replace c28 := Bool.eq_false_iff.mpr c28
    subst c28
    have H1 : (laws_FnExactGreedyCode.j0 k a1 t106 t109 t114 t117 true l0_0 t110) = some r := by rw [if_neg (show ¬ (false = true) by decide)] at H; exact H
    clear H
    have H := H1
    clear H1
    have H' := Aside0.mk H
    clear H
    obtain ⟨Ao31, co31, eo31⟩ := Kd.R_slice HO116.out
    subst eo31
    obtain ⟨Ao32, co32, eo32⟩ := Kd.R_slice HO108.out
    subst eo32
    go_wp2_with (first | ((with_reducible refine gate_callee (f := 15) rfl ?_); refine goesL_ (some 38) rfl rfl Try.func15 (by kernel_rfl) rfl #[.slice Ao31 t114.length co31, .slice Ao32 t106.length co32] rfl (by (try simp only [List.map_toArray, List.map_cons, List.map_nil]); first | done | rfl | (simp only [List.length_drop, List.length_take]; rfl)) ?_; (with_reducible refine (laws_eqInt64S.calls k _ _ t114 _ _ t106 false _ ?side1 ?side2 ?side3 ?side4 A27.out).mono ?_); (case side1 => exact c1_ HO116); (case side2 => exact (Kd.R_reads' HO116.out).2.1); (case side3 => exact c1_ HO108); (case side4 => exact (Kd.R_reads' HO108.out).2.1); rintro e w' ⟨rfl, ⟨nd, rfl⟩⟩; refine ⟨_, rfl, ?_⟩))
    go_meet
    case rel => exact ⟨_, (true), (by first | rfl | (simp; done) | (simp [*]; done)), H', ⟨by first | omega | exact Nat.le_refl _⟩, ⟨by (with_reducible repeat (first | apply Kd.R_alloc | apply Kd.R_drewN | apply Kd.R_drew)); exact Kd.R_mono HO108.out (fun _ hk => by grind)⟩, ⟨by (with_reducible repeat (first | apply Kd.R_alloc | apply Kd.R_drewN | apply Kd.R_drew)); exact Kd.R_mono HO116.out (fun _ hk => by grind)⟩, ⟨by (with_reducible repeat (first | apply Kd.R_alloc | apply Kd.R_drewN | apply Kd.R_drew)); exact Kd.R_mono HO112.out (fun _ hk => by grind)⟩, ⟨by (with_reducible repeat (first | refine blk_drewN ?_ _ | refine blk_drew ?_ | refine blk_alloc ?_ _)); exact BK101.out⟩, ⟨by (with_reducible repeat (first | refine blk_drewN ?_ _ | refine blk_drew ?_ | refine blk_alloc ?_ _)); exact BK113.out⟩, ⟨gb_ HB.out⟩⟩
  case rest =>
   clear HC12
   try clear c1
   try clear c2
   try clear p2
   try clear c4
   try clear c4b0
   try clear c7
   try clear c9
   try clear c11
   try clear c15
   try clear c24
   try clear c26
   try clear c27
   try clear c28
   try clear hcz14_0
   try clear hcz16_0
   try clear hcz20_0
   try clear hcz25_0
   try clear hcz6_0
   try clear hfz14_0
   try clear hfz16_0
   try clear hfz20_0
   try clear hfz25_0
   try clear hfz6_0
   obtain ⟨kq, x44_11, rfl, HA, HJ11, HO_6, HO_9, HO_114000, BK101, BK113, HB⟩ := hcut
   cases kq with
   | zero => exact absurd HA.out (by simp [laws_FnExactGreedyCode.j0])
   | succ kj11 =>
    have H := HA.out
    clear HA
    simp only [laws_FnExactGreedyCode.j0] at H
    by_cases c33 : x44_11 = true
    ·subst c33
     have H1 : (some false) = some r := by rw [if_pos rfl] at H; exact H
     clear H
     have H := H1
     clear H1
     obtain rfl := Option.some.inj H
     go_wp2
     go_ret
     exact ⟨by first | rfl | (simp [errW_none, errW_some] <;> rfl) | (simp [*, errW_none, errW_some] <;> rfl), gb_ HB.out⟩
    ·replace c33 := Bool.eq_false_iff.mpr c33
     subst c33
     have H1 : ((laws_toSpace.f kj11 l0_0).bind fun t119 => ((laws_eqSpace.f kj11 t110 t119).bind fun t122 => (if t122 = true then ((laws_markSpace.f kj11 t110 1).bind fun bt123 => (if bt123.1 < 0 then (laws_FnExactGreedyCode.j1 kj11 a1 t106 t109 t114 true l0_0) else ((laws_eqInt64S.f kj11 t114 t106).bind fun t125 => (if t125 = true then (laws_FnExactGreedyCode.j1 kj11 a1 t106 t109 t114 (t117 != t109) l0_0) else (laws_FnExactGreedyCode.j1 kj11 a1 t106 t109 t114 true l0_0))))) else (some false)))) = some r := by rw [if_neg (show ¬ (false = true) by decide)] at H; exact H
     clear H
     have H := H1
     clear H1
     replace H := Option.bind_eq_some_iff.mp H
     obtain ⟨t119, A340, H⟩ := H
     replace H : ((laws_eqSpace.f kj11 t110 t119).bind fun t122 => (if t122 = true then ((laws_markSpace.f kj11 t110 1).bind fun bt123 => (if bt123.1 < 0 then (laws_FnExactGreedyCode.j1 kj11 a1 t106 t109 t114 true l0_0) else ((laws_eqInt64S.f kj11 t114 t106).bind fun t125 => (if t125 = true then (laws_FnExactGreedyCode.j1 kj11 a1 t106 t109 t114 (t117 != t109) l0_0) else (laws_FnExactGreedyCode.j1 kj11 a1 t106 t109 t114 true l0_0))))) else (some false))) = some r := H
     have A34 := Aside0.mk A340
     clear A340
     replace H := Option.bind_eq_some_iff.mp H
     obtain ⟨t122, A350, H⟩ := H
     replace H : (if t122 = true then ((laws_markSpace.f kj11 t110 1).bind fun bt123 => (if bt123.1 < 0 then (laws_FnExactGreedyCode.j1 kj11 a1 t106 t109 t114 true l0_0) else ((laws_eqInt64S.f kj11 t114 t106).bind fun t125 => (if t125 = true then (laws_FnExactGreedyCode.j1 kj11 a1 t106 t109 t114 (t117 != t109) l0_0) else (laws_FnExactGreedyCode.j1 kj11 a1 t106 t109 t114 true l0_0))))) else (some false)) = some r := H
     have A35 := Aside0.mk A350
     clear A350
     by_cases c36 : t122 = true
     ·subst c36
      have H1 : ((laws_markSpace.f kj11 t110 1).bind fun bt123 => (if bt123.1 < 0 then (laws_FnExactGreedyCode.j1 kj11 a1 t106 t109 t114 true l0_0) else ((laws_eqInt64S.f kj11 t114 t106).bind fun t125 => (if t125 = true then (laws_FnExactGreedyCode.j1 kj11 a1 t106 t109 t114 (t117 != t109) l0_0) else (laws_FnExactGreedyCode.j1 kj11 a1 t106 t109 t114 true l0_0))))) = some r := by rw [if_pos rfl] at H; exact H
      clear H
      have H := H1
      clear H1
      replace H := Option.bind_eq_some_iff.mp H
      obtain ⟨⟨t123, t124⟩, A370, H⟩ := H
      replace H : (if t123 < 0 then (laws_FnExactGreedyCode.j1 kj11 a1 t106 t109 t114 true l0_0) else ((laws_eqInt64S.f kj11 t114 t106).bind fun t125 => (if t125 = true then (laws_FnExactGreedyCode.j1 kj11 a1 t106 t109 t114 (t117 != t109) l0_0) else (laws_FnExactGreedyCode.j1 kj11 a1 t106 t109 t114 true l0_0)))) = some r := H
      have A37 := Aside0.mk A370
      clear A370
      have HC38 := Aside0.mk H
      clear H
      try go_wp2
      replace HO_6 := Aside0.mk (Kd.R_drew HO_6.out)
      replace HO_9 := Aside0.mk (Kd.R_drew HO_9.out)
      replace HO_114000 := Aside0.mk (Kd.R_drew HO_114000.out)
      replace BK101 := Aside0.mk (blk_drew BK101.out)
      replace BK113 := Aside0.mk (blk_drew BK113.out)
      replace HB := Aside0.mk (below_drew1 HB.out)
      refine start_ (n := 5) (S := fun w' => w'.cell? ⟨gb113, 0, none⟩ = some (.slice Ao23 t110.length co23) ∧ w'.cell? ⟨gb101, 0, none⟩ = some (.slice A0_0 l0_0.length c0_0)) (ds := []) #[false, false, false, false, false] (by kernel_rfl) rfl rfl ⟨(blk_cell BK113.out 0).trans rfl, (blk_cell BK101.out 0).trans rfl⟩ (fun hHeld => ?_)
      generalize wc.drew = w39 at HO_6 HO_9 HO_114000 BK101 BK113 HB hHeld ⊢
      refine take_ (i := 0) (N := some 45) (v := ?_) (a' := ?_) #[true, false, false, false, false] rfl rfl (by kernel_rfl) (fun _ _ _ h => h) (Or.inl ⟨by rfl, ?_⟩) hHeld ?_ ?_
      rotate_left
      ·rintro w' ⟨s0, s1⟩
       go_simp
       with_reducible rfl
      rotate_left
      ·simp only [Act.put, List.setIfInBounds_toArray, List.set_cons_zero, List.set_cons_succ, i64_w, i32_w]
       rfl
      refine take_ (i := 1) (N := some 46) (v := ?_) (a' := ?_) #[true, true, false, false, false] rfl rfl (by kernel_rfl) (fun _ _ _ h => h) (Or.inl ⟨by rfl, ?_⟩) hHeld ?_ ?_
      rotate_left
      ·rintro w' ⟨s0, s1⟩
       go_simp
       with_reducible rfl
      rotate_left
      ·simp only [Act.put, List.setIfInBounds_toArray, List.set_cons_zero, List.set_cons_succ, i64_w, i32_w]
       rfl
      refine one_ (i := 2) (N := some 47) #[true, true, true, false, false] rfl rfl (by kernel_rfl) (by decide) (fun K hK => ?_)
      refine goes_ Try.func11 (by kernel_rfl) rfl #[.agg #[.slice A0_0 l0_0.length c0_0]] (by rfl) rfl rfl (by (try simp only [List.map_toArray, List.map_cons, List.map_nil]); first | done | rfl | (simp only [List.length_drop, List.length_take]; rfl)) ?_
      with_reducible refine (laws_toSpace.calls kj11 _ _ l0_0 t119 _ ?side1 ?side2 A34.out).mono ?_
      (case side1 => exact c2_ HR0_0 HB)
      (case side2 => exact HC0_0.out)
      rintro e w40 ⟨v120, rfl, ho0, hb⟩
      refine ⟨_, rfl, ?_⟩
      have HO121 := Aside0.mk (Kd.R_lower (Kd.R_new' (Kd.R_new' (Kd.R_new' ho0 (Kd.R_lt (rb_ HO_6.out))) (Kd.R_lt (rb_ HO_9.out))) (Kd.R_lt (rb_ HO_114000.out))) (below_size (gb_ HB.out)))
      replace HO_6 := a5_ HO_6 ho0 hb
      replace HO_9 := a5_ HO_9 ho0 hb
      replace HO_114000 := a5_ HO_114000 ho0 hb
      replace BK101 := a2_ BK101 hb
      replace BK113 := a2_ BK113 hb
      replace HB := Aside0.mk (below_step (gb_ HB.out) hb)
      (try clear hb)
      (try clear hb2)
      (try clear hk)
      (try clear hi)
      (try clear ho0)
      obtain ⟨Ao41, co41, eo41⟩ := Kd.R_slice HO121.out
      (first | subst eo41 | (injection eo41 with f1_ f2_ f3_; have f4_ := f1_.symm; have f5_ := f3_.symm; clear f1_ f2_ f3_; subst f4_; subst f5_))
      refine hK.out _ _ ⟨(blk_cell BK113.out 0).trans rfl, (blk_cell BK101.out 0).trans rfl⟩ (fun hHeld => ?_)
      clear hK K
      refine norm_ (a' := ?_) ?_ ?_
      rotate_left
      ·show Act.put _ (some 47) _ = _
       simp only [Act.put, List.setIfInBounds_toArray, List.set_cons_zero, List.set_cons_succ, i64_w, i32_w]
       rfl
      refine one_ (i := 3) (N := some 48) #[true, true, true, true, false] rfl rfl (by kernel_rfl) (by decide) (fun K hK => ?_)
      refine goes_ Try.func14 (by kernel_rfl) rfl #[.agg #[.slice Ao23 t110.length co23], .agg #[.slice Ao41 t119.length co41]] (by rfl) rfl rfl (by (try simp only [List.map_toArray, List.map_cons, List.map_nil]); first | done | rfl | (simp only [List.length_drop, List.length_take]; rfl)) ?_
      with_reducible refine (laws_eqSpace.calls kj11 _ _ t110 _ _ t119 true _ ?side1 ?side2 ?side3 ?side4 A35.out).mono ?_
      (case side1 => exact c1_ HO_114000)
      (case side2 => exact (Kd.R_reads' HO_114000.out).2.1)
      (case side3 => exact c1_ HO121)
      (case side4 => exact (Kd.R_reads' HO121.out).2.1)
      rintro e w42 ⟨rfl, hb⟩
      refine ⟨_, rfl, ?_⟩
      replace HO_6 := a1_ HO_6 hb
      replace HO_9 := a1_ HO_9 hb
      replace HO_114000 := a1_ HO_114000 hb
      replace HO121 := a1_ HO121 hb
      replace BK101 := a2_ BK101 hb
      replace BK113 := a2_ BK113 hb
      replace HB := Aside0.mk (below_step (gb_ HB.out) hb)
      (try clear hb)
      (try clear hb2)
      (try clear hk)
      (try clear hi)
      refine hK.out _ _ ⟨(blk_cell BK113.out 0).trans rfl, (blk_cell BK101.out 0).trans rfl⟩ (fun hHeld => ?_)
      clear hK K
      refine norm_ (a' := ?_) ?_ ?_
      rotate_left
      ·show Act.put _ (some 48) _ = _
       simp only [Act.put, List.setIfInBounds_toArray, List.set_cons_zero, List.set_cons_succ, i64_w, i32_w]
       rfl
      refine pure_ (i := 4) (N := some 49) (v := ?_) (a' := ?_) #[true, true, true, true, true] rfl rfl (by kernel_rfl) (fun _ _ _ h => h) (Or.inl ⟨by rfl, ?_⟩) ?_ ?_
      rotate_left
      ·intro w'
       go_simp
       with_reducible rfl
      rotate_left
      ·simp only [Act.put, List.setIfInBounds_toArray, List.set_cons_zero, List.set_cons_succ, i64_w, i32_w]
       rfl
      refine done_ (by kernel_rfl) ?_
      have hnb43 := NB113_101.out
      have hnc43 := NB101_113.out
      have hcz44_0 : w42.cell? ⟨gb113, 0, none⟩ = some (.slice Ao23 t110.length co23) := (blk_cell BK113.out 0).trans rfl
      have hfz44_0 := blk_frozen BK113.out 0
      go_upto_region 14 with (first | ((with_reducible refine gate_callee (f := 16) rfl ?_); refine goesL_ (some 52) rfl rfl Try.func16 (by kernel_rfl) rfl #[.agg #[.slice Ao23 t110.length co23], .int .i64 1] rfl (by (try simp only [List.map_toArray, List.map_cons, List.map_nil]); first | done | rfl | (simp only [List.length_drop, List.length_take]; rfl)) ?_; (with_reducible refine (laws_markSpace.calls kj11 (fun k_ => some k_ = (.slice Ao23 t110.length co23 : Value).ownBlock) (.slice Ao23 t110.length co23) t110 1 t123 t124 w _ ?side1 ?side2 A37.out).mono ?_); (case side1 => exact gb_ HB.out); (case side2 => exact Kd.R_tight rfl HO_114000.out); rintro e w45 ⟨rfl, hy0, hb, hkp⟩; refine ⟨_, rfl, ?_⟩; replace HO_6 := Aside0.mk (Kd.R_mono (ok' := fun k_ => OB_ k_ v115 ∧ OB_ k_ (.slice Ao23 t110.length co23) ∧ OB_ k_ (.slice Ao41 t119.length co41)) (Kd.R_keptB (HO_6.out) hkp (fun k_ hk_ hs_ => (hk_.1.2) hs_)) (fun k_ hk_ => ⟨hk_.1.1.1, hk_.1.1.2, hk_.1.2⟩)); replace HO_9 := Aside0.mk (Kd.R_mono (ok' := fun k_ => OB_ k_ v107 ∧ OB_ k_ (.slice Ao23 t110.length co23) ∧ OB_ k_ (.slice Ao41 t119.length co41)) (Kd.R_keptB (HO_9.out) hkp (fun k_ hk_ hs_ => (hk_.1.2) hs_)) (fun k_ hk_ => ⟨hk_.1.1.1, hk_.1.1.2, hk_.1.2⟩)); replace BK101 := a7_ BK101 hkp HO_114000; replace BK113 := a7_ BK113 hkp HO_114000; replace HO_114000 := Aside0.mk (Kd.R_reok rfl hy0 (fun k_ e_ => HO_114000.out.1 k_ e_)); replace HO121 := Aside0.mk (Kd.R_mono (ok' := fun k_ => OB_ k_ v107 ∧ OB_ k_ v115 ∧ OB_ k_ (.slice Ao23 t110.length co23)) (Kd.R_keptB (HO121.out) hkp (fun k_ hk_ hs_ => (hk_.2) hs_)) (fun k_ hk_ => ⟨hk_.1.1.1.2, hk_.1.1.2, hk_.1.2⟩)); replace HB := Aside0.mk (hb); (try clear hb); (try clear hkp); (try clear hy0)))
      (try simp only [Act.put, List.setIfInBounds_toArray, List.set_cons_zero, List.set_cons_succ])
      go_cut [65] (fun cs_65 wc => ∃ (kq : Nat) (x65_37 : Bool), cs_65 = .bool x65_37 ∧ Aside0 (laws_FnExactGreedyCode.j1 kq a1 t106 t109 t114 x65_37 l0_0 = some r) ∧ Aside0 (kq ≤ kj11) ∧ Aside0 (Kd.R (Kd.int .i64) 2 wc w.heap.size (fun k_ => OB_ k_ v115 ∧ OB_ k_ (.slice Ao23 t110.length co23)) v107 t106) ∧ Aside0 (Kd.R (Kd.int .i64) 2 wc w.heap.size (fun k_ => OB_ k_ v107 ∧ OB_ k_ (.slice Ao23 t110.length co23)) v115 t114) ∧ Aside0 (Kd.R (Kd.int .i64) 2 wc w.heap.size (fun k_ => OB_ k_ v107 ∧ OB_ k_ v115) (.slice Ao23 t110.length co23) t124) ∧ Aside0 (wc.heap[gb101]? = some (.cells #[(.slice A0_0 l0_0.length c0_0)] 24 (0, 0))) ∧ Aside0 (wc.heap[gb113]? = some (.cells #[(.slice Ao23 t110.length co23)] 26 (0, 0))) ∧ Aside0 (Below w.heap.size w wc))
      case first =>
       have H := HC38.out
       clear HC38
       by_cases c46 : t123 < 0
       ·rw [if_pos c46] at H
        have c46b0 : decide (t123 < 0) = true := decide_eq_true c46
        clear c46
        (first | rw [c46b0] | (simp only [i64_w, i32_w]; rw [c46b0]) | skip)
        have H' := Aside0.mk H
        clear H
        go_wp2
        go_meet
        case rel => exact ⟨_, (true), (by first | rfl | (simp; done) | (simp [*]; done)), H', ⟨by have := HJ11.out; first | omega | exact Nat.le_refl _⟩, ⟨by (with_reducible repeat (first | apply Kd.R_alloc | apply Kd.R_drewN | apply Kd.R_drew)); exact Kd.R_mono HO_6.out (fun _ hk => by grind)⟩, ⟨by (with_reducible repeat (first | apply Kd.R_alloc | apply Kd.R_drewN | apply Kd.R_drew)); exact Kd.R_mono HO_9.out (fun _ hk => by grind)⟩, ⟨by (with_reducible repeat (first | apply Kd.R_alloc | apply Kd.R_drewN | apply Kd.R_drew)); exact Kd.R_mono HO_114000.out (fun _ hk => by grind)⟩, ⟨by (with_reducible repeat (first | refine blk_drewN ?_ _ | refine blk_drew ?_ | refine blk_alloc ?_ _)); exact BK101.out⟩, ⟨by (with_reducible repeat (first | refine blk_drewN ?_ _ | refine blk_drew ?_ | refine blk_alloc ?_ _)); exact BK113.out⟩, ⟨gb_ HB.out⟩⟩
       ·rw [if_neg c46] at H
        have c46b0 : decide (t123 < 0) = false := decide_eq_false c46
        clear c46
        (first | rw [c46b0] | (simp only [i64_w, i32_w]; rw [c46b0]) | skip)
        replace H := Option.bind_eq_some_iff.mp H
        obtain ⟨t125, A470, H⟩ := H
        replace H : (if t125 = true then (laws_FnExactGreedyCode.j1 kj11 a1 t106 t109 t114 (t117 != t109) l0_0) else (laws_FnExactGreedyCode.j1 kj11 a1 t106 t109 t114 true l0_0)) = some r := H
        have A47 := Aside0.mk A470
        clear A470
        by_cases c48 : t125 = true
        ·subst c48
         have H1 : (laws_FnExactGreedyCode.j1 kj11 a1 t106 t109 t114 (t117 != t109) l0_0) = some r := by rw [if_pos rfl] at H; exact H
         clear H
         have H := H1
         clear H1
         have H' := Aside0.mk H
         clear H
         obtain ⟨Ao49, co49, eo49⟩ := Kd.R_slice HO_9.out
         subst eo49
         obtain ⟨Ao50, co50, eo50⟩ := Kd.R_slice HO_6.out
         subst eo50
         go_wp2_with (first | (go_at_call 15; (with_reducible refine (laws_eqInt64S.calls kj11 _ _ t114 _ _ t106 true _ ?side1 ?side2 ?side3 ?side4 A47.out).mono ?_); (case side1 => exact c1_ HO_9); (case side2 => exact (Kd.R_reads' HO_9.out).2.1); (case side3 => exact c1_ HO_6); (case side4 => exact (Kd.R_reads' HO_6.out).2.1); rintro e w' ⟨rfl, ⟨nd, rfl⟩⟩))
         go_meet
         case rel => exact ⟨_, ((t117 != t109)), (by first | rfl | (simp; done) | (simp [*]; done)), H', ⟨by have := HJ11.out; first | omega | exact Nat.le_refl _⟩, ⟨by (with_reducible repeat (first | apply Kd.R_alloc | apply Kd.R_drewN | apply Kd.R_drew)); exact Kd.R_mono HO_6.out (fun _ hk => by grind)⟩, ⟨by (with_reducible repeat (first | apply Kd.R_alloc | apply Kd.R_drewN | apply Kd.R_drew)); exact Kd.R_mono HO_9.out (fun _ hk => by grind)⟩, ⟨by (with_reducible repeat (first | apply Kd.R_alloc | apply Kd.R_drewN | apply Kd.R_drew)); exact Kd.R_mono HO_114000.out (fun _ hk => by grind)⟩, ⟨by (with_reducible repeat (first | refine blk_drewN ?_ _ | refine blk_drew ?_ | refine blk_alloc ?_ _)); exact BK101.out⟩, ⟨by (with_reducible repeat (first | refine blk_drewN ?_ _ | refine blk_drew ?_ | refine blk_alloc ?_ _)); exact BK113.out⟩, ⟨gb_ HB.out⟩⟩
        ·replace c48 := Bool.eq_false_iff.mpr c48
         subst c48
         have H1 : (laws_FnExactGreedyCode.j1 kj11 a1 t106 t109 t114 true l0_0) = some r := by rw [if_neg (show ¬ (false = true) by decide)] at H; exact H
         clear H
         have H := H1
         clear H1
         have H' := Aside0.mk H
         clear H
         obtain ⟨Ao51, co51, eo51⟩ := Kd.R_slice HO_9.out
         subst eo51
         obtain ⟨Ao52, co52, eo52⟩ := Kd.R_slice HO_6.out
         subst eo52
         go_wp2_with (first | (go_at_call 15; (with_reducible refine (laws_eqInt64S.calls kj11 _ _ t114 _ _ t106 false _ ?side1 ?side2 ?side3 ?side4 A47.out).mono ?_); (case side1 => exact c1_ HO_9); (case side2 => exact (Kd.R_reads' HO_9.out).2.1); (case side3 => exact c1_ HO_6); (case side4 => exact (Kd.R_reads' HO_6.out).2.1); rintro e w' ⟨rfl, ⟨nd, rfl⟩⟩))
         go_meet
         case rel => exact ⟨_, (true), (by first | rfl | (simp; done) | (simp [*]; done)), H', ⟨by have := HJ11.out; first | omega | exact Nat.le_refl _⟩, ⟨by (with_reducible repeat (first | apply Kd.R_alloc | apply Kd.R_drewN | apply Kd.R_drew)); exact Kd.R_mono HO_6.out (fun _ hk => by grind)⟩, ⟨by (with_reducible repeat (first | apply Kd.R_alloc | apply Kd.R_drewN | apply Kd.R_drew)); exact Kd.R_mono HO_9.out (fun _ hk => by grind)⟩, ⟨by (with_reducible repeat (first | apply Kd.R_alloc | apply Kd.R_drewN | apply Kd.R_drew)); exact Kd.R_mono HO_114000.out (fun _ hk => by grind)⟩, ⟨by (with_reducible repeat (first | refine blk_drewN ?_ _ | refine blk_drew ?_ | refine blk_alloc ?_ _)); exact BK101.out⟩, ⟨by (with_reducible repeat (first | refine blk_drewN ?_ _ | refine blk_drew ?_ | refine blk_alloc ?_ _)); exact BK113.out⟩, ⟨gb_ HB.out⟩⟩
      case rest =>
       clear HC38
       try clear c1
       try clear c2
       try clear p2
       try clear c3
       try clear c4
       try clear c4b0
       try clear c7
       try clear c9
       try clear c11
       try clear c14
       try clear c15
       try clear c16
       try clear c24
       try clear c26
       try clear c27
       try clear c28
       try clear c33
       try clear c36
       try clear c43
       try clear c46
       try clear c46b0
       try clear c48
       try clear hcz14_0
       try clear hcz16_0
       try clear hcz20_0
       try clear hcz25_0
       try clear hcz44_0
       try clear hcz6_0
       try clear hfz14_0
       try clear hfz16_0
       try clear hfz20_0
       try clear hfz25_0
       try clear hfz44_0
       try clear hfz6_0
       try clear p2
       obtain ⟨kq, x65_37, rfl, HA, HJ37, HO_6, HO_9, HO_114000, BK101, BK113, HB⟩ := hcut
       have hl114000_37 := (Kd.R_reads' HO_114000.out).1
       rw [hl114000_37] at HO_114000
       (try simp only [hl114000_37])
       (try simp only [hl114000_37] at BK101)
       (try simp only [hl114000_37] at BK113)
       (try simp only [hl114000_37] at HO_6)
       (try simp only [hl114000_37] at HO_9)
       cases kq with
       | zero => exact absurd HA.out (by simp [laws_FnExactGreedyCode.j1])
       | succ kj37 =>
        have H := HA.out
        clear HA
        simp only [laws_FnExactGreedyCode.j1] at H
        by_cases c53 : x65_37 = true
        ·subst c53
         have H1 : (some false) = some r := by rw [if_pos rfl] at H; exact H
         clear H
         have H := H1
         clear H1
         obtain rfl := Option.some.inj H
         go_wp2
         go_ret
         exact ⟨by first | rfl | (simp [errW_none, errW_some] <;> rfl) | (simp [*, errW_none, errW_some] <;> rfl), gb_ HB.out⟩
        ·replace c53 := Bool.eq_false_iff.mpr c53
         subst c53
         have H1 : ((laws_markInt64S.f kj37 t114 1).bind fun bt126 => ((laws_heldInt64S.f kj37 bt126.2 1).bind fun t128 => (if t128 < 0 then (some false) else (if t128 = bt126.1 then ((laws_toSpace.f kj37 l0_0).bind fun t129 => ((impl_GreedyCode.f t129 a1).bind fun bt132 => ((laws_eqInt64S.f kj37 bt132.1 t106).bind fun t136 => (if t136 = true then (laws_FnExactGreedyCode.j2 kj37 bt126.2 bt126.1 (bt132.2 != t109)) else (laws_FnExactGreedyCode.j2 kj37 bt126.2 bt126.1 true))))) else (some false))))) = some r := by rw [if_neg (show ¬ (false = true) by decide)] at H; exact H
         clear H
         have H := H1
         clear H1
         replace H := Option.bind_eq_some_iff.mp H
         obtain ⟨⟨t126, t127⟩, A540, H⟩ := H
         replace H : ((laws_heldInt64S.f kj37 t127 1).bind fun t128 => (if t128 < 0 then (some false) else (if t128 = t126 then ((laws_toSpace.f kj37 l0_0).bind fun t129 => ((impl_GreedyCode.f t129 a1).bind fun bt132 => ((laws_eqInt64S.f kj37 bt132.1 t106).bind fun t136 => (if t136 = true then (laws_FnExactGreedyCode.j2 kj37 t127 t126 (bt132.2 != t109)) else (laws_FnExactGreedyCode.j2 kj37 t127 t126 true))))) else (some false)))) = some r := H
         have A54 := Aside0.mk A540
         clear A540
         replace H := Option.bind_eq_some_iff.mp H
         obtain ⟨t128, A550, H⟩ := H
         replace H : (if t128 < 0 then (some false) else (if t128 = t126 then ((laws_toSpace.f kj37 l0_0).bind fun t129 => ((impl_GreedyCode.f t129 a1).bind fun bt132 => ((laws_eqInt64S.f kj37 bt132.1 t106).bind fun t136 => (if t136 = true then (laws_FnExactGreedyCode.j2 kj37 t127 t126 (bt132.2 != t109)) else (laws_FnExactGreedyCode.j2 kj37 t127 t126 true))))) else (some false))) = some r := H
         have A55 := Aside0.mk A550
         clear A550
         by_cases c56 : t128 < 0
         ·rw [if_pos c56] at H
          have c56b0 : decide (t128 < 0) = true := decide_eq_true c56
          clear c56
          obtain rfl := Option.some.inj H
          obtain ⟨Ao57, co57, eo57⟩ := Kd.R_slice HO_9.out
          subst eo57
          go_wp2_with (first | ((with_reducible refine gate_callee (f := 17) rfl ?_); refine goesL_ (some 68) rfl rfl Try.func17 (by kernel_rfl) rfl #[.slice Ao57 t114.length co57, .int .i64 1] rfl (by (try simp only [List.map_toArray, List.map_cons, List.map_nil]); first | done | rfl | (simp only [List.length_drop, List.length_take]; rfl)) ?_; (with_reducible refine (laws_markInt64S.calls kj37 (fun k_ => some k_ = (.slice Ao57 t114.length co57 : Value).ownBlock) (.slice Ao57 t114.length co57) t114 1 t126 t127 w _ ?side1 ?side2 A54.out).mono ?_); (case side1 => exact gb_ HB.out); (case side2 => exact Kd.R_tight rfl HO_9.out); rintro e w58 ⟨rfl, hy0, hb, hkp⟩; refine ⟨_, rfl, ?_⟩; replace HO_6 := Aside0.mk (Kd.R_mono (ok' := fun k_ => OB_ k_ (.slice Ao57 t114.length co57) ∧ OB_ k_ (.slice Ao23 t124.length co23)) (Kd.R_keptB (HO_6.out) hkp (fun k_ hk_ hs_ => (hk_.1) hs_)) (fun k_ hk_ => ⟨hk_.1.1, hk_.1.2⟩)); replace HO_114000 := Aside0.mk (Kd.R_mono (ok' := fun k_ => OB_ k_ v107 ∧ OB_ k_ (.slice Ao57 t114.length co57)) (Kd.R_keptB (HO_114000.out) hkp (fun k_ hk_ hs_ => (hk_.2) hs_)) (fun k_ hk_ => ⟨hk_.1.1, hk_.1.2⟩)); replace BK101 := a7_ BK101 hkp HO_9; replace BK113 := a7_ BK113 hkp HO_9; replace HO_9 := Aside0.mk (Kd.R_reok rfl hy0 (fun k_ e_ => HO_9.out.1 k_ e_)); replace HB := Aside0.mk (hb); (try clear hb); (try clear hkp); (try clear hy0)) | ((with_reducible refine gate_callee (f := 19) rfl ?_); refine goesL_ (some 71) rfl rfl Try.func19 (by kernel_rfl) rfl #[.slice Ao57 t127.length co57, .int .i64 1] rfl (by (try simp only [List.map_toArray, List.map_cons, List.map_nil]); first | done | (rw [show t127.length = t114.length from (Kd.R_reads' HO_9.out).1.symm] <;> rfl) | rfl | (simp only [List.length_drop, List.length_take]; rfl)) ?_; (with_reducible refine (laws_heldInt64S.calls kj37 _ _ t127 1 t128 _ ?side1 ?side2 A55.out).mono ?_); (case side1 => exact c1_ HO_9); (case side2 => rw [show t127.length = t114.length from (Kd.R_reads' HO_9.out).1.symm]; exact (Kd.R_reads' HO_9.out).2.1); rintro e w' ⟨rfl, ⟨nd, rfl⟩⟩; refine ⟨_, rfl, ?_⟩))
          go_ret
          exact ⟨by first | rfl | (simp [errW_none, errW_some] <;> rfl) | (simp [*, errW_none, errW_some] <;> rfl), gb_ HB.out⟩
         ·rw [if_neg c56] at H
          have c56b0 : decide (t128 < 0) = false := decide_eq_false c56
          clear c56
          by_cases c59 : t128 = t126
          ·rw [if_pos c59] at H
           have c59b0 : (t128 == t126) = true := beq_iff_eq.mpr c59
           have c59b1 : (t128 != t126) = false := bne_eq_false_iff_eq.mpr c59
           clear c59
           replace H := Option.bind_eq_some_iff.mp H
           obtain ⟨t129, A600, H⟩ := H
           replace H : ((impl_GreedyCode.f t129 a1).bind fun bt132 => ((laws_eqInt64S.f kj37 bt132.1 t106).bind fun t136 => (if t136 = true then (laws_FnExactGreedyCode.j2 kj37 t127 t126 (bt132.2 != t109)) else (laws_FnExactGreedyCode.j2 kj37 t127 t126 true)))) = some r := H
           have A60 := Aside0.mk A600
           clear A600
           replace H := Option.bind_eq_some_iff.mp H
           obtain ⟨⟨t132, t135⟩, A610, H⟩ := H
           replace H : ((laws_eqInt64S.f kj37 t132 t106).bind fun t136 => (if t136 = true then (laws_FnExactGreedyCode.j2 kj37 t127 t126 (t135 != t109)) else (laws_FnExactGreedyCode.j2 kj37 t127 t126 true))) = some r := H
           have A61 := Aside0.mk A610
           clear A610
           have HC62 := Aside0.mk H
           clear H
           obtain ⟨Ao63, co63, eo63⟩ := Kd.R_slice HO_9.out
           subst eo63
           go_upto_region 25 with (first | ((with_reducible refine gate_callee (f := 17) rfl ?_); refine goesL_ (some 68) rfl rfl Try.func17 (by kernel_rfl) rfl #[.slice Ao63 t114.length co63, .int .i64 1] rfl (by (try simp only [List.map_toArray, List.map_cons, List.map_nil]); first | done | rfl | (simp only [List.length_drop, List.length_take]; rfl)) ?_; (with_reducible refine (laws_markInt64S.calls kj37 (fun k_ => some k_ = (.slice Ao63 t114.length co63 : Value).ownBlock) (.slice Ao63 t114.length co63) t114 1 t126 t127 w _ ?side1 ?side2 A54.out).mono ?_); (case side1 => exact gb_ HB.out); (case side2 => exact Kd.R_tight rfl HO_9.out); rintro e w64 ⟨rfl, hy0, hb, hkp⟩; refine ⟨_, rfl, ?_⟩; replace HO_6 := Aside0.mk (Kd.R_mono (ok' := fun k_ => OB_ k_ (.slice Ao63 t114.length co63) ∧ OB_ k_ (.slice Ao23 t124.length co23)) (Kd.R_keptB (HO_6.out) hkp (fun k_ hk_ hs_ => (hk_.1) hs_)) (fun k_ hk_ => ⟨hk_.1.1, hk_.1.2⟩)); replace HO_114000 := Aside0.mk (Kd.R_mono (ok' := fun k_ => OB_ k_ v107 ∧ OB_ k_ (.slice Ao63 t114.length co63)) (Kd.R_keptB (HO_114000.out) hkp (fun k_ hk_ hs_ => (hk_.2) hs_)) (fun k_ hk_ => ⟨hk_.1.1, hk_.1.2⟩)); replace BK101 := a7_ BK101 hkp HO_9; replace BK113 := a7_ BK113 hkp HO_9; replace HO_9 := Aside0.mk (Kd.R_reok rfl hy0 (fun k_ e_ => HO_9.out.1 k_ e_)); replace HB := Aside0.mk (hb); (try clear hb); (try clear hkp); (try clear hy0)) | ((with_reducible refine gate_callee (f := 19) rfl ?_); refine goesL_ (some 71) rfl rfl Try.func19 (by kernel_rfl) rfl #[.slice Ao63 t127.length co63, .int .i64 1] rfl (by (try simp only [List.map_toArray, List.map_cons, List.map_nil]); first | done | (rw [show t127.length = t114.length from (Kd.R_reads' HO_9.out).1.symm] <;> rfl) | rfl | (simp only [List.length_drop, List.length_take]; rfl)) ?_; (with_reducible refine (laws_heldInt64S.calls kj37 _ _ t127 1 t128 _ ?side1 ?side2 A55.out).mono ?_); (case side1 => exact c1_ HO_9); (case side2 => rw [show t127.length = t114.length from (Kd.R_reads' HO_9.out).1.symm]; exact (Kd.R_reads' HO_9.out).2.1); rintro e w' ⟨rfl, ⟨nd, rfl⟩⟩; refine ⟨_, rfl, ?_⟩; have hnb65 := NB101_113.out; have hnc65 := NB113_101.out; have hcz66_0 : w64.cell? ⟨gb101, 0, none⟩ = some (.slice A0_0 l0_0.length c0_0) := (blk_cell BK101.out 0).trans rfl; have hfz66_0 := blk_frozen BK101.out 0) | ((with_reducible refine gate_callee (f := 11) rfl ?_); refine goesL_ (some 79) rfl rfl Try.func11 (by kernel_rfl) rfl #[.agg #[.slice A0_0 l0_0.length c0_0]] rfl (by (try simp only [List.map_toArray, List.map_cons, List.map_nil]); first | done | rfl | (simp only [List.length_drop, List.length_take]; rfl)) ?_; (with_reducible refine (laws_toSpace.calls kj37 _ _ l0_0 t129 _ ?side1 ?side2 A60.out).mono ?_); (case side1 => repeat (first | exact (Kd.C_below HR0_0.out (gb_ HB.out)) | (with_reducible refine Kd.C_alloc ?_ _) | (with_reducible refine Kd.C_drewN ?_ _) | (with_reducible refine Kd.C_drew ?_))); (case side2 => exact HC0_0.out); rintro e w67 ⟨v130, rfl, ho0, hb⟩; refine ⟨_, rfl, ?_⟩; have HO131 := Aside0.mk (Kd.R_lower (Kd.R_new' (Kd.R_new' (Kd.R_new' ho0 (Kd.R_lt (rb_ HO_6.out))) (Kd.R_lt (rb_ HO_9.out))) (Kd.R_lt (rb_ HO_114000.out))) (below_size (gb_ HB.out))); replace HO_6 := a5_ HO_6 ho0 hb; replace HO_9 := a5_ HO_9 ho0 hb; replace HO_114000 := a5_ HO_114000 ho0 hb; replace BK101 := a2_ BK101 hb; replace BK113 := a2_ BK113 hb; replace HB := Aside0.mk (below_step (gb_ HB.out) hb); (try clear hb); (try clear hb2); (try clear hk); (try clear hi); (try clear ho0); obtain ⟨Ao68, co68, eo68⟩ := Kd.R_slice HO131.out; subst eo68) | ((with_reducible refine gate_callee (f := 27) rfl ?_); refine goesL_ (some 81) rfl rfl Try.func27 (by kernel_rfl) rfl #[.agg #[.slice Ao68 t129.length co68], .int .i64 a1] rfl (by (try simp only [List.map_toArray, List.map_cons, List.map_nil]); first | done | rfl | (simp only [List.length_drop, List.length_take]; rfl)) ?_; (with_reducible refine (impl_GreedyCode.calls _ _ t129 a1 t132 t135 _ ?side1 ?side2 A61.out).mono ?_); (case side1 => exact c1_ HO131); (case side2 => exact (Kd.R_reads' HO131.out).2.1); rintro e w69 ⟨v133, rfl, ho0, hb⟩; refine ⟨_, rfl, ?_⟩; have HO134 := Aside0.mk (Kd.R_lower (Kd.R_new' (Kd.R_new' (Kd.R_new' (Kd.R_new' ho0 (Kd.R_lt (rb_ HO_6.out))) (Kd.R_lt (rb_ HO_9.out))) (Kd.R_lt (rb_ HO_114000.out))) (Kd.R_lt (rb_ HO131.out))) (below_size (gb_ HB.out))); replace HO_6 := a5_ HO_6 ho0 hb; replace HO_9 := a5_ HO_9 ho0 hb; replace HO_114000 := a5_ HO_114000 ho0 hb; replace HO131 := a5_ HO131 ho0 hb; replace BK101 := a2_ BK101 hb; replace BK113 := a2_ BK113 hb; replace HB := Aside0.mk (below_step (gb_ HB.out) hb); (try clear hb); (try clear hb2); (try clear hk); (try clear hi); (try clear ho0)))
           (try simp only [Act.put, List.setIfInBounds_toArray, List.set_cons_zero, List.set_cons_succ])
           go_cut [92] (fun cs_92 wc => ∃ (kq : Nat) (x92_61 : Bool), cs_92 = .bool x92_61 ∧ Aside0 (laws_FnExactGreedyCode.j2 kq t127 t126 x92_61 = some r) ∧ Aside0 (kq ≤ kj37) ∧ Aside0 (Kd.R (Kd.int .i64) 2 wc w.heap.size (fun k_ => OB_ k_ (.slice Ao23 t124.length co23)) (.slice Ao63 t114.length co63) t127) ∧ Aside0 (Kd.R (Kd.int .i64) 2 wc w.heap.size (fun k_ => OB_ k_ (.slice Ao63 t114.length co63)) (.slice Ao23 t124.length co23) t124) ∧ Aside0 (wc.heap[gb101]? = some (.cells #[(.slice A0_0 l0_0.length c0_0)] 24 (0, 0))) ∧ Aside0 (wc.heap[gb113]? = some (.cells #[(.slice Ao23 t124.length co23)] 26 (0, 0))) ∧ Aside0 (Below w.heap.size w wc))
           case first =>
            have H := HC62.out
            clear HC62
            replace H := Option.bind_eq_some_iff.mp H
            obtain ⟨t136, A700, H⟩ := H
            replace H : (if t136 = true then (laws_FnExactGreedyCode.j2 kj37 t127 t126 (t135 != t109)) else (laws_FnExactGreedyCode.j2 kj37 t127 t126 true)) = some r := H
            have A70 := Aside0.mk A700
            clear A700
            by_cases c71 : t136 = true
            ·subst c71
             have H1 : (laws_FnExactGreedyCode.j2 kj37 t127 t126 (t135 != t109)) = some r := by rw [if_pos rfl] at H; exact H
             clear H
             have H := H1
             clear H1
             have H' := Aside0.mk H
             clear H
             obtain ⟨Ao72, co72, eo72⟩ := Kd.R_slice HO134.out
             subst eo72
             obtain ⟨Ao73, co73, eo73⟩ := Kd.R_slice HO_6.out
             subst eo73
             go_wp2_with (first | ((with_reducible refine gate_callee (f := 15) rfl ?_); refine goesL_ (some 86) rfl rfl Try.func15 (by kernel_rfl) rfl #[.slice Ao72 t132.length co72, .slice Ao73 t106.length co73] rfl (by (try simp only [List.map_toArray, List.map_cons, List.map_nil]); first | done | rfl | (simp only [List.length_drop, List.length_take]; rfl)) ?_; (with_reducible refine (laws_eqInt64S.calls kj37 _ _ t132 _ _ t106 true _ ?side1 ?side2 ?side3 ?side4 A70.out).mono ?_); (case side1 => exact c1_ HO134); (case side2 => exact (Kd.R_reads' HO134.out).2.1); (case side3 => exact c1_ HO_6); (case side4 => exact (Kd.R_reads' HO_6.out).2.1); rintro e w' ⟨rfl, ⟨nd, rfl⟩⟩; refine ⟨_, rfl, ?_⟩))
             go_meet
             case rel => exact ⟨_, ((t135 != t109)), (by first | rfl | (simp; done) | (simp [*]; done)), H', ⟨by have := HJ11.out; have := HJ37.out; first | omega | exact Nat.le_refl _⟩, ⟨by (try simp only [hl114000_37]); (with_reducible repeat (first | apply Kd.R_alloc | apply Kd.R_drewN | apply Kd.R_drew)); exact Kd.R_mono HO_9.out (fun _ hk => hk.1.1.2)⟩, ⟨by (try simp only [hl114000_37]); (with_reducible repeat (first | apply Kd.R_alloc | apply Kd.R_drewN | apply Kd.R_drew)); exact Kd.R_mono HO_114000.out (fun _ hk => hk.1.1.2)⟩, ⟨by (try simp only [hl114000_37]); (with_reducible repeat (first | refine blk_drewN ?_ _ | refine blk_drew ?_ | refine blk_alloc ?_ _)); exact BK101.out⟩, ⟨by (try simp only [hl114000_37]); (with_reducible repeat (first | refine blk_drewN ?_ _ | refine blk_drew ?_ | refine blk_alloc ?_ _)); exact BK113.out⟩, ⟨gb_ HB.out⟩⟩
            ·replace c71 := Bool.eq_false_iff.mpr c71
             subst c71
             have H1 : (laws_FnExactGreedyCode.j2 kj37 t127 t126 true) = some r := by rw [if_neg (show ¬ (false = true) by decide)] at H; exact H
             clear H
             have H := H1
             clear H1
             have H' := Aside0.mk H
             clear H
             obtain ⟨Ao74, co74, eo74⟩ := Kd.R_slice HO134.out
             subst eo74
             obtain ⟨Ao75, co75, eo75⟩ := Kd.R_slice HO_6.out
             subst eo75
             go_wp2_with (first | ((with_reducible refine gate_callee (f := 15) rfl ?_); refine goesL_ (some 86) rfl rfl Try.func15 (by kernel_rfl) rfl #[.slice Ao74 t132.length co74, .slice Ao75 t106.length co75] rfl (by (try simp only [List.map_toArray, List.map_cons, List.map_nil]); first | done | rfl | (simp only [List.length_drop, List.length_take]; rfl)) ?_; (with_reducible refine (laws_eqInt64S.calls kj37 _ _ t132 _ _ t106 false _ ?side1 ?side2 ?side3 ?side4 A70.out).mono ?_); (case side1 => exact c1_ HO134); (case side2 => exact (Kd.R_reads' HO134.out).2.1); (case side3 => exact c1_ HO_6); (case side4 => exact (Kd.R_reads' HO_6.out).2.1); rintro e w' ⟨rfl, ⟨nd, rfl⟩⟩; refine ⟨_, rfl, ?_⟩))
             go_meet
             case rel => exact ⟨_, (true), (by first | rfl | (simp; done) | (simp [*]; done)), H', ⟨by have := HJ11.out; have := HJ37.out; first | omega | exact Nat.le_refl _⟩, ⟨by (try simp only [hl114000_37]); (with_reducible repeat (first | apply Kd.R_alloc | apply Kd.R_drewN | apply Kd.R_drew)); exact Kd.R_mono HO_9.out (fun _ hk => hk.1.1.2)⟩, ⟨by (try simp only [hl114000_37]); (with_reducible repeat (first | apply Kd.R_alloc | apply Kd.R_drewN | apply Kd.R_drew)); exact Kd.R_mono HO_114000.out (fun _ hk => hk.1.1.2)⟩, ⟨by (try simp only [hl114000_37]); (with_reducible repeat (first | refine blk_drewN ?_ _ | refine blk_drew ?_ | refine blk_alloc ?_ _)); exact BK101.out⟩, ⟨by (try simp only [hl114000_37]); (with_reducible repeat (first | refine blk_drewN ?_ _ | refine blk_drew ?_ | refine blk_alloc ?_ _)); exact BK113.out⟩, ⟨gb_ HB.out⟩⟩
           case rest =>
            clear HC62
            try clear c1
            try clear c2
            try clear p2
            try clear c3
            try clear c4
            try clear c4b0
            try clear c5
            try clear c6
            try clear c7
            try clear c9
            try clear c11
            try clear c14
            try clear c15
            try clear c16
            try clear c17
            try clear c19
            try clear c24
            try clear c26
            try clear c27
            try clear c28
            try clear c33
            try clear c36
            try clear c43
            try clear c46
            try clear c46b0
            try clear c48
            try clear c53
            try clear c56
            try clear c56b0
            try clear c59
            try clear c59b0
            try clear c59b1
            try clear c65
            try clear c71
            try clear hcz14_0
            try clear hcz16_0
            try clear hcz20_0
            try clear hcz25_0
            try clear hcz44_0
            try clear hcz66_0
            try clear hcz6_0
            try clear hfz14_0
            try clear hfz16_0
            try clear hfz20_0
            try clear hfz25_0
            try clear hfz44_0
            try clear hfz66_0
            try clear hfz6_0
            try clear p2
            obtain ⟨kq, x92_61, rfl, HA, HJ61, HO_9, HO_114000, BK101, BK113, HB⟩ := hcut
            have hl9_61 := (Kd.R_reads' HO_9.out).1
            rw [hl9_61] at HO_9
            (try simp only [hl9_61])
            (try simp only [hl9_61] at BK101)
            (try simp only [hl9_61] at BK113)
            (try simp only [hl9_61] at HO_114000)
            cases kq with
            | zero => exact absurd HA.out (by simp [laws_FnExactGreedyCode.j2])
            | succ kj61 =>
             have H := HA.out
             clear HA
             simp only [laws_FnExactGreedyCode.j2] at H
             by_cases c76 : x92_61 = true
             ·subst c76
              have H1 : (some false) = some r := by rw [if_pos rfl] at H; exact H
              clear H
              have H := H1
              clear H1
              obtain rfl := Option.some.inj H
              go_wp2
              go_ret
              exact ⟨by first | rfl | (simp [errW_none, errW_some] <;> rfl) | (simp [*, errW_none, errW_some] <;> rfl), gb_ HB.out⟩
             ·replace c76 := Bool.eq_false_iff.mpr c76
              subst c76
              have H1 : ((laws_heldInt64S.f kj61 t127 1).bind fun t137 => (if t137 < 0 then (some false) else (if t137 = t126 then (some true) else (some false)))) = some r := by rw [if_neg (show ¬ (false = true) by decide)] at H; exact H
              clear H
              have H := H1
              clear H1
              replace H := Option.bind_eq_some_iff.mp H
              obtain ⟨t137, A770, H⟩ := H
              replace H : (if t137 < 0 then (some false) else (if t137 = t126 then (some true) else (some false))) = some r := H
              have A77 := Aside0.mk A770
              clear A770
              by_cases c78 : t137 < 0
              ·rw [if_pos c78] at H
               have c78b0 : decide (t137 < 0) = true := decide_eq_true c78
               clear c78
               obtain rfl := Option.some.inj H
               go_wp2_with (first | ((with_reducible refine gate_callee (f := 19) rfl ?_); refine goesL_ (some 95) rfl rfl Try.func19 (by kernel_rfl) rfl #[.slice Ao63 t127.length co63, .int .i64 1] rfl (by (try simp only [List.map_toArray, List.map_cons, List.map_nil]); first | done | rfl | (simp only [List.length_drop, List.length_take]; rfl)) ?_; (with_reducible refine (laws_heldInt64S.calls kj61 _ _ t127 1 t137 _ ?side1 ?side2 A77.out).mono ?_); (case side1 => exact c1_ HO_9); (case side2 => exact (Kd.R_reads' HO_9.out).2.1); rintro e w' ⟨rfl, ⟨nd, rfl⟩⟩; refine ⟨_, rfl, ?_⟩))
               go_ret
               exact ⟨by first | rfl | (simp [errW_none, errW_some] <;> rfl) | (simp [*, errW_none, errW_some] <;> rfl), gb_ HB.out⟩
              ·rw [if_neg c78] at H
               have c78b0 : decide (t137 < 0) = false := decide_eq_false c78
               clear c78
               by_cases c79 : t137 = t126
               ·rw [if_pos c79] at H
                have c79b0 : (t137 == t126) = true := beq_iff_eq.mpr c79
                have c79b1 : (t137 != t126) = false := bne_eq_false_iff_eq.mpr c79
                clear c79
                obtain rfl := Option.some.inj H
                go_wp2_with (first | ((with_reducible refine gate_callee (f := 19) rfl ?_); refine goesL_ (some 95) rfl rfl Try.func19 (by kernel_rfl) rfl #[.slice Ao63 t127.length co63, .int .i64 1] rfl (by (try simp only [List.map_toArray, List.map_cons, List.map_nil]); first | done | rfl | (simp only [List.length_drop, List.length_take]; rfl)) ?_; (with_reducible refine (laws_heldInt64S.calls kj61 _ _ t127 1 t137 _ ?side1 ?side2 A77.out).mono ?_); (case side1 => exact c1_ HO_9); (case side2 => exact (Kd.R_reads' HO_9.out).2.1); rintro e w' ⟨rfl, ⟨nd, rfl⟩⟩; refine ⟨_, rfl, ?_⟩))
                go_ret
                exact ⟨by first | rfl | (simp [errW_none, errW_some] <;> rfl) | (simp [*, errW_none, errW_some] <;> rfl), gb_ HB.out⟩
               ·rw [if_neg c79] at H
                have c79b0 : (t137 == t126) = false := beq_eq_false_iff_ne.mpr c79
                have c79b1 : (t137 != t126) = true := bne_iff_ne.mpr c79
                obtain rfl := Option.some.inj H
                go_wp2_with (first | ((with_reducible refine gate_callee (f := 19) rfl ?_); refine goesL_ (some 95) rfl rfl Try.func19 (by kernel_rfl) rfl #[.slice Ao63 t127.length co63, .int .i64 1] rfl (by (try simp only [List.map_toArray, List.map_cons, List.map_nil]); first | done | rfl | (simp only [List.length_drop, List.length_take]; rfl)) ?_; (with_reducible refine (laws_heldInt64S.calls kj61 _ _ t127 1 t137 _ ?side1 ?side2 A77.out).mono ?_); (case side1 => exact c1_ HO_9); (case side2 => exact (Kd.R_reads' HO_9.out).2.1); rintro e w' ⟨rfl, ⟨nd, rfl⟩⟩; refine ⟨_, rfl, ?_⟩))
                go_ret
                exact ⟨by first | rfl | (simp [errW_none, errW_some] <;> rfl) | (simp [*, errW_none, errW_some] <;> rfl), gb_ HB.out⟩
          ·rw [if_neg c59] at H
           have c59b0 : (t128 == t126) = false := beq_eq_false_iff_ne.mpr c59
           have c59b1 : (t128 != t126) = true := bne_iff_ne.mpr c59
           obtain rfl := Option.some.inj H
           obtain ⟨Ao80, co80, eo80⟩ := Kd.R_slice HO_9.out
           subst eo80
           go_wp2_with (first | ((with_reducible refine gate_callee (f := 17) rfl ?_); refine goesL_ (some 68) rfl rfl Try.func17 (by kernel_rfl) rfl #[.slice Ao80 t114.length co80, .int .i64 1] rfl (by (try simp only [List.map_toArray, List.map_cons, List.map_nil]); first | done | rfl | (simp only [List.length_drop, List.length_take]; rfl)) ?_; (with_reducible refine (laws_markInt64S.calls kj37 (fun k_ => some k_ = (.slice Ao80 t114.length co80 : Value).ownBlock) (.slice Ao80 t114.length co80) t114 1 t126 t127 w _ ?side1 ?side2 A54.out).mono ?_); (case side1 => exact gb_ HB.out); (case side2 => exact Kd.R_tight rfl HO_9.out); rintro e w81 ⟨rfl, hy0, hb, hkp⟩; refine ⟨_, rfl, ?_⟩; replace HO_6 := Aside0.mk (Kd.R_mono (ok' := fun k_ => OB_ k_ (.slice Ao80 t114.length co80) ∧ OB_ k_ (.slice Ao23 t124.length co23)) (Kd.R_keptB (HO_6.out) hkp (fun k_ hk_ hs_ => (hk_.1) hs_)) (fun k_ hk_ => ⟨hk_.1.1, hk_.1.2⟩)); replace HO_114000 := Aside0.mk (Kd.R_mono (ok' := fun k_ => OB_ k_ v107 ∧ OB_ k_ (.slice Ao80 t114.length co80)) (Kd.R_keptB (HO_114000.out) hkp (fun k_ hk_ hs_ => (hk_.2) hs_)) (fun k_ hk_ => ⟨hk_.1.1, hk_.1.2⟩)); replace BK101 := a7_ BK101 hkp HO_9; replace BK113 := a7_ BK113 hkp HO_9; replace HO_9 := Aside0.mk (Kd.R_reok rfl hy0 (fun k_ e_ => HO_9.out.1 k_ e_)); replace HB := Aside0.mk (hb); (try clear hb); (try clear hkp); (try clear hy0)) | ((with_reducible refine gate_callee (f := 19) rfl ?_); refine goesL_ (some 71) rfl rfl Try.func19 (by kernel_rfl) rfl #[.slice Ao80 t127.length co80, .int .i64 1] rfl (by (try simp only [List.map_toArray, List.map_cons, List.map_nil]); first | done | (rw [show t127.length = t114.length from (Kd.R_reads' HO_9.out).1.symm] <;> rfl) | rfl | (simp only [List.length_drop, List.length_take]; rfl)) ?_; (with_reducible refine (laws_heldInt64S.calls kj37 _ _ t127 1 t128 _ ?side1 ?side2 A55.out).mono ?_); (case side1 => exact c1_ HO_9); (case side2 => rw [show t127.length = t114.length from (Kd.R_reads' HO_9.out).1.symm]; exact (Kd.R_reads' HO_9.out).2.1); rintro e w' ⟨rfl, ⟨nd, rfl⟩⟩; refine ⟨_, rfl, ?_⟩))
           go_ret
           exact ⟨by first | rfl | (simp [errW_none, errW_some] <;> rfl) | (simp [*, errW_none, errW_some] <;> rfl), gb_ HB.out⟩
     ·replace c36 := Bool.eq_false_iff.mpr c36
      subst c36
      have H1 : (some false) = some r := by rw [if_neg (show ¬ (false = true) by decide)] at H; exact H
      clear H
      have H := H1
      clear H1
      obtain rfl := Option.some.inj H
      try go_wp2
      replace HO_6 := Aside0.mk (Kd.R_drew HO_6.out)
      replace HO_9 := Aside0.mk (Kd.R_drew HO_9.out)
      replace HO_114000 := Aside0.mk (Kd.R_drew HO_114000.out)
      replace BK101 := Aside0.mk (blk_drew BK101.out)
      replace BK113 := Aside0.mk (blk_drew BK113.out)
      replace HB := Aside0.mk (below_drew1 HB.out)
      refine start_ (n := 5) (S := fun w' => w'.cell? ⟨gb113, 0, none⟩ = some (.slice Ao23 t110.length co23) ∧ w'.cell? ⟨gb101, 0, none⟩ = some (.slice A0_0 l0_0.length c0_0)) (ds := []) #[false, false, false, false, false] (by kernel_rfl) rfl rfl ⟨(blk_cell BK113.out 0).trans rfl, (blk_cell BK101.out 0).trans rfl⟩ (fun hHeld => ?_)
      generalize wc.drew = w82 at HO_6 HO_9 HO_114000 BK101 BK113 HB hHeld ⊢
      refine take_ (i := 0) (N := some 45) (v := ?_) (a' := ?_) #[true, false, false, false, false] rfl rfl (by kernel_rfl) (fun _ _ _ h => h) (Or.inl ⟨by rfl, ?_⟩) hHeld ?_ ?_
      rotate_left
      ·rintro w' ⟨s0, s1⟩
       go_simp
       with_reducible rfl
      rotate_left
      ·simp only [Act.put, List.setIfInBounds_toArray, List.set_cons_zero, List.set_cons_succ, i64_w, i32_w]
       rfl
      refine take_ (i := 1) (N := some 46) (v := ?_) (a' := ?_) #[true, true, false, false, false] rfl rfl (by kernel_rfl) (fun _ _ _ h => h) (Or.inl ⟨by rfl, ?_⟩) hHeld ?_ ?_
      rotate_left
      ·rintro w' ⟨s0, s1⟩
       go_simp
       with_reducible rfl
      rotate_left
      ·simp only [Act.put, List.setIfInBounds_toArray, List.set_cons_zero, List.set_cons_succ, i64_w, i32_w]
       rfl
      refine one_ (i := 2) (N := some 47) #[true, true, true, false, false] rfl rfl (by kernel_rfl) (by decide) (fun K hK => ?_)
      refine goes_ Try.func11 (by kernel_rfl) rfl #[.agg #[.slice A0_0 l0_0.length c0_0]] (by rfl) rfl rfl (by (try simp only [List.map_toArray, List.map_cons, List.map_nil]); first | done | rfl | (simp only [List.length_drop, List.length_take]; rfl)) ?_
      with_reducible refine (laws_toSpace.calls kj11 _ _ l0_0 t119 _ ?side1 ?side2 A34.out).mono ?_
      (case side1 => exact c2_ HR0_0 HB)
      (case side2 => exact HC0_0.out)
      rintro e w83 ⟨v120, rfl, ho0, hb⟩
      refine ⟨_, rfl, ?_⟩
      have HO121 := Aside0.mk (Kd.R_lower (Kd.R_new' (Kd.R_new' (Kd.R_new' ho0 (Kd.R_lt (rb_ HO_6.out))) (Kd.R_lt (rb_ HO_9.out))) (Kd.R_lt (rb_ HO_114000.out))) (below_size (gb_ HB.out)))
      replace HO_6 := a5_ HO_6 ho0 hb
      replace HO_9 := a5_ HO_9 ho0 hb
      replace HO_114000 := a5_ HO_114000 ho0 hb
      replace BK101 := a2_ BK101 hb
      replace BK113 := a2_ BK113 hb
      replace HB := Aside0.mk (below_step (gb_ HB.out) hb)
      (try clear hb)
      (try clear hb2)
      (try clear hk)
      (try clear hi)
      (try clear ho0)
      obtain ⟨Ao84, co84, eo84⟩ := Kd.R_slice HO121.out
      (first | subst eo84 | (injection eo84 with f1_ f2_ f3_; have f4_ := f1_.symm; have f5_ := f3_.symm; clear f1_ f2_ f3_; subst f4_; subst f5_))
      refine hK.out _ _ ⟨(blk_cell BK113.out 0).trans rfl, (blk_cell BK101.out 0).trans rfl⟩ (fun hHeld => ?_)
      clear hK K
      refine norm_ (a' := ?_) ?_ ?_
      rotate_left
      ·show Act.put _ (some 47) _ = _
       simp only [Act.put, List.setIfInBounds_toArray, List.set_cons_zero, List.set_cons_succ, i64_w, i32_w]
       rfl
      refine one_ (i := 3) (N := some 48) #[true, true, true, true, false] rfl rfl (by kernel_rfl) (by decide) (fun K hK => ?_)
      refine goes_ Try.func14 (by kernel_rfl) rfl #[.agg #[.slice Ao23 t110.length co23], .agg #[.slice Ao84 t119.length co84]] (by rfl) rfl rfl (by (try simp only [List.map_toArray, List.map_cons, List.map_nil]); first | done | rfl | (simp only [List.length_drop, List.length_take]; rfl)) ?_
      with_reducible refine (laws_eqSpace.calls kj11 _ _ t110 _ _ t119 false _ ?side1 ?side2 ?side3 ?side4 A35.out).mono ?_
      (case side1 => exact c1_ HO_114000)
      (case side2 => exact (Kd.R_reads' HO_114000.out).2.1)
      (case side3 => exact c1_ HO121)
      (case side4 => exact (Kd.R_reads' HO121.out).2.1)
      rintro e w85 ⟨rfl, hb⟩
      refine ⟨_, rfl, ?_⟩
      replace HO_6 := a1_ HO_6 hb
      replace HO_9 := a1_ HO_9 hb
      replace HO_114000 := a1_ HO_114000 hb
      replace HO121 := a1_ HO121 hb
      replace BK101 := a2_ BK101 hb
      replace BK113 := a2_ BK113 hb
      replace HB := Aside0.mk (below_step (gb_ HB.out) hb)
      (try clear hb)
      (try clear hb2)
      (try clear hk)
      (try clear hi)
      refine hK.out _ _ ⟨(blk_cell BK113.out 0).trans rfl, (blk_cell BK101.out 0).trans rfl⟩ (fun hHeld => ?_)
      clear hK K
      refine norm_ (a' := ?_) ?_ ?_
      rotate_left
      ·show Act.put _ (some 48) _ = _
       simp only [Act.put, List.setIfInBounds_toArray, List.set_cons_zero, List.set_cons_succ, i64_w, i32_w]
       rfl
      refine pure_ (i := 4) (N := some 49) (v := ?_) (a' := ?_) #[true, true, true, true, true] rfl rfl (by kernel_rfl) (fun _ _ _ h => h) (Or.inl ⟨by rfl, ?_⟩) ?_ ?_
      rotate_left
      ·intro w'
       go_simp
       with_reducible rfl
      rotate_left
      ·simp only [Act.put, List.setIfInBounds_toArray, List.set_cons_zero, List.set_cons_succ, i64_w, i32_w]
       rfl
      refine done_ (by kernel_rfl) ?_
      try go_wp2
      go_ret
      exact ⟨by first | rfl | (simp [errW_none, errW_some] <;> rfl) | (simp [*, errW_none, errW_some] <;> rfl), gb_ HB.out⟩

end Go.Proofs.Ytbhgnphdhkmliaa.P
