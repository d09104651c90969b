/- Walks of Go functions, printed for this seat by this session's driver with the kit's print program: each says that a call returns what the plain Lean function beside it says. -/
import Derived.Test.YtbhgnphdhkmliaaF0
import Derived.Test.YtbhgnphdhkmliaaFBase
import Derived.Test.YtbhgnphdhkmliaaFspecAddSumPlace
import Derived.Test.YtbhgnphdhkmliaaHAddSum
namespace Go.Proofs.Ytbhgnphdhkmliaa.P
open Go.RowKit Go.Proofs.YtbhgnphdhkmliaaW.PrintWords Go.Proofs.YtbhgnphdhkmliaaW.PrintLast Go.Proofs.YtbhgnphdhkmliaaW.PrintMore
attribute [local go_sem] max2_int min2_int max_two min_two max_three min_three max_four min_four
set_option linter.unusedVariables false
set_option linter.unusedSimpArgs false

/-! ### laws_FnExactAddSumPlace: function 4 -/
mutual
def laws_FnExactAddSumPlace.j0 : Nat → List Int → Int → List Int → Int → List Int → List Int → Int → Bool → List Int → List Int → List Int → List Int → Option (Bool)
  | 0, _, _, _, _, _, _, _, _, _, _, _, _ => none
  | k + 1, x1, x2, x9, x10, x12, x14, x15, x66, x102000, x117000, x121000, x132000 => if x66 = true then (some false) else ((laws_toSpace.f k x102000).bind fun t134 => ((laws_eqSpace.f k x121000 t134).bind fun t137 => (if t137 = true then ((laws_toInt64S.f k x1).bind fun t138 => ((laws_eqInt64S.f k x12 t138).bind fun t141 => (if t141 = true then ((laws_markSpace.f k x121000 1).bind fun bt142 => ((laws_markInt64S.f k x12 bt142.1).bind fun bt144 => (if bt144.1 < 0 then (laws_FnExactAddSumPlace.j1 k x1 x2 x9 x10 x14 true x102000 x117000 x132000) else ((laws_eqSpace.f k x132000 x117000).bind fun t146 => (if t146 = true then ((laws_eqInt64S.f k x14 x9).bind fun t147 => (if t147 = true then (laws_FnExactAddSumPlace.j1 k x1 x2 x9 x10 x14 (x15 != x10) x102000 x117000 x132000) else (laws_FnExactAddSumPlace.j1 k x1 x2 x9 x10 x14 true x102000 x117000 x132000))) else (laws_FnExactAddSumPlace.j1 k x1 x2 x9 x10 x14 true x102000 x117000 x132000)))))) else (some false)))) else (some false))))
def laws_FnExactAddSumPlace.j1 : Nat → List Int → Int → List Int → Int → List Int → Bool → List Int → List Int → List Int → Option (Bool)
  | 0, _, _, _, _, _, _, _, _, _ => none
  | k + 1, x1, x2, x9, x10, x14, x101, x102000, x117000, x132000 => if x101 = true then (some false) else ((laws_markSpace.f k x132000 1).bind fun bt148 => ((laws_markInt64S.f k x14 bt148.1).bind fun bt150 => ((laws_heldSpace.f k bt148.2 1).bind fun t152 => (if t152 < 0 then (some false) else ((laws_heldInt64S.f k bt150.2 t152).bind fun t153 => (if t153 < 0 then (some false) else (if t153 = bt150.1 then ((laws_toSpace.f k x102000).bind fun t154 => ((laws_toInt64S.f k x1).bind fun t157 => ((impl_AddSumPlace.f t154 t157 x2).bind fun bt160 => ((laws_eqSpace.f k bt160.1 x117000).bind fun t168 => (if t168 = true then ((laws_eqInt64S.f k bt160.2.1 x9).bind fun t169 => (if t169 = true then (laws_FnExactAddSumPlace.j2 k bt150.2 bt150.1 (bt160.2.2 != x10) bt148.2) else (laws_FnExactAddSumPlace.j2 k bt150.2 bt150.1 true bt148.2))) else (laws_FnExactAddSumPlace.j2 k bt150.2 bt150.1 true bt148.2)))))) else (some false))))))))
def laws_FnExactAddSumPlace.j2 : Nat → List Int → Int → Bool → List Int → Option (Bool)
  | 0, _, _, _, _ => none
  | k + 1, x14, x17, x145, x132000 => if x145 = true then (some false) else ((laws_heldSpace.f k x132000 1).bind fun t170 => (if t170 < 0 then (some false) else ((laws_heldInt64S.f k x14 t170).bind fun t171 => (if t171 < 0 then (some false) else (if t171 = x17 then (some true) else (some false))))))
end
def laws_FnExactAddSumPlace.f (k : Nat) (l0_0 : List Int) (l1 : List Int) (a2 : Int) : Option (Bool) := if (l1.length : Int) > 1048576 then (some true) else ((laws_szSpace.f l0_0 1048576).bind fun t102 => (if t102 < 0 then (some true) else ((laws_toSpace.f k l0_0).bind fun t103 => ((laws_toInt64S.f k l1).bind fun t106 => ((spec_AddSumPlace.f k t103 t106 a2).bind fun bt109 => ((laws_toSpace.f k l0_0).bind fun t117 => ((laws_toInt64S.f k l1).bind fun t121 => ((impl_AddSumPlace.f t117 t121 a2).bind fun bt124 => ((laws_eqSpace.f k bt124.1 bt109.1).bind fun t132 => (if t132 = true then ((laws_eqInt64S.f k bt124.2.1 bt109.2.1).bind fun t133 => (if t133 = true then (laws_FnExactAddSumPlace.j0 k l1 a2 bt109.2.1 bt109.2.2 t121 bt124.2.1 bt124.2.2 (bt124.2.2 != bt109.2.2) l0_0 bt109.1 t117 bt124.1) else (laws_FnExactAddSumPlace.j0 k l1 a2 bt109.2.1 bt109.2.2 t121 bt124.2.1 bt124.2.2 true l0_0 bt109.1 t117 bt124.1))) else (laws_FnExactAddSumPlace.j0 k l1 a2 bt109.2.1 bt109.2.2 t121 bt124.2.1 bt124.2.2 true l0_0 bt109.1 t117 bt124.1)))))))))))
theorem laws_FnExactAddSumPlace.mono_l : ∀ k, (∀ y0 y1 y2 y3 y4 y5 y6 y7 y8 y9 y10 y11, LeO (laws_FnExactAddSumPlace.j0 k y0 y1 y2 y3 y4 y5 y6 y7 y8 y9 y10 y11) (laws_FnExactAddSumPlace.j0 (k + 1) y0 y1 y2 y3 y4 y5 y6 y7 y8 y9 y10 y11)) ∧ (∀ y0 y1 y2 y3 y4 y5 y6 y7 y8, LeO (laws_FnExactAddSumPlace.j1 k y0 y1 y2 y3 y4 y5 y6 y7 y8) (laws_FnExactAddSumPlace.j1 (k + 1) y0 y1 y2 y3 y4 y5 y6 y7 y8)) ∧ (∀ y0 y1 y2 y3, LeO (laws_FnExactAddSumPlace.j2 k y0 y1 y2 y3) (laws_FnExactAddSumPlace.j2 (k + 1) y0 y1 y2 y3))
  | 0 => ⟨fun _ _ _ _ _ _ _ _ _ _ _ _ r h => by simp [laws_FnExactAddSumPlace.j0] at h, fun _ _ _ _ _ _ _ _ _ r h => by simp [laws_FnExactAddSumPlace.j1] at h, fun _ _ _ _ r h => by simp [laws_FnExactAddSumPlace.j2] at h⟩
  | k + 1 => by
    obtain ⟨ih0, ih1, ih2⟩ := laws_FnExactAddSumPlace.mono_l k
    refine ⟨?_, ?_, ?_⟩
    · intro y0 y1 y2 y3 y4 y5 y6 y7 y8 y9 y10 y11
      unfold laws_FnExactAddSumPlace.j0
      repeat' first
      | (with_reducible exact ih0 _ _ _ _ _ _ _ _ _ _ _ _)
      | (with_reducible exact ih1 _ _ _ _ _ _ _ _ _)
      | (with_reducible exact ih2 _ _ _ _)
      | (with_reducible exact laws_eqInt64S.mono _ _ _)
      | (with_reducible exact laws_eqSpace.mono _ _ _)
      | (with_reducible exact laws_heldInt64S.mono _ _ _)
      | (with_reducible exact laws_heldSpace.mono _ _ _)
      | (with_reducible exact laws_markInt64S.mono _ _ _)
      | (with_reducible exact laws_markSpace.mono _ _ _)
      | (with_reducible exact laws_toInt64S.mono _ _)
      | (with_reducible exact laws_toSpace.mono _ _)
      | (with_reducible exact spec_AddSumPlace.mono _ _ _ _)
      | (with_reducible exact LeO.refl _)
      | (with_reducible exact LeO.none _)
      | (with_reducible refine LeO.ite ?_ ?_)
      | (with_reducible refine LeO.bind ?_ (fun _ => ?_))
      | exact ih0 _ _ _ _ _ _ _ _ _ _ _ _
      | exact ih1 _ _ _ _ _ _ _ _ _
      | exact ih2 _ _ _ _
      | exact laws_eqInt64S.mono _ _ _
      | exact laws_eqSpace.mono _ _ _
      | exact laws_heldInt64S.mono _ _ _
      | exact laws_heldSpace.mono _ _ _
      | exact laws_markInt64S.mono _ _ _
      | exact laws_markSpace.mono _ _ _
      | exact laws_toInt64S.mono _ _
      | exact laws_toSpace.mono _ _
      | exact spec_AddSumPlace.mono _ _ _ _
      | exact LeO.none _
      | refine LeO.ite ?_ ?_
      | refine LeO.bind ?_ (fun _ => ?_)
    · intro y0 y1 y2 y3 y4 y5 y6 y7 y8
      unfold laws_FnExactAddSumPlace.j1
      repeat' first
      | (with_reducible exact ih0 _ _ _ _ _ _ _ _ _ _ _ _)
      | (with_reducible exact ih1 _ _ _ _ _ _ _ _ _)
      | (with_reducible exact ih2 _ _ _ _)
      | (with_reducible exact laws_eqInt64S.mono _ _ _)
      | (with_reducible exact laws_eqSpace.mono _ _ _)
      | (with_reducible exact laws_heldInt64S.mono _ _ _)
      | (with_reducible exact laws_heldSpace.mono _ _ _)
      | (with_reducible exact laws_markInt64S.mono _ _ _)
      | (with_reducible exact laws_markSpace.mono _ _ _)
      | (with_reducible exact laws_toInt64S.mono _ _)
      | (with_reducible exact laws_toSpace.mono _ _)
      | (with_reducible exact spec_AddSumPlace.mono _ _ _ _)
      | (with_reducible exact LeO.refl _)
      | (with_reducible exact LeO.none _)
      | (with_reducible refine LeO.ite ?_ ?_)
      | (with_reducible refine LeO.bind ?_ (fun _ => ?_))
      | exact ih0 _ _ _ _ _ _ _ _ _ _ _ _
      | exact ih1 _ _ _ _ _ _ _ _ _
      | exact ih2 _ _ _ _
      | exact laws_eqInt64S.mono _ _ _
      | exact laws_eqSpace.mono _ _ _
      | exact laws_heldInt64S.mono _ _ _
      | exact laws_heldSpace.mono _ _ _
      | exact laws_markInt64S.mono _ _ _
      | exact laws_markSpace.mono _ _ _
      | exact laws_toInt64S.mono _ _
      | exact laws_toSpace.mono _ _
      | exact spec_AddSumPlace.mono _ _ _ _
      | exact LeO.none _
      | refine LeO.ite ?_ ?_
      | refine LeO.bind ?_ (fun _ => ?_)
    · intro y0 y1 y2 y3
      unfold laws_FnExactAddSumPlace.j2
      repeat' first
      | (with_reducible exact ih0 _ _ _ _ _ _ _ _ _ _ _ _)
      | (with_reducible exact ih1 _ _ _ _ _ _ _ _ _)
      | (with_reducible exact ih2 _ _ _ _)
      | (with_reducible exact laws_eqInt64S.mono _ _ _)
      | (with_reducible exact laws_eqSpace.mono _ _ _)
      | (with_reducible exact laws_heldInt64S.mono _ _ _)
      | (with_reducible exact laws_heldSpace.mono _ _ _)
      | (with_reducible exact laws_markInt64S.mono _ _ _)
      | (with_reducible exact laws_markSpace.mono _ _ _)
      | (with_reducible exact laws_toInt64S.mono _ _)
      | (with_reducible exact laws_toSpace.mono _ _)
      | (with_reducible exact spec_AddSumPlace.mono _ _ _ _)
      | (with_reducible exact LeO.refl _)
      | (with_reducible exact LeO.none _)
      | (with_reducible refine LeO.ite ?_ ?_)
      | (with_reducible refine LeO.bind ?_ (fun _ => ?_))
      | exact ih0 _ _ _ _ _ _ _ _ _ _ _ _
      | exact ih1 _ _ _ _ _ _ _ _ _
      | exact ih2 _ _ _ _
      | exact laws_eqInt64S.mono _ _ _
      | exact laws_eqSpace.mono _ _ _
      | exact laws_heldInt64S.mono _ _ _
      | exact laws_heldSpace.mono _ _ _
      | exact laws_markInt64S.mono _ _ _
      | exact laws_markSpace.mono _ _ _
      | exact laws_toInt64S.mono _ _
      | exact laws_toSpace.mono _ _
      | exact spec_AddSumPlace.mono _ _ _ _
      | exact LeO.none _
      | refine LeO.ite ?_ ?_
      | refine LeO.bind ?_ (fun _ => ?_)
theorem laws_FnExactAddSumPlace.mono : ∀ a0 a1 a2 k, LeO (laws_FnExactAddSumPlace.f k a0 a1 a2) (laws_FnExactAddSumPlace.f (k + 1) a0 a1 a2) := by
  intro a0 a1 a2 k
  obtain ⟨ih0, ih1, ih2⟩ := laws_FnExactAddSumPlace.mono_l k
  unfold laws_FnExactAddSumPlace.f
  repeat' first
      | (with_reducible exact ih0 _ _ _ _ _ _ _ _ _ _ _ _)
      | (with_reducible exact ih1 _ _ _ _ _ _ _ _ _)
      | (with_reducible exact ih2 _ _ _ _)
      | (with_reducible exact laws_eqInt64S.mono _ _ _)
      | (with_reducible exact laws_eqSpace.mono _ _ _)
      | (with_reducible exact laws_heldInt64S.mono _ _ _)
      | (with_reducible exact laws_heldSpace.mono _ _ _)
      | (with_reducible exact laws_markInt64S.mono _ _ _)
      | (with_reducible exact laws_markSpace.mono _ _ _)
      | (with_reducible exact laws_toInt64S.mono _ _)
      | (with_reducible exact laws_toSpace.mono _ _)
      | (with_reducible exact spec_AddSumPlace.mono _ _ _ _)
      | (with_reducible exact LeO.refl _)
      | (with_reducible exact LeO.none _)
      | (with_reducible refine LeO.ite ?_ ?_)
      | (with_reducible refine LeO.bind ?_ (fun _ => ?_))
      | exact ih0 _ _ _ _ _ _ _ _ _ _ _ _
      | exact ih1 _ _ _ _ _ _ _ _ _
      | exact ih2 _ _ _ _
      | exact laws_eqInt64S.mono _ _ _
      | exact laws_eqSpace.mono _ _ _
      | exact laws_heldInt64S.mono _ _ _
      | exact laws_heldSpace.mono _ _ _
      | exact laws_markInt64S.mono _ _ _
      | exact laws_markSpace.mono _ _ _
      | exact laws_toInt64S.mono _ _
      | exact laws_toSpace.mono _ _
      | exact spec_AddSumPlace.mono _ _ _ _
      | exact LeO.none _
      | refine LeO.ite ?_ ?_
      | refine LeO.bind ?_ (fun _ => ?_)
set_option maxHeartbeats 8000000 in
set_option maxRecDepth 100000 in
theorem laws_FnExactAddSumPlace.calls (k : Nat) (A0_0 : Option Addr) (c0_0 : Nat) (l0_0 : List Int) (A1 : Option Addr) (c1 : Nat) (l1 : List Int) (a2 : Int) (r : Bool) (w : World) (hr0_0 : Kd.C (Kd.int .i64) w A0_0 l0_0.length l0_0) (hc0_0 : l0_0.length ≤ c0_0) (hr1 : Kd.C (Kd.int .i64) w A1 l1.length l1) (hc1 : l1.length ≤ c1) (h : laws_FnExactAddSumPlace.f k l0_0 l1 a2 = some r) :
  Calls Try.prog 4 #[.agg #[.slice A0_0 l0_0.length c0_0], .slice A1 l1.length c1, .int .i64 a2] w fun e w' => e = .returned (.bool r) ∧ Below w.heap.size w w' := by
 have hu24 := Try.underlying24
 have hu26 := Try.underlying26
 have HR0_0 := Aside0.mk hr0_0
 have HC0_0 := Aside0.mk hc0_0
 clear hr0_0 hc0_0
 have HR1 := Aside0.mk hr1
 have HC1 := Aside0.mk hc1
 clear hr1 hc1
 have HB := Aside0.mk (Below.refl w.heap.size w)
 have H : (if (l1.length : Int) > 1048576 then (some true) else ((laws_szSpace.f l0_0 1048576).bind fun t102 => (if t102 < 0 then (some true) else ((laws_toSpace.f k l0_0).bind fun t103 => ((laws_toInt64S.f k l1).bind fun t106 => ((spec_AddSumPlace.f k t103 t106 a2).bind fun bt109 => ((laws_toSpace.f k l0_0).bind fun t117 => ((laws_toInt64S.f k l1).bind fun t121 => ((impl_AddSumPlace.f t117 t121 a2).bind fun bt124 => ((laws_eqSpace.f k bt124.1 bt109.1).bind fun t132 => (if t132 = true then ((laws_eqInt64S.f k bt124.2.1 bt109.2.1).bind fun t133 => (if t133 = true then (laws_FnExactAddSumPlace.j0 k l1 a2 bt109.2.1 bt109.2.2 t121 bt124.2.1 bt124.2.2 (bt124.2.2 != bt109.2.2) l0_0 bt109.1 t117 bt124.1) else (laws_FnExactAddSumPlace.j0 k l1 a2 bt109.2.1 bt109.2.2 t121 bt124.2.1 bt124.2.2 true l0_0 bt109.1 t117 bt124.1))) else (laws_FnExactAddSumPlace.j0 k l1 a2 bt109.2.1 bt109.2.2 t121 bt124.2.1 bt124.2.2 true l0_0 bt109.1 t117 bt124.1)))))))))))) = some r := h
 clear h
 by_cases c4 : (l1.length : Int) > 1048576
 ·rw [if_pos c4] at H
  have c4b0 : decide (1048576 < (l1.length : Int)) = true := decide_eq_true c4
  have c4b1 : decide (1048576 < l1.length) = true := decide_eq_true (by omega)
  clear c4
  obtain rfl := Option.some.inj H
  go_enter Try.func4, Try.ntmps4
  go_wp2_with (first | ((with_reducible refine gate_dst (N := 3) rfl ?_); refine box_event ?hg (N := 3) ?hd (cs := #[.slice A0_0 l0_0.length c0_0]) (t := 24) ?hr ?_; (case hd => rfl); (case hg => rfl); (case hr => first | (go_simp; done) | (go_simp; rfl)); intro gb101 hg w5 hbox hb; have n0_ := Aside0.mk (below_step (gb_ HB.out) hb); have n1_ := Aside0.mk (hbox); have n2_ := Aside0.mk ((by rw [hg]; exact (below_size (gb_ HB.out)) : w.heap.size ≤ gb101)); have n3_ := Aside0.mk ((by rw [hg]; exact (below_size (gb_ HB.out)) : w.heap.size ≤ gb101)); clear HB; have HB := n0_; have BK101 := n1_; have GW101 := n2_; have GE101 := n3_; clear n0_ n1_ n2_ n3_ hb hbox hg))
  go_ret
  exact ⟨by first | rfl | (simp [errW_none, errW_some] <;> rfl) | (simp [*, errW_none, errW_some] <;> rfl), gb_ HB.out⟩
 ·rw [if_neg c4] at H
  have c4b0 : decide (1048576 < (l1.length : Int)) = false := decide_eq_false c4
  have c4b1 : decide (1048576 < l1.length) = false := decide_eq_false (by omega)
  clear c4
  replace H := Option.bind_eq_some_iff.mp H
  obtain ⟨t102, A60, H⟩ := H
  replace H : (if t102 < 0 then (some true) else ((laws_toSpace.f k l0_0).bind fun t103 => ((laws_toInt64S.f k l1).bind fun t106 => ((spec_AddSumPlace.f k t103 t106 a2).bind fun bt109 => ((laws_toSpace.f k l0_0).bind fun t117 => ((laws_toInt64S.f k l1).bind fun t121 => ((impl_AddSumPlace.f t117 t121 a2).bind fun bt124 => ((laws_eqSpace.f k bt124.1 bt109.1).bind fun t132 => (if t132 = true then ((laws_eqInt64S.f k bt124.2.1 bt109.2.1).bind fun t133 => (if t133 = true then (laws_FnExactAddSumPlace.j0 k l1 a2 bt109.2.1 bt109.2.2 t121 bt124.2.1 bt124.2.2 (bt124.2.2 != bt109.2.2) l0_0 bt109.1 t117 bt124.1) else (laws_FnExactAddSumPlace.j0 k l1 a2 bt109.2.1 bt109.2.2 t121 bt124.2.1 bt124.2.2 true l0_0 bt109.1 t117 bt124.1))) else (laws_FnExactAddSumPlace.j0 k l1 a2 bt109.2.1 bt109.2.2 t121 bt124.2.1 bt124.2.2 true l0_0 bt109.1 t117 bt124.1)))))))))) = some r := H
  have A6 := Aside0.mk A60
  clear A60
  by_cases c7 : t102 < 0
  ·rw [if_pos c7] at H
   have c7b0 : decide (t102 < 0) = true := decide_eq_true c7
   clear c7
   obtain rfl := Option.some.inj H
   go_enter Try.func4, Try.ntmps4
   go_wp2_with (first | ((with_reducible refine gate_dst (N := 3) rfl ?_); refine box_event ?hg (N := 3) ?hd (cs := #[.slice A0_0 l0_0.length c0_0]) (t := 24) ?hr ?_; (case hd => rfl); (case hg => rfl); (case hr => first | (go_simp; done) | (go_simp; rfl)); intro gb101 hg w8 hbox hb; have n0_ := Aside0.mk (below_step (gb_ HB.out) hb); have n1_ := Aside0.mk (hbox); have n2_ := Aside0.mk ((by rw [hg]; exact (below_size (gb_ HB.out)) : w.heap.size ≤ gb101)); have n3_ := Aside0.mk ((by rw [hg]; exact (below_size (gb_ HB.out)) : w.heap.size ≤ gb101)); clear HB; have HB := n0_; have BK101 := n1_; have GW101 := n2_; have GE101 := n3_; clear n0_ n1_ n2_ n3_ hb hbox hg; have hcz9_0 : w8.cell? ⟨gb101, 0, none⟩ = some (.slice A0_0 l0_0.length c0_0) := (blk_cell BK101.out 0).trans rfl; have hfz9_0 := blk_frozen BK101.out 0) | ((with_reducible refine gate_callee (f := 9) rfl ?_); refine goesL_ (some 27) rfl rfl Try.func9 (by kernel_rfl) rfl #[.agg #[.slice A0_0 l0_0.length c0_0], .int .i64 1048576] rfl (by (try simp only [List.map_toArray, List.map_cons, List.map_nil]); first | done | rfl | (simp only [List.length_drop, List.length_take]; rfl)) ?_; (with_reducible refine (laws_szSpace.calls _ _ l0_0 1048576 t102 _ ?side1 ?side2 A6.out).mono ?_); (case side1 => repeat (first | exact (Kd.C_below HR0_0.out HB.out) | (with_reducible refine Kd.C_alloc ?_ _) | (with_reducible refine Kd.C_drewN ?_ _) | (with_reducible refine Kd.C_drew ?_))); (case side2 => exact HC0_0.out); rintro e w10 ⟨rfl, hb⟩; refine ⟨_, rfl, ?_⟩; have n0_ := Aside0.mk (blk_below (g := gb101) (o := .cells #[.slice A0_0 l0_0.length c0_0] 24 (0, 0)) (bb_ BK101.out) hb); have n1_ := Aside0.mk (below_step (gb_ HB.out) hb); clear BK101 HB; have BK101 := n0_; have HB := n1_; clear n0_ n1_; (try clear hb); (try clear hb2); (try clear hk); (try clear hi)))
   go_ret
   exact ⟨by first | rfl | (simp [errW_none, errW_some] <;> rfl) | (simp [*, errW_none, errW_some] <;> rfl), gb_ HB.out⟩
  ·rw [if_neg c7] at H
   have c7b0 : decide (t102 < 0) = false := decide_eq_false c7
   clear c7
   replace H := Option.bind_eq_some_iff.mp H
   obtain ⟨t103, A110, H⟩ := H
   replace H : ((laws_toInt64S.f k l1).bind fun t106 => ((spec_AddSumPlace.f k t103 t106 a2).bind fun bt109 => ((laws_toSpace.f k l0_0).bind fun t117 => ((laws_toInt64S.f k l1).bind fun t121 => ((impl_AddSumPlace.f t117 t121 a2).bind fun bt124 => ((laws_eqSpace.f k bt124.1 bt109.1).bind fun t132 => (if t132 = true then ((laws_eqInt64S.f k bt124.2.1 bt109.2.1).bind fun t133 => (if t133 = true then (laws_FnExactAddSumPlace.j0 k l1 a2 bt109.2.1 bt109.2.2 t121 bt124.2.1 bt124.2.2 (bt124.2.2 != bt109.2.2) l0_0 bt109.1 t117 bt124.1) else (laws_FnExactAddSumPlace.j0 k l1 a2 bt109.2.1 bt109.2.2 t121 bt124.2.1 bt124.2.2 true l0_0 bt109.1 t117 bt124.1))) else (laws_FnExactAddSumPlace.j0 k l1 a2 bt109.2.1 bt109.2.2 t121 bt124.2.1 bt124.2.2 true l0_0 bt109.1 t117 bt124.1)))))))) = some r := H
   have A11 := Aside0.mk A110
   clear A110
   replace H := Option.bind_eq_some_iff.mp H
   obtain ⟨t106, A120, H⟩ := H
   replace H : ((spec_AddSumPlace.f k t103 t106 a2).bind fun bt109 => ((laws_toSpace.f k l0_0).bind fun t117 => ((laws_toInt64S.f k l1).bind fun t121 => ((impl_AddSumPlace.f t117 t121 a2).bind fun bt124 => ((laws_eqSpace.f k bt124.1 bt109.1).bind fun t132 => (if t132 = true then ((laws_eqInt64S.f k bt124.2.1 bt109.2.1).bind fun t133 => (if t133 = true then (laws_FnExactAddSumPlace.j0 k l1 a2 bt109.2.1 bt109.2.2 t121 bt124.2.1 bt124.2.2 (bt124.2.2 != bt109.2.2) l0_0 bt109.1 t117 bt124.1) else (laws_FnExactAddSumPlace.j0 k l1 a2 bt109.2.1 bt109.2.2 t121 bt124.2.1 bt124.2.2 true l0_0 bt109.1 t117 bt124.1))) else (laws_FnExactAddSumPlace.j0 k l1 a2 bt109.2.1 bt109.2.2 t121 bt124.2.1 bt124.2.2 true l0_0 bt109.1 t117 bt124.1))))))) = some r := H
   have A12 := Aside0.mk A120
   clear A120
   replace H := Option.bind_eq_some_iff.mp H
   obtain ⟨⟨t109, t112, t115⟩, A130, H⟩ := H
   replace H : ((laws_toSpace.f k l0_0).bind fun t117 => ((laws_toInt64S.f k l1).bind fun t121 => ((impl_AddSumPlace.f t117 t121 a2).bind fun bt124 => ((laws_eqSpace.f k bt124.1 t109).bind fun t132 => (if t132 = true then ((laws_eqInt64S.f k bt124.2.1 t112).bind fun t133 => (if t133 = true then (laws_FnExactAddSumPlace.j0 k l1 a2 t112 t115 t121 bt124.2.1 bt124.2.2 (bt124.2.2 != t115) l0_0 t109 t117 bt124.1) else (laws_FnExactAddSumPlace.j0 k l1 a2 t112 t115 t121 bt124.2.1 bt124.2.2 true l0_0 t109 t117 bt124.1))) else (laws_FnExactAddSumPlace.j0 k l1 a2 t112 t115 t121 bt124.2.1 bt124.2.2 true l0_0 t109 t117 bt124.1)))))) = some r := H
   have A13 := Aside0.mk A130
   clear A130
   replace H := Option.bind_eq_some_iff.mp H
   obtain ⟨t117, A140, H⟩ := H
   replace H : ((laws_toInt64S.f k l1).bind fun t121 => ((impl_AddSumPlace.f t117 t121 a2).bind fun bt124 => ((laws_eqSpace.f k bt124.1 t109).bind fun t132 => (if t132 = true then ((laws_eqInt64S.f k bt124.2.1 t112).bind fun t133 => (if t133 = true then (laws_FnExactAddSumPlace.j0 k l1 a2 t112 t115 t121 bt124.2.1 bt124.2.2 (bt124.2.2 != t115) l0_0 t109 t117 bt124.1) else (laws_FnExactAddSumPlace.j0 k l1 a2 t112 t115 t121 bt124.2.1 bt124.2.2 true l0_0 t109 t117 bt124.1))) else (laws_FnExactAddSumPlace.j0 k l1 a2 t112 t115 t121 bt124.2.1 bt124.2.2 true l0_0 t109 t117 bt124.1))))) = some r := H
   have A14 := Aside0.mk A140
   clear A140
   replace H := Option.bind_eq_some_iff.mp H
   obtain ⟨t121, A150, H⟩ := H
   replace H : ((impl_AddSumPlace.f t117 t121 a2).bind fun bt124 => ((laws_eqSpace.f k bt124.1 t109).bind fun t132 => (if t132 = true then ((laws_eqInt64S.f k bt124.2.1 t112).bind fun t133 => (if t133 = true then (laws_FnExactAddSumPlace.j0 k l1 a2 t112 t115 t121 bt124.2.1 bt124.2.2 (bt124.2.2 != t115) l0_0 t109 t117 bt124.1) else (laws_FnExactAddSumPlace.j0 k l1 a2 t112 t115 t121 bt124.2.1 bt124.2.2 true l0_0 t109 t117 bt124.1))) else (laws_FnExactAddSumPlace.j0 k l1 a2 t112 t115 t121 bt124.2.1 bt124.2.2 true l0_0 t109 t117 bt124.1)))) = some r := H
   have A15 := Aside0.mk A150
   clear A150
   replace H := Option.bind_eq_some_iff.mp H
   obtain ⟨⟨t124, t127, t130⟩, A160, H⟩ := H
   replace H : ((laws_eqSpace.f k t124 t109).bind fun t132 => (if t132 = true then ((laws_eqInt64S.f k t127 t112).bind fun t133 => (if t133 = true then (laws_FnExactAddSumPlace.j0 k l1 a2 t112 t115 t121 t127 t130 (t130 != t115) l0_0 t109 t117 t124) else (laws_FnExactAddSumPlace.j0 k l1 a2 t112 t115 t121 t127 t130 true l0_0 t109 t117 t124))) else (laws_FnExactAddSumPlace.j0 k l1 a2 t112 t115 t121 t127 t130 true l0_0 t109 t117 t124))) = some r := H
   have A16 := Aside0.mk A160
   clear A160
   have HC17 := Aside0.mk H
   clear H
   go_enter Try.func4, Try.ntmps4
   go_upto_region 11 with (first | ((with_reducible refine gate_dst (N := 3) rfl ?_); refine box_event ?hg (N := 3) ?hd (cs := #[.slice A0_0 l0_0.length c0_0]) (t := 24) ?hr ?_; (case hd => rfl); (case hg => rfl); (case hr => first | (go_simp; done) | (go_simp; rfl)); intro gb101 hg w18 hbox hb; have n0_ := Aside0.mk (below_step (gb_ HB.out) hb); have n1_ := Aside0.mk (hbox); have n2_ := Aside0.mk ((by rw [hg]; exact (below_size (gb_ HB.out)) : w.heap.size ≤ gb101)); have n3_ := Aside0.mk ((by rw [hg]; exact (below_size (gb_ HB.out)) : w.heap.size ≤ gb101)); clear HB; have HB := n0_; have BK101 := n1_; have GW101 := n2_; have GE101 := n3_; clear n0_ n1_ n2_ n3_ hb hbox hg; have hcz19_0 : w18.cell? ⟨gb101, 0, none⟩ = some (.slice A0_0 l0_0.length c0_0) := (blk_cell BK101.out 0).trans rfl; have hfz19_0 := blk_frozen BK101.out 0) | ((with_reducible refine gate_callee (f := 9) rfl ?_); refine goesL_ (some 27) rfl rfl Try.func9 (by kernel_rfl) rfl #[.agg #[.slice A0_0 l0_0.length c0_0], .int .i64 1048576] rfl (by (try simp only [List.map_toArray, List.map_cons, List.map_nil]); first | done | rfl | (simp only [List.length_drop, List.length_take]; rfl)) ?_; (with_reducible refine (laws_szSpace.calls _ _ l0_0 1048576 t102 _ ?side1 ?side2 A6.out).mono ?_); (case side1 => repeat (first | exact (Kd.C_below HR0_0.out HB.out) | (with_reducible refine Kd.C_alloc ?_ _) | (with_reducible refine Kd.C_drewN ?_ _) | (with_reducible refine Kd.C_drew ?_))); (case side2 => exact HC0_0.out); rintro e w20 ⟨rfl, hb⟩; refine ⟨_, rfl, ?_⟩; have n0_ := Aside0.mk (blk_below (g := gb101) (o := .cells #[.slice A0_0 l0_0.length c0_0] 24 (0, 0)) (bb_ BK101.out) hb); have n1_ := Aside0.mk (below_step (gb_ HB.out) hb); clear BK101 HB; have BK101 := n0_; have HB := n1_; clear n0_ n1_; (try clear hb); (try clear hb2); (try clear hk); (try clear hi); have hcz21_0 : w20.cell? ⟨gb101, 0, none⟩ = some (.slice A0_0 l0_0.length c0_0) := (blk_cell BK101.out 0).trans rfl; have hfz21_0 := blk_frozen BK101.out 0) | ((with_reducible refine gate_callee (f := 11) rfl ?_); refine goesL_ (some 32) rfl rfl Try.func11 (by kernel_rfl) rfl #[.agg #[.slice A0_0 l0_0.length c0_0]] rfl (by (try simp only [List.map_toArray, List.map_cons, List.map_nil]); first | done | rfl | (simp only [List.length_drop, List.length_take]; rfl)) ?_; (with_reducible refine (laws_toSpace.calls k _ _ l0_0 t103 _ ?side1 ?side2 A11.out).mono ?_); (case side1 => repeat (first | exact (Kd.C_below HR0_0.out HB.out) | (with_reducible refine Kd.C_alloc ?_ _) | (with_reducible refine Kd.C_drewN ?_ _) | (with_reducible refine Kd.C_drew ?_))); (case side2 => exact HC0_0.out); rintro e w22 ⟨v104, rfl, ho0, hb⟩; refine ⟨_, rfl, ?_⟩; have n0_ := Aside0.mk (Kd.R_lower ho0 (below_size (gb_ HB.out))); have n1_ := Aside0.mk (blk_below (g := gb101) (o := .cells #[.slice A0_0 l0_0.length c0_0] 24 (0, 0)) (bb_ BK101.out) hb); have n2_ := Aside0.mk (below_step (gb_ HB.out) hb); clear BK101 HB; have HO105 := n0_; have BK101 := n1_; have HB := n2_; clear n0_ n1_ n2_; (try clear hb); (try clear hb2); (try clear hk); (try clear hi); (try clear ho0)) | ((with_reducible refine gate_callee (f := 12) rfl ?_); refine goesL_ (some 34) rfl rfl Try.func12 (by kernel_rfl) rfl #[.slice A1 l1.length c1] rfl (by (try simp only [List.map_toArray, List.map_cons, List.map_nil]); first | done | rfl | (simp only [List.length_drop, List.length_take]; rfl)) ?_; (with_reducible refine (laws_toInt64S.calls k _ _ l1 t106 _ ?side1 ?side2 A12.out).mono ?_); (case side1 => repeat (first | exact (Kd.C_below HR1.out HB.out) | (with_reducible refine Kd.C_alloc ?_ _) | (with_reducible refine Kd.C_drewN ?_ _) | (with_reducible refine Kd.C_drew ?_))); (case side2 => exact HC1.out); rintro e w23 ⟨v107, rfl, ho0, hb⟩; refine ⟨_, rfl, ?_⟩; have n0_ := Aside0.mk (Kd.R_elder' (rb_ HO105.out) (Kd.R_base ho0) hb); have n1_ := Aside0.mk (Kd.R_lower (Kd.R_new' ho0 (Kd.R_lt (rb_ HO105.out))) (below_size (gb_ HB.out))); have n2_ := Aside0.mk (blk_below (g := gb101) (o := .cells #[.slice A0_0 l0_0.length c0_0] 24 (0, 0)) (bb_ BK101.out) hb); have n3_ := Aside0.mk (below_step (gb_ HB.out) hb); clear HO105 BK101 HB; have HO105 := n0_; have HO108 := n1_; have BK101 := n2_; have HB := n3_; clear n0_ n1_ n2_ n3_; (try clear hb); (try clear hb2); (try clear hk); (try clear hi); (try clear ho0); obtain ⟨Ao24, co24, eo24⟩ := Kd.R_slice HO105.out; subst eo24; obtain ⟨Ao25, co25, eo25⟩ := Kd.R_slice HO108.out; subst eo25) | ((with_reducible refine gate_callee (f := 20) rfl ?_); refine goesL_ (some 36) rfl rfl Try.func20 (by kernel_rfl) rfl #[.agg #[.slice Ao24 t103.length co24], .slice Ao25 t106.length co25, .int .i64 a2] rfl (by (try simp only [List.map_toArray, List.map_cons, List.map_nil]); first | done | rfl | (simp only [List.length_drop, List.length_take]; rfl)) ?_; (with_reducible refine (spec_AddSumPlace.calls k _ _ t103 _ _ t106 a2 t109 t112 t115 _ ?side1 ?side2 ?side3 ?side4 A13.out).mono ?_); (case side1 => repeat (first | exact (Kd.R_reads' HO105.out).2.2 | (with_reducible refine Kd.C_alloc ?_ _) | (with_reducible refine Kd.C_drewN ?_ _) | (with_reducible refine Kd.C_drew ?_))); (case side2 => exact (Kd.R_reads' HO105.out).2.1); (case side3 => repeat (first | exact (Kd.R_reads' HO108.out).2.2 | (with_reducible refine Kd.C_alloc ?_ _) | (with_reducible refine Kd.C_drewN ?_ _) | (with_reducible refine Kd.C_drew ?_))); (case side4 => exact (Kd.R_reads' HO108.out).2.1); rintro e w26 ⟨v110, v113, rfl, ho0, ho1, hb⟩; refine ⟨_, rfl, ?_⟩; have n0_ := Aside0.mk (Kd.R_mono (Kd.R_told (Kd.R_told (Kd.R_old (rb_ HO105.out) hb) (Kd.R_base ho0)) (Kd.R_base ho1)) (fun _ h_ => h_.1)); have n1_ := Aside0.mk (Kd.R_mono (Kd.R_told (Kd.R_told (Kd.R_old (rb_ HO108.out) hb) (Kd.R_base ho0)) (Kd.R_base ho1)) (fun _ h_ => h_.1)); have n2_ := Aside0.mk (Kd.R_lower (Kd.R_new' (Kd.R_new' ho0 (Kd.R_lt (rb_ HO105.out))) (Kd.R_lt (rb_ HO108.out))) (below_size (gb_ HB.out))); have n3_ := Aside0.mk (Kd.R_lower (Kd.R_new' (Kd.R_new' ho1 (Kd.R_lt (rb_ HO105.out))) (Kd.R_lt (rb_ HO108.out))) (below_size (gb_ HB.out))); have n4_ := Aside0.mk (blk_below (g := gb101) (o := .cells #[.slice A0_0 l0_0.length c0_0] 24 (0, 0)) (bb_ BK101.out) hb); have n5_ := Aside0.mk (below_step (gb_ HB.out) hb); clear HO105 HO108 BK101 HB; have HO105 := n0_; have HO108 := n1_; have HO111 := n2_; have HO114 := n3_; have BK101 := n4_; have HB := n5_; clear n0_ n1_ n2_ n3_ n4_ n5_; (try clear hb); (try clear hb2); (try clear hk); (try clear hi); (try clear ho0); (try clear ho1)) | ((with_reducible refine gate_dst (N := 8) rfl ?_); refine box_event ?hg (N := 8) ?hd (cs := #[.slice none 0 0]) (t := 26) ?hr ?_; (case hd => rfl); (case hg => rfl); (case hr => first | (go_simp; done) | (go_simp; rfl)); intro gb116 hg w27 hbox hb; have n0_ := Aside0.mk (Kd.R_below (rb_ HO105.out) hb); have n1_ := Aside0.mk (Kd.R_below (rb_ HO108.out) hb); have n2_ := Aside0.mk (Kd.R_below (rb_ HO111.out) hb); have n3_ := Aside0.mk (Kd.R_below (rb_ HO114.out) hb); have n4_ := Aside0.mk (blk_below (g := gb101) (o := .cells #[.slice A0_0 l0_0.length c0_0] 24 (0, 0)) (bb_ BK101.out) hb); have n5_ := Aside0.mk (below_step (gb_ HB.out) hb); have n6_ := Aside0.mk (hbox); have n7_ := Aside0.mk ((by rw [hg]; exact (below_size (gb_ HB.out)) : w.heap.size ≤ gb116)); have n8_ := Aside0.mk ((by rw [hg]; exact (below_size (gb_ HB.out)) : w.heap.size ≤ gb116)); have n9_ := Aside0.mk ((by rw [hg]; exact Nat.ne_of_lt (blk_lt (g := gb101) (o := .cells #[.slice A0_0 l0_0.length c0_0] 24 (0, 0)) (bb_ BK101.out)) : gb101 ≠ gb116)); have n10_ := Aside0.mk ((by rw [hg]; exact Nat.ne_of_gt (blk_lt (g := gb101) (o := .cells #[.slice A0_0 l0_0.length c0_0] 24 (0, 0)) (bb_ BK101.out)) : gb116 ≠ gb101)); clear HO105 HO108 HO111 HO114 BK101 HB; have HO105 := n0_; have HO108 := n1_; have HO111 := n2_; have HO114 := n3_; have BK101 := n4_; have HB := n5_; have BK116 := n6_; have GW116 := n7_; have GE116 := n8_; have NB101_116 := n9_; have NB116_101 := n10_; clear n0_ n1_ n2_ n3_ n4_ n5_ n6_ n7_ n8_ n9_ n10_ hb hbox hg; obtain ⟨Ao28, co28, eo28⟩ := Kd.R_slice HO111.out; subst eo28; have hnb29 := NB116_101.out; have hnc29 := NB101_116.out; have hcz30_0 : w27.cell? ⟨gb116, 0, none⟩ = some (.slice none 0 0) := (blk_cell BK116.out 0).trans rfl; have hfz30_0 := blk_frozen BK116.out 0; have hcz31_0 : w27.cell? ⟨gb101, 0, none⟩ = some (.slice A0_0 l0_0.length c0_0) := (blk_cell BK101.out 0).trans rfl; have hfz31_0 := blk_frozen BK101.out 0) | ((with_reducible refine gate_callee (f := 11) rfl ?_); refine goesL_ (some 41) rfl rfl Try.func11 (by kernel_rfl) rfl #[.agg #[.slice A0_0 l0_0.length c0_0]] rfl (by (try simp only [List.map_toArray, List.map_cons, List.map_nil]); first | done | rfl | (simp only [List.length_drop, List.length_take]; rfl)) ?_; (with_reducible refine (laws_toSpace.calls k _ _ l0_0 t117 _ ?side1 ?side2 A14.out).mono ?_); (case side1 => exact Kd.C_below HR0_0.out (gb_ HB.out)); (case side2 => exact HC0_0.out); rintro e w32 ⟨v118, rfl, ho0, hb⟩; refine ⟨_, rfl, ?_⟩; have n0_ := Aside0.mk (Kd.R_elder' (rb_ (Kd.R_mono (Kd.R_far (p := ⟨gb116, 0, none⟩) (Kd.R_types HO105.out BK116.out (by decide)) (fun _ hk => hk.2) (.slice Ao28 t109.length co28)) (fun _ h_ => h_.1))) (Kd.R_base ho0) hb); have n1_ := Aside0.mk (Kd.R_elder' (rb_ (Kd.R_mono (Kd.R_far (p := ⟨gb116, 0, none⟩) (Kd.R_types HO108.out BK116.out (by decide)) (fun _ hk => hk.2) (.slice Ao28 t109.length co28)) (fun _ h_ => h_.1))) (Kd.R_base ho0) hb); have n2_ := Aside0.mk (Kd.R_elder' (rb_ (Kd.R_mono (Kd.R_far (p := ⟨gb116, 0, none⟩) (Kd.R_types HO111.out BK116.out (by decide)) (fun _ hk => hk.2) (.slice Ao28 t109.length co28)) (fun _ h_ => h_.1))) (Kd.R_base ho0) hb); have n3_ := Aside0.mk (Kd.R_elder' (rb_ (Kd.R_mono (Kd.R_far (p := ⟨gb116, 0, none⟩) (Kd.R_types HO114.out BK116.out (by decide)) (fun _ hk => hk.2) (.slice Ao28 t109.length co28)) (fun _ h_ => h_.1))) (Kd.R_base ho0) hb); have n4_ := Aside0.mk (Kd.R_lower (Kd.R_new' (Kd.R_new' (Kd.R_new' (Kd.R_new' ho0 (Kd.R_lt (rb_ (Kd.R_mono (Kd.R_far (p := ⟨gb116, 0, none⟩) (Kd.R_types HO105.out BK116.out (by decide)) (fun _ hk => hk.2) (.slice Ao28 t109.length co28)) (fun _ h_ => h_.1))))) (Kd.R_lt (rb_ (Kd.R_mono (Kd.R_far (p := ⟨gb116, 0, none⟩) (Kd.R_types HO108.out BK116.out (by decide)) (fun _ hk => hk.2) (.slice Ao28 t109.length co28)) (fun _ h_ => h_.1))))) (Kd.R_lt (rb_ (Kd.R_mono (Kd.R_far (p := ⟨gb116, 0, none⟩) (Kd.R_types HO111.out BK116.out (by decide)) (fun _ hk => hk.2) (.slice Ao28 t109.length co28)) (fun _ h_ => h_.1))))) (Kd.R_lt (rb_ (Kd.R_mono (Kd.R_far (p := ⟨gb116, 0, none⟩) (Kd.R_types HO114.out BK116.out (by decide)) (fun _ hk => hk.2) (.slice Ao28 t109.length co28)) (fun _ h_ => h_.1))))) (below_size (gb_ HB.out))); have n5_ := Aside0.mk (blk_below (g := gb101) (o := .cells #[.slice A0_0 l0_0.length c0_0] 24 (0, 0)) (by (with_reducible repeat (first | refine blk_drewN ?_ _ | refine blk_drew ?_ | refine blk_alloc ?_ _)); refine blk_far ?_ NB101_116.out _; (with_reducible repeat (first | refine blk_drewN ?_ _ | refine blk_drew ?_ | refine blk_alloc ?_ _)); exact BK101.out) hb); have n6_ := Aside0.mk (blk_below (g := gb116) (o := .cells #[.slice Ao28 t109.length co28] 26 (0, 0)) (by (with_reducible repeat (first | refine blk_drewN ?_ _ | refine blk_drew ?_ | refine blk_alloc ?_ _)); refine blk_put (cs := #[.slice none 0 0]) ?_ 0 _ rfl; (with_reducible repeat (first | refine blk_drewN ?_ _ | refine blk_drew ?_ | refine blk_alloc ?_ _)); exact BK116.out) hb); have n7_ := Aside0.mk (below_step (gb_ HB.out) hb); clear HO105 HO108 HO111 HO114 BK101 BK116 HB; have HO105 := n0_; have HO108 := n1_; have HO111 := n2_; have HO114 := n3_; have HO119 := n4_; have BK101 := n5_; have BK116 := n6_; have HB := n7_; clear n0_ n1_ n2_ n3_ n4_ n5_ n6_ n7_; (try clear hb); (try clear hb2); (try clear hk); (try clear hi); (try clear ho0)) | ((with_reducible refine gate_dst (N := 11) rfl ?_); refine box_event ?hg (N := 11) ?hd (cs := #[.slice none 0 0]) (t := 26) ?hr ?_; (case hd => rfl); (case hg => rfl); (case hr => first | (go_simp; done) | (go_simp; rfl)); intro gb120 hg w33 hbox hb; have n0_ := Aside0.mk (Kd.R_below (rb_ HO105.out) hb); have n1_ := Aside0.mk (Kd.R_below (rb_ HO108.out) hb); have n2_ := Aside0.mk (Kd.R_below (rb_ HO111.out) hb); have n3_ := Aside0.mk (Kd.R_below (rb_ HO114.out) hb); have n4_ := Aside0.mk (Kd.R_below (rb_ HO119.out) hb); have n5_ := Aside0.mk (blk_below (g := gb101) (o := .cells #[.slice A0_0 l0_0.length c0_0] 24 (0, 0)) (bb_ BK101.out) hb); have n6_ := Aside0.mk (blk_below (g := gb116) (o := .cells #[.slice Ao28 t109.length co28] 26 (0, 0)) (bb_ BK116.out) hb); have n7_ := Aside0.mk (below_step (gb_ HB.out) hb); have n8_ := Aside0.mk (hbox); have n9_ := Aside0.mk ((by rw [hg]; exact (below_size (gb_ HB.out)) : w.heap.size ≤ gb120)); have n10_ := Aside0.mk ((by rw [hg]; exact (below_size (gb_ HB.out)) : w.heap.size ≤ gb120)); have n11_ := Aside0.mk ((by rw [hg]; exact Nat.ne_of_lt (blk_lt (g := gb101) (o := .cells #[.slice A0_0 l0_0.length c0_0] 24 (0, 0)) (bb_ BK101.out)) : gb101 ≠ gb120)); have n12_ := Aside0.mk ((by rw [hg]; exact Nat.ne_of_gt (blk_lt (g := gb101) (o := .cells #[.slice A0_0 l0_0.length c0_0] 24 (0, 0)) (bb_ BK101.out)) : gb120 ≠ gb101)); have n13_ := Aside0.mk ((by rw [hg]; exact Nat.ne_of_lt (blk_lt (g := gb116) (o := .cells #[.slice Ao28 t109.length co28] 26 (0, 0)) (bb_ BK116.out)) : gb116 ≠ gb120)); have n14_ := Aside0.mk ((by rw [hg]; exact Nat.ne_of_gt (blk_lt (g := gb116) (o := .cells #[.slice Ao28 t109.length co28] 26 (0, 0)) (bb_ BK116.out)) : gb120 ≠ gb116)); clear HO105 HO108 HO111 HO114 HO119 BK101 BK116 HB; have HO105 := n0_; have HO108 := n1_; have HO111 := n2_; have HO114 := n3_; have HO119 := n4_; have BK101 := n5_; have BK116 := n6_; have HB := n7_; have BK120 := n8_; have GW120 := n9_; have GE120 := n10_; have NB101_120 := n11_; have NB120_101 := n12_; have NB116_120 := n13_; have NB120_116 := n14_; clear n0_ n1_ n2_ n3_ n4_ n5_ n6_ n7_ n8_ n9_ n10_ n11_ n12_ n13_ n14_ hb hbox hg; obtain ⟨Ao34, co34, eo34⟩ := Kd.R_slice HO119.out; subst eo34; have hnb35 := NB120_101.out; have hnc35 := NB101_120.out; have hnb36 := NB120_116.out; have hnc36 := NB116_120.out; have hcz37_0 : w33.cell? ⟨gb120, 0, none⟩ = some (.slice none 0 0) := (blk_cell BK120.out 0).trans rfl; have hfz37_0 := blk_frozen BK120.out 0) | ((with_reducible refine gate_callee (f := 12) rfl ?_); refine goesL_ (some 43) rfl rfl Try.func12 (by kernel_rfl) rfl #[.slice A1 l1.length c1] rfl (by (try simp only [List.map_toArray, List.map_cons, List.map_nil]); first | done | rfl | (simp only [List.length_drop, List.length_take]; rfl)) ?_; (with_reducible refine (laws_toInt64S.calls k _ _ l1 t121 _ ?side1 ?side2 A15.out).mono ?_); (case side1 => exact Kd.C_below HR1.out (gb_ HB.out)); (case side2 => exact HC1.out); rintro e w38 ⟨v122, rfl, ho0, hb⟩; refine ⟨_, rfl, ?_⟩; have n0_ := Aside0.mk (Kd.R_elder' (rb_ (Kd.R_mono (Kd.R_far (p := ⟨gb120, 0, none⟩) (Kd.R_types HO105.out BK120.out (by decide)) (fun _ hk => hk.2) (.slice Ao34 t117.length co34)) (fun _ h_ => h_.1))) (Kd.R_base ho0) hb); have n1_ := Aside0.mk (Kd.R_elder' (rb_ (Kd.R_mono (Kd.R_far (p := ⟨gb120, 0, none⟩) (Kd.R_types HO108.out BK120.out (by decide)) (fun _ hk => hk.2) (.slice Ao34 t117.length co34)) (fun _ h_ => h_.1))) (Kd.R_base ho0) hb); have n2_ := Aside0.mk (Kd.R_elder' (rb_ (Kd.R_mono (Kd.R_far (p := ⟨gb120, 0, none⟩) (Kd.R_types HO111.out BK120.out (by decide)) (fun _ hk => hk.2) (.slice Ao34 t117.length co34)) (fun _ h_ => h_.1))) (Kd.R_base ho0) hb); have n3_ := Aside0.mk (Kd.R_elder' (rb_ (Kd.R_mono (Kd.R_far (p := ⟨gb120, 0, none⟩) (Kd.R_types HO114.out BK120.out (by decide)) (fun _ hk => hk.2) (.slice Ao34 t117.length co34)) (fun _ h_ => h_.1))) (Kd.R_base ho0) hb); have n4_ := Aside0.mk (Kd.R_elder' (rb_ (Kd.R_mono (Kd.R_far (p := ⟨gb120, 0, none⟩) (Kd.R_types HO119.out BK120.out (by decide)) (fun _ hk => hk.2) (.slice Ao34 t117.length co34)) (fun _ h_ => h_.1))) (Kd.R_base ho0) hb); have n5_ := Aside0.mk (Kd.R_lower (Kd.R_new' (Kd.R_new' (Kd.R_new' (Kd.R_new' (Kd.R_new' ho0 (Kd.R_lt (rb_ (Kd.R_mono (Kd.R_far (p := ⟨gb120, 0, none⟩) (Kd.R_types HO105.out BK120.out (by decide)) (fun _ hk => hk.2) (.slice Ao34 t117.length co34)) (fun _ h_ => h_.1))))) (Kd.R_lt (rb_ (Kd.R_mono (Kd.R_far (p := ⟨gb120, 0, none⟩) (Kd.R_types HO108.out BK120.out (by decide)) (fun _ hk => hk.2) (.slice Ao34 t117.length co34)) (fun _ h_ => h_.1))))) (Kd.R_lt (rb_ (Kd.R_mono (Kd.R_far (p := ⟨gb120, 0, none⟩) (Kd.R_types HO111.out BK120.out (by decide)) (fun _ hk => hk.2) (.slice Ao34 t117.length co34)) (fun _ h_ => h_.1))))) (Kd.R_lt (rb_ (Kd.R_mono (Kd.R_far (p := ⟨gb120, 0, none⟩) (Kd.R_types HO114.out BK120.out (by decide)) (fun _ hk => hk.2) (.slice Ao34 t117.length co34)) (fun _ h_ => h_.1))))) (Kd.R_lt (rb_ (Kd.R_mono (Kd.R_far (p := ⟨gb120, 0, none⟩) (Kd.R_types HO119.out BK120.out (by decide)) (fun _ hk => hk.2) (.slice Ao34 t117.length co34)) (fun _ h_ => h_.1))))) (below_size (gb_ HB.out))); have n6_ := Aside0.mk (blk_below (g := gb101) (o := .cells #[.slice A0_0 l0_0.length c0_0] 24 (0, 0)) (by (with_reducible repeat (first | refine blk_drewN ?_ _ | refine blk_drew ?_ | refine blk_alloc ?_ _)); refine blk_far ?_ NB101_120.out _; (with_reducible repeat (first | refine blk_drewN ?_ _ | refine blk_drew ?_ | refine blk_alloc ?_ _)); exact BK101.out) hb); have n7_ := Aside0.mk (blk_below (g := gb116) (o := .cells #[.slice Ao28 t109.length co28] 26 (0, 0)) (by (with_reducible repeat (first | refine blk_drewN ?_ _ | refine blk_drew ?_ | refine blk_alloc ?_ _)); refine blk_far ?_ NB116_120.out _; (with_reducible repeat (first | refine blk_drewN ?_ _ | refine blk_drew ?_ | refine blk_alloc ?_ _)); exact BK116.out) hb); have n8_ := Aside0.mk (blk_below (g := gb120) (o := .cells #[.slice Ao34 t117.length co34] 26 (0, 0)) (by (with_reducible repeat (first | refine blk_drewN ?_ _ | refine blk_drew ?_ | refine blk_alloc ?_ _)); refine blk_put (cs := #[.slice none 0 0]) ?_ 0 _ rfl; (with_reducible repeat (first | refine blk_drewN ?_ _ | refine blk_drew ?_ | refine blk_alloc ?_ _)); exact BK120.out) hb); have n9_ := Aside0.mk (below_step (gb_ HB.out) hb); clear HO105 HO108 HO111 HO114 HO119 BK101 BK116 BK120 HB; have HO105 := n0_; have HO108 := n1_; have HO111 := n2_; have HO114 := n3_; have HO119 := n4_; have HO123 := n5_; have BK101 := n6_; have BK116 := n7_; have BK120 := n8_; have HB := n9_; clear n0_ n1_ n2_ n3_ n4_ n5_ n6_ n7_ n8_ n9_; (try clear hb); (try clear hb2); (try clear hk); (try clear hi); (try clear ho0); have hcz39_0 : w38.cell? ⟨gb120, 0, none⟩ = some (.slice Ao34 t117.length co34) := (blk_cell BK120.out 0).trans rfl; have hfz39_0 := blk_frozen BK120.out 0; obtain ⟨Ao40, co40, eo40⟩ := Kd.R_slice HO123.out; subst eo40) | ((with_reducible refine gate_callee (f := 21) rfl ?_); refine goesL_ (some 48) rfl rfl Try.func21 (by kernel_rfl) rfl #[.agg #[.slice Ao34 t117.length co34], .slice Ao40 t121.length co40, .int .i64 a2] rfl (by (try simp only [List.map_toArray, List.map_cons, List.map_nil]); first | done | rfl | (simp only [List.length_drop, List.length_take]; rfl)) ?_; (with_reducible refine (impl_AddSumPlace.calls _ _ t117 _ _ t121 a2 t124 t127 t130 _ ?side1 ?side2 ?side3 ?side4 A16.out).mono ?_); (case side1 => repeat (first | exact (Kd.R_reads' HO119.out).2.2 | (with_reducible refine Kd.C_alloc ?_ _) | (with_reducible refine Kd.C_drewN ?_ _) | (with_reducible refine Kd.C_drew ?_))); (case side2 => exact (Kd.R_reads' HO119.out).2.1); (case side3 => repeat (first | exact (Kd.R_reads' HO123.out).2.2 | (with_reducible refine Kd.C_alloc ?_ _) | (with_reducible refine Kd.C_drewN ?_ _) | (with_reducible refine Kd.C_drew ?_))); (case side4 => exact (Kd.R_reads' HO123.out).2.1); rintro e w41 ⟨v125, v128, rfl, ho0, ho1, hb⟩; refine ⟨_, rfl, ?_⟩; have n0_ := Aside0.mk (Kd.R_mono (Kd.R_told (Kd.R_told (Kd.R_old (rb_ HO105.out) hb) (Kd.R_base ho0)) (Kd.R_base ho1)) (fun _ h_ => h_.1)); have n1_ := Aside0.mk (Kd.R_mono (Kd.R_told (Kd.R_told (Kd.R_old (rb_ HO108.out) hb) (Kd.R_base ho0)) (Kd.R_base ho1)) (fun _ h_ => h_.1)); have n2_ := Aside0.mk (Kd.R_mono (Kd.R_told (Kd.R_told (Kd.R_old (rb_ HO111.out) hb) (Kd.R_base ho0)) (Kd.R_base ho1)) (fun _ h_ => h_.1)); have n3_ := Aside0.mk (Kd.R_mono (Kd.R_told (Kd.R_told (Kd.R_old (rb_ HO114.out) hb) (Kd.R_base ho0)) (Kd.R_base ho1)) (fun _ h_ => h_.1)); have n4_ := Aside0.mk (Kd.R_mono (Kd.R_told (Kd.R_told (Kd.R_old (rb_ HO119.out) hb) (Kd.R_base ho0)) (Kd.R_base ho1)) (fun _ h_ => h_.1)); have n5_ := Aside0.mk (Kd.R_mono (Kd.R_told (Kd.R_told (Kd.R_old (rb_ HO123.out) hb) (Kd.R_base ho0)) (Kd.R_base ho1)) (fun _ h_ => h_.1)); have n6_ := Aside0.mk (Kd.R_lower (Kd.R_new' (Kd.R_new' (Kd.R_new' (Kd.R_new' (Kd.R_new' (Kd.R_new' ho0 (Kd.R_lt (rb_ HO105.out))) (Kd.R_lt (rb_ HO108.out))) (Kd.R_lt (rb_ HO111.out))) (Kd.R_lt (rb_ HO114.out))) (Kd.R_lt (rb_ HO119.out))) (Kd.R_lt (rb_ HO123.out))) (below_size (gb_ HB.out))); have n7_ := Aside0.mk (Kd.R_lower (Kd.R_new' (Kd.R_new' (Kd.R_new' (Kd.R_new' (Kd.R_new' (Kd.R_new' ho1 (Kd.R_lt (rb_ HO105.out))) (Kd.R_lt (rb_ HO108.out))) (Kd.R_lt (rb_ HO111.out))) (Kd.R_lt (rb_ HO114.out))) (Kd.R_lt (rb_ HO119.out))) (Kd.R_lt (rb_ HO123.out))) (below_size (gb_ HB.out))); have n8_ := Aside0.mk (blk_below (g := gb101) (o := .cells #[.slice A0_0 l0_0.length c0_0] 24 (0, 0)) (bb_ BK101.out) hb); have n9_ := Aside0.mk (blk_below (g := gb116) (o := .cells #[.slice Ao28 t109.length co28] 26 (0, 0)) (bb_ BK116.out) hb); have n10_ := Aside0.mk (blk_below (g := gb120) (o := .cells #[.slice Ao34 t117.length co34] 26 (0, 0)) (bb_ BK120.out) hb); have n11_ := Aside0.mk (below_step (gb_ HB.out) hb); clear HO105 HO108 HO111 HO114 HO119 HO123 BK101 BK116 BK120 HB; have HO105 := n0_; have HO108 := n1_; have HO111 := n2_; have HO114 := n3_; have HO119 := n4_; have HO123 := n5_; have HO126 := n6_; have HO129 := n7_; have BK101 := n8_; have BK116 := n9_; have BK120 := n10_; have HB := n11_; clear n0_ n1_ n2_ n3_ n4_ n5_ n6_ n7_ n8_ n9_ n10_ n11_; (try clear hb); (try clear hb2); (try clear hk); (try clear hi); (try clear ho0); (try clear ho1)) | ((with_reducible refine gate_dst (N := 13) rfl ?_); refine box_event ?hg (N := 13) ?hd (cs := #[.slice none 0 0]) (t := 26) ?hr ?_; (case hd => rfl); (case hg => rfl); (case hr => first | (go_simp; done) | (go_simp; rfl)); intro gb131 hg w42 hbox hb; have n0_ := Aside0.mk (Kd.R_below (rb_ HO105.out) hb); have n1_ := Aside0.mk (Kd.R_below (rb_ HO108.out) hb); have n2_ := Aside0.mk (Kd.R_below (rb_ HO111.out) hb); have n3_ := Aside0.mk (Kd.R_below (rb_ HO114.out) hb); have n4_ := Aside0.mk (Kd.R_below (rb_ HO119.out) hb); have n5_ := Aside0.mk (Kd.R_below (rb_ HO123.out) hb); have n6_ := Aside0.mk (Kd.R_below (rb_ HO126.out) hb); have n7_ := Aside0.mk (Kd.R_below (rb_ HO129.out) hb); have n8_ := Aside0.mk (blk_below (g := gb101) (o := .cells #[.slice A0_0 l0_0.length c0_0] 24 (0, 0)) (bb_ BK101.out) hb); have n9_ := Aside0.mk (blk_below (g := gb116) (o := .cells #[.slice Ao28 t109.length co28] 26 (0, 0)) (bb_ BK116.out) hb); have n10_ := Aside0.mk (blk_below (g := gb120) (o := .cells #[.slice Ao34 t117.length co34] 26 (0, 0)) (bb_ BK120.out) hb); have n11_ := Aside0.mk (below_step (gb_ HB.out) hb); have n12_ := Aside0.mk (hbox); have n13_ := Aside0.mk ((by rw [hg]; exact (below_size (gb_ HB.out)) : w.heap.size ≤ gb131)); have n14_ := Aside0.mk ((by rw [hg]; exact (below_size (gb_ HB.out)) : w.heap.size ≤ gb131)); have n15_ := Aside0.mk ((by rw [hg]; exact Nat.ne_of_lt (blk_lt (g := gb101) (o := .cells #[.slice A0_0 l0_0.length c0_0] 24 (0, 0)) (bb_ BK101.out)) : gb101 ≠ gb131)); have n16_ := Aside0.mk ((by rw [hg]; exact Nat.ne_of_gt (blk_lt (g := gb101) (o := .cells #[.slice A0_0 l0_0.length c0_0] 24 (0, 0)) (bb_ BK101.out)) : gb131 ≠ gb101)); have n17_ := Aside0.mk ((by rw [hg]; exact Nat.ne_of_lt (blk_lt (g := gb116) (o := .cells #[.slice Ao28 t109.length co28] 26 (0, 0)) (bb_ BK116.out)) : gb116 ≠ gb131)); have n18_ := Aside0.mk ((by rw [hg]; exact Nat.ne_of_gt (blk_lt (g := gb116) (o := .cells #[.slice Ao28 t109.length co28] 26 (0, 0)) (bb_ BK116.out)) : gb131 ≠ gb116)); have n19_ := Aside0.mk ((by rw [hg]; exact Nat.ne_of_lt (blk_lt (g := gb120) (o := .cells #[.slice Ao34 t117.length co34] 26 (0, 0)) (bb_ BK120.out)) : gb120 ≠ gb131)); have n20_ := Aside0.mk ((by rw [hg]; exact Nat.ne_of_gt (blk_lt (g := gb120) (o := .cells #[.slice Ao34 t117.length co34] 26 (0, 0)) (bb_ BK120.out)) : gb131 ≠ gb120)); clear HO105 HO108 HO111 HO114 HO119 HO123 HO126 HO129 BK101 BK116 BK120 HB; have HO105 := n0_; have HO108 := n1_; have HO111 := n2_; have HO114 := n3_; have HO119 := n4_; have HO123 := n5_; have HO126 := n6_; have HO129 := n7_; have BK101 := n8_; have BK116 := n9_; have BK120 := n10_; have HB := n11_; have BK131 := n12_; have GW131 := n13_; have GE131 := n14_; have NB101_131 := n15_; have NB131_101 := n16_; have NB116_131 := n17_; have NB131_116 := n18_; have NB120_131 := n19_; have NB131_120 := n20_; clear n0_ n1_ n2_ n3_ n4_ n5_ n6_ n7_ n8_ n9_ n10_ n11_ n12_ n13_ n14_ n15_ n16_ n17_ n18_ n19_ n20_ hb hbox hg; obtain ⟨Ao43, co43, eo43⟩ := Kd.R_slice HO126.out; subst eo43; have hnb44 := NB131_101.out; have hnc44 := NB101_131.out; have hnb45 := NB131_116.out; have hnc45 := NB116_131.out; have hnb46 := NB131_120.out; have hnc46 := NB120_131.out; have hcz47_0 : w42.cell? ⟨gb131, 0, none⟩ = some (.slice none 0 0) := (blk_cell BK131.out 0).trans rfl; have hfz47_0 := blk_frozen BK131.out 0))
   (try simp only [Act.put, List.setIfInBounds_toArray, List.set_cons_zero, List.set_cons_succ])
   go_cut [66] (fun v66 wc => ∃ (kq : Nat) (x66_16 : Bool), v66 = .bool x66_16 ∧ Aside0 (laws_FnExactAddSumPlace.j0 kq l1 a2 t112 t115 t121 t127 t130 x66_16 l0_0 t109 t117 t124 = some r) ∧ Aside0 (kq ≤ k) ∧ Aside0 (Kd.R (Kd.int .i64) 2 wc w.heap.size (fun k_ => OB_ k_ (.slice Ao40 t121.length co40) ∧ OB_ k_ v128 ∧ OB_ k_ (.slice Ao28 t109.length co28) ∧ OB_ k_ (.slice Ao34 t117.length co34) ∧ OB_ k_ (.slice Ao43 t124.length co43)) v113 t112) ∧ Aside0 (Kd.R (Kd.int .i64) 2 wc w.heap.size (fun k_ => OB_ k_ v113 ∧ OB_ k_ v128 ∧ OB_ k_ (.slice Ao28 t109.length co28) ∧ OB_ k_ (.slice Ao34 t117.length co34) ∧ OB_ k_ (.slice Ao43 t124.length co43)) (.slice Ao40 t121.length co40) t121) ∧ Aside0 (Kd.R (Kd.int .i64) 2 wc w.heap.size (fun k_ => OB_ k_ v113 ∧ OB_ k_ (.slice Ao40 t121.length co40) ∧ OB_ k_ (.slice Ao28 t109.length co28) ∧ OB_ k_ (.slice Ao34 t117.length co34) ∧ OB_ k_ (.slice Ao43 t124.length co43)) v128 t127) ∧ Aside0 (Kd.R (Kd.int .i64) 2 wc w.heap.size (fun k_ => OB_ k_ v113 ∧ OB_ k_ (.slice Ao40 t121.length co40) ∧ OB_ k_ v128 ∧ OB_ k_ (.slice Ao34 t117.length co34) ∧ OB_ k_ (.slice Ao43 t124.length co43)) (.slice Ao28 t109.length co28) t109) ∧ Aside0 (Kd.R (Kd.int .i64) 2 wc w.heap.size (fun k_ => OB_ k_ v113 ∧ OB_ k_ (.slice Ao40 t121.length co40) ∧ OB_ k_ v128 ∧ OB_ k_ (.slice Ao28 t109.length co28) ∧ OB_ k_ (.slice Ao43 t124.length co43)) (.slice Ao34 t117.length co34) t117) ∧ Aside0 (Kd.R (Kd.int .i64) 2 wc w.heap.size (fun k_ => OB_ k_ v113 ∧ OB_ k_ (.slice Ao40 t121.length co40) ∧ OB_ k_ v128 ∧ OB_ k_ (.slice Ao28 t109.length co28) ∧ OB_ k_ (.slice Ao34 t117.length co34)) (.slice Ao43 t124.length co43) t124) ∧ Aside0 (wc.heap[gb101]? = some (.cells #[(.slice A0_0 l0_0.length c0_0)] 24 (0, 0))) ∧ Aside0 (wc.heap[gb116]? = some (.cells #[(.slice Ao28 t109.length co28)] 26 (0, 0))) ∧ Aside0 (wc.heap[gb120]? = some (.cells #[(.slice Ao34 t117.length co34)] 26 (0, 0))) ∧ Aside0 (wc.heap[gb131]? = some (.cells #[(.slice Ao43 t124.length co43)] 26 (0, 0))) ∧ Aside0 (Below w.heap.size w wc))
   case first =>
    have H := HC17.out
    clear HC17
    replace H := Option.bind_eq_some_iff.mp H
    obtain ⟨t132, A480, H⟩ := H
    replace H : (if t132 = true then ((laws_eqInt64S.f k t127 t112).bind fun t133 => (if t133 = true then (laws_FnExactAddSumPlace.j0 k l1 a2 t112 t115 t121 t127 t130 (t130 != t115) l0_0 t109 t117 t124) else (laws_FnExactAddSumPlace.j0 k l1 a2 t112 t115 t121 t127 t130 true l0_0 t109 t117 t124))) else (laws_FnExactAddSumPlace.j0 k l1 a2 t112 t115 t121 t127 t130 true l0_0 t109 t117 t124)) = some r := H
    have A48 := Aside0.mk A480
    clear A480
    by_cases c49 : t132 = true
    ·subst c49
     have H1 : ((laws_eqInt64S.f k t127 t112).bind fun t133 => (if t133 = true then (laws_FnExactAddSumPlace.j0 k l1 a2 t112 t115 t121 t127 t130 (t130 != t115) l0_0 t109 t117 t124) else (laws_FnExactAddSumPlace.j0 k l1 a2 t112 t115 t121 t127 t130 true l0_0 t109 t117 t124))) = some r := by rw [if_pos rfl] at H; exact H
     clear H
     have H := H1
     clear H1
     replace H := Option.bind_eq_some_iff.mp H
     obtain ⟨t133, A500, H⟩ := H
     replace H : (if t133 = true then (laws_FnExactAddSumPlace.j0 k l1 a2 t112 t115 t121 t127 t130 (t130 != t115) l0_0 t109 t117 t124) else (laws_FnExactAddSumPlace.j0 k l1 a2 t112 t115 t121 t127 t130 true l0_0 t109 t117 t124)) = some r := H
     have A50 := Aside0.mk A500
     clear A500
     by_cases c51 : t133 = true
     ·subst c51
      have H1 : (laws_FnExactAddSumPlace.j0 k l1 a2 t112 t115 t121 t127 t130 (t130 != t115) l0_0 t109 t117 t124) = some r := by rw [if_pos rfl] at H; exact H
      clear H
      have H := H1
      clear H1
      have H' := Aside0.mk H
      clear H
      have hnb52 := NB131_101.out
      have hnc52 := NB101_131.out
      have hnb53 := NB131_116.out
      have hnc53 := NB116_131.out
      have hnb54 := NB131_120.out
      have hnc54 := NB120_131.out
      have hcz55_0 : w42.cell? ⟨gb131, 0, none⟩ = some (.slice none 0 0) := (blk_cell BK131.out 0).trans rfl
      have hfz55_0 := blk_frozen BK131.out 0
      have hnb56 := NB116_101.out
      have hnc56 := NB101_116.out
      have hnb57 := NB116_120.out
      have hnc57 := NB120_116.out
      have hcz58_0 : w42.cell? ⟨gb116, 0, none⟩ = some (.slice Ao28 t109.length co28) := (blk_cell BK116.out 0).trans rfl
      have hfz58_0 := blk_frozen BK116.out 0
      go_wp2_with (first | ((with_reducible refine gate_callee (f := 14) rfl ?_); refine goesL_ (some 54) rfl rfl Try.func14 (by kernel_rfl) rfl #[.agg #[.slice Ao43 t124.length co43], .agg #[.slice Ao28 t109.length co28]] rfl (by (try simp only [List.map_toArray, List.map_cons, List.map_nil]); first | done | rfl | (simp only [List.length_drop, List.length_take]; rfl)) ?_; (with_reducible refine (laws_eqSpace.calls k _ _ t124 _ _ t109 true _ ?side1 ?side2 ?side3 ?side4 A48.out).mono ?_); (case side1 => refine (Kd.R_reads' (e := 2) (base := w.heap.size) (ok := fun _ => True) (n := t124.length) (c := co43) ?_).2.2; exact (rb_ (Kd.R_mono (Kd.R_far (p := ⟨gb131, 0, none⟩) (Kd.R_types HO126.out BK131.out (by decide)) (fun _ hk => hk.2) (.slice Ao43 t124.length co43)) (fun _ _ => trivial)))); (case side2 => exact (Kd.R_reads' HO126.out).2.1); (case side3 => refine (Kd.R_reads' (e := 2) (base := w.heap.size) (ok := fun _ => True) (n := t109.length) (c := co28) ?_).2.2; exact (rb_ (Kd.R_mono (Kd.R_far (p := ⟨gb131, 0, none⟩) (Kd.R_types HO111.out BK131.out (by decide)) (fun _ hk => hk.2) (.slice Ao43 t124.length co43)) (fun _ _ => trivial)))); (case side4 => exact (Kd.R_reads' HO111.out).2.1); rintro e w59 ⟨rfl, hb⟩; refine ⟨_, rfl, ?_⟩; have n0_ := Aside0.mk (Kd.R_below (rb_ (Kd.R_mono (Kd.R_far (p := ⟨gb131, 0, none⟩) (Kd.R_types HO105.out BK131.out (by decide)) (fun _ hk => hk.2) (.slice Ao43 t124.length co43)) (fun _ h_ => h_.1))) hb); have n1_ := Aside0.mk (Kd.R_below (rb_ (Kd.R_mono (Kd.R_far (p := ⟨gb131, 0, none⟩) (Kd.R_types HO108.out BK131.out (by decide)) (fun _ hk => hk.2) (.slice Ao43 t124.length co43)) (fun _ h_ => h_.1))) hb); have n2_ := Aside0.mk (Kd.R_below (rb_ (Kd.R_mono (Kd.R_far (p := ⟨gb131, 0, none⟩) (Kd.R_types HO111.out BK131.out (by decide)) (fun _ hk => hk.2) (.slice Ao43 t124.length co43)) (fun _ h_ => h_.1))) hb); have n3_ := Aside0.mk (Kd.R_below (rb_ (Kd.R_mono (Kd.R_far (p := ⟨gb131, 0, none⟩) (Kd.R_types HO114.out BK131.out (by decide)) (fun _ hk => hk.2) (.slice Ao43 t124.length co43)) (fun _ h_ => h_.1))) hb); have n4_ := Aside0.mk (Kd.R_below (rb_ (Kd.R_mono (Kd.R_far (p := ⟨gb131, 0, none⟩) (Kd.R_types HO119.out BK131.out (by decide)) (fun _ hk => hk.2) (.slice Ao43 t124.length co43)) (fun _ h_ => h_.1))) hb); have n5_ := Aside0.mk (Kd.R_below (rb_ (Kd.R_mono (Kd.R_far (p := ⟨gb131, 0, none⟩) (Kd.R_types HO123.out BK131.out (by decide)) (fun _ hk => hk.2) (.slice Ao43 t124.length co43)) (fun _ h_ => h_.1))) hb); have n6_ := Aside0.mk (Kd.R_below (rb_ (Kd.R_mono (Kd.R_far (p := ⟨gb131, 0, none⟩) (Kd.R_types HO126.out BK131.out (by decide)) (fun _ hk => hk.2) (.slice Ao43 t124.length co43)) (fun _ h_ => h_.1))) hb); have n7_ := Aside0.mk (Kd.R_below (rb_ (Kd.R_mono (Kd.R_far (p := ⟨gb131, 0, none⟩) (Kd.R_types HO129.out BK131.out (by decide)) (fun _ hk => hk.2) (.slice Ao43 t124.length co43)) (fun _ h_ => h_.1))) hb); have n8_ := Aside0.mk (blk_below (g := gb101) (o := .cells #[.slice A0_0 l0_0.length c0_0] 24 (0, 0)) (by (with_reducible repeat (first | refine blk_drewN ?_ _ | refine blk_drew ?_ | refine blk_alloc ?_ _)); refine blk_far ?_ NB101_131.out _; (with_reducible repeat (first | refine blk_drewN ?_ _ | refine blk_drew ?_ | refine blk_alloc ?_ _)); exact BK101.out) hb); have n9_ := Aside0.mk (blk_below (g := gb116) (o := .cells #[.slice Ao28 t109.length co28] 26 (0, 0)) (by (with_reducible repeat (first | refine blk_drewN ?_ _ | refine blk_drew ?_ | refine blk_alloc ?_ _)); refine blk_far ?_ NB116_131.out _; (with_reducible repeat (first | refine blk_drewN ?_ _ | refine blk_drew ?_ | refine blk_alloc ?_ _)); exact BK116.out) hb); have n10_ := Aside0.mk (blk_below (g := gb120) (o := .cells #[.slice Ao34 t117.length co34] 26 (0, 0)) (by (with_reducible repeat (first | refine blk_drewN ?_ _ | refine blk_drew ?_ | refine blk_alloc ?_ _)); refine blk_far ?_ NB120_131.out _; (with_reducible repeat (first | refine blk_drewN ?_ _ | refine blk_drew ?_ | refine blk_alloc ?_ _)); exact BK120.out) hb); have n11_ := Aside0.mk (blk_below (g := gb131) (o := .cells #[.slice Ao43 t124.length co43] 26 (0, 0)) (by (with_reducible repeat (first | refine blk_drewN ?_ _ | refine blk_drew ?_ | refine blk_alloc ?_ _)); refine blk_put (cs := #[.slice none 0 0]) ?_ 0 _ rfl; (with_reducible repeat (first | refine blk_drewN ?_ _ | refine blk_drew ?_ | refine blk_alloc ?_ _)); exact BK131.out) hb); have n12_ := Aside0.mk (below_step (gb_ HB.out) hb); clear HO105 HO108 HO111 HO114 HO119 HO123 HO126 HO129 BK101 BK116 BK120 BK131 HB; have HO105 := n0_; have HO108 := n1_; have HO111 := n2_; have HO114 := n3_; have HO119 := n4_; have HO123 := n5_; have HO126 := n6_; have HO129 := n7_; have BK101 := n8_; have BK116 := n9_; have BK120 := n10_; have BK131 := n11_; have HB := n12_; clear n0_ n1_ n2_ n3_ n4_ n5_ n6_ n7_ n8_ n9_ n10_ n11_ n12_; (try clear hb); (try clear hb2); (try clear hk); (try clear hi); obtain ⟨Ao60, co60, eo60⟩ := Kd.R_slice HO129.out; subst eo60; obtain ⟨Ao61, co61, eo61⟩ := Kd.R_slice HO114.out; subst eo61) | (go_at_call 15; (with_reducible refine (laws_eqInt64S.calls k _ _ t127 _ _ t112 true _ ?side1 ?side2 ?side3 ?side4 A50.out).mono ?_); (case side1 => repeat (first | exact (Kd.R_reads' HO129.out).2.2 | (with_reducible refine Kd.C_alloc ?_ _) | (with_reducible refine Kd.C_drewN ?_ _) | (with_reducible refine Kd.C_drew ?_))); (case side2 => exact (Kd.R_reads' HO129.out).2.1); (case side3 => repeat (first | exact (Kd.R_reads' HO114.out).2.2 | (with_reducible refine Kd.C_alloc ?_ _) | (with_reducible refine Kd.C_drewN ?_ _) | (with_reducible refine Kd.C_drew ?_))); (case side4 => exact (Kd.R_reads' HO114.out).2.1); rintro e w' ⟨rfl, ⟨nd, rfl⟩⟩))
      go_meet
      case rel => exact ⟨_, ((t130 != t115)), (by first | rfl | (simp; done) | (simp [*]; done)), H', ⟨by first | omega | exact Nat.le_refl _⟩, ⟨by (with_reducible repeat (first | apply Kd.R_alloc | apply Kd.R_drewN | apply Kd.R_drew)); exact Kd.R_mono HO114.out (fun _ hk => by grind)⟩, ⟨by (with_reducible repeat (first | apply Kd.R_alloc | apply Kd.R_drewN | apply Kd.R_drew)); exact Kd.R_mono HO123.out (fun _ hk => by grind)⟩, ⟨by (with_reducible repeat (first | apply Kd.R_alloc | apply Kd.R_drewN | apply Kd.R_drew)); exact Kd.R_mono HO129.out (fun _ hk => by grind)⟩, ⟨by (with_reducible repeat (first | apply Kd.R_alloc | apply Kd.R_drewN | apply Kd.R_drew)); exact Kd.R_mono HO111.out (fun _ hk => by grind)⟩, ⟨by (with_reducible repeat (first | apply Kd.R_alloc | apply Kd.R_drewN | apply Kd.R_drew)); exact Kd.R_mono HO119.out (fun _ hk => by grind)⟩, ⟨by (with_reducible repeat (first | apply Kd.R_alloc | apply Kd.R_drewN | apply Kd.R_drew)); exact Kd.R_mono HO126.out (fun _ hk => by grind)⟩, ⟨by (with_reducible repeat (first | refine blk_drewN ?_ _ | refine blk_drew ?_ | refine blk_alloc ?_ _)); exact BK101.out⟩, ⟨by (with_reducible repeat (first | refine blk_drewN ?_ _ | refine blk_drew ?_ | refine blk_alloc ?_ _)); exact BK116.out⟩, ⟨by (with_reducible repeat (first | refine blk_drewN ?_ _ | refine blk_drew ?_ | refine blk_alloc ?_ _)); exact BK120.out⟩, ⟨by (with_reducible repeat (first | refine blk_drewN ?_ _ | refine blk_drew ?_ | refine blk_alloc ?_ _)); exact BK131.out⟩, ⟨gb_ HB.out⟩⟩
     ·replace c51 := Bool.eq_false_iff.mpr c51
      subst c51
      have H1 : (laws_FnExactAddSumPlace.j0 k l1 a2 t112 t115 t121 t127 t130 true l0_0 t109 t117 t124) = some r := by rw [if_neg (show ¬ (false = true) by decide)] at H; exact H
      clear H
      have H := H1
      clear H1
      have H' := Aside0.mk H
      clear H
      have hnb62 := NB131_101.out
      have hnc62 := NB101_131.out
      have hnb63 := NB131_116.out
      have hnc63 := NB116_131.out
      have hnb64 := NB131_120.out
      have hnc64 := NB120_131.out
      have hcz65_0 : w42.cell? ⟨gb131, 0, none⟩ = some (.slice none 0 0) := (blk_cell BK131.out 0).trans rfl
      have hfz65_0 := blk_frozen BK131.out 0
      have hnb66 := NB116_101.out
      have hnc66 := NB101_116.out
      have hnb67 := NB116_120.out
      have hnc67 := NB120_116.out
      have hcz68_0 : w42.cell? ⟨gb116, 0, none⟩ = some (.slice Ao28 t109.length co28) := (blk_cell BK116.out 0).trans rfl
      have hfz68_0 := blk_frozen BK116.out 0
      go_wp2_with (first | ((with_reducible refine gate_callee (f := 14) rfl ?_); refine goesL_ (some 54) rfl rfl Try.func14 (by kernel_rfl) rfl #[.agg #[.slice Ao43 t124.length co43], .agg #[.slice Ao28 t109.length co28]] rfl (by (try simp only [List.map_toArray, List.map_cons, List.map_nil]); first | done | rfl | (simp only [List.length_drop, List.length_take]; rfl)) ?_; (with_reducible refine (laws_eqSpace.calls k _ _ t124 _ _ t109 true _ ?side1 ?side2 ?side3 ?side4 A48.out).mono ?_); (case side1 => refine (Kd.R_reads' (e := 2) (base := w.heap.size) (ok := fun _ => True) (n := t124.length) (c := co43) ?_).2.2; exact (rb_ (Kd.R_mono (Kd.R_far (p := ⟨gb131, 0, none⟩) (Kd.R_types HO126.out BK131.out (by decide)) (fun _ hk => hk.2) (.slice Ao43 t124.length co43)) (fun _ _ => trivial)))); (case side2 => exact (Kd.R_reads' HO126.out).2.1); (case side3 => refine (Kd.R_reads' (e := 2) (base := w.heap.size) (ok := fun _ => True) (n := t109.length) (c := co28) ?_).2.2; exact (rb_ (Kd.R_mono (Kd.R_far (p := ⟨gb131, 0, none⟩) (Kd.R_types HO111.out BK131.out (by decide)) (fun _ hk => hk.2) (.slice Ao43 t124.length co43)) (fun _ _ => trivial)))); (case side4 => exact (Kd.R_reads' HO111.out).2.1); rintro e w69 ⟨rfl, hb⟩; refine ⟨_, rfl, ?_⟩; have n0_ := Aside0.mk (Kd.R_below (rb_ (Kd.R_mono (Kd.R_far (p := ⟨gb131, 0, none⟩) (Kd.R_types HO105.out BK131.out (by decide)) (fun _ hk => hk.2) (.slice Ao43 t124.length co43)) (fun _ h_ => h_.1))) hb); have n1_ := Aside0.mk (Kd.R_below (rb_ (Kd.R_mono (Kd.R_far (p := ⟨gb131, 0, none⟩) (Kd.R_types HO108.out BK131.out (by decide)) (fun _ hk => hk.2) (.slice Ao43 t124.length co43)) (fun _ h_ => h_.1))) hb); have n2_ := Aside0.mk (Kd.R_below (rb_ (Kd.R_mono (Kd.R_far (p := ⟨gb131, 0, none⟩) (Kd.R_types HO111.out BK131.out (by decide)) (fun _ hk => hk.2) (.slice Ao43 t124.length co43)) (fun _ h_ => h_.1))) hb); have n3_ := Aside0.mk (Kd.R_below (rb_ (Kd.R_mono (Kd.R_far (p := ⟨gb131, 0, none⟩) (Kd.R_types HO114.out BK131.out (by decide)) (fun _ hk => hk.2) (.slice Ao43 t124.length co43)) (fun _ h_ => h_.1))) hb); have n4_ := Aside0.mk (Kd.R_below (rb_ (Kd.R_mono (Kd.R_far (p := ⟨gb131, 0, none⟩) (Kd.R_types HO119.out BK131.out (by decide)) (fun _ hk => hk.2) (.slice Ao43 t124.length co43)) (fun _ h_ => h_.1))) hb); have n5_ := Aside0.mk (Kd.R_below (rb_ (Kd.R_mono (Kd.R_far (p := ⟨gb131, 0, none⟩) (Kd.R_types HO123.out BK131.out (by decide)) (fun _ hk => hk.2) (.slice Ao43 t124.length co43)) (fun _ h_ => h_.1))) hb); have n6_ := Aside0.mk (Kd.R_below (rb_ (Kd.R_mono (Kd.R_far (p := ⟨gb131, 0, none⟩) (Kd.R_types HO126.out BK131.out (by decide)) (fun _ hk => hk.2) (.slice Ao43 t124.length co43)) (fun _ h_ => h_.1))) hb); have n7_ := Aside0.mk (Kd.R_below (rb_ (Kd.R_mono (Kd.R_far (p := ⟨gb131, 0, none⟩) (Kd.R_types HO129.out BK131.out (by decide)) (fun _ hk => hk.2) (.slice Ao43 t124.length co43)) (fun _ h_ => h_.1))) hb); have n8_ := Aside0.mk (blk_below (g := gb101) (o := .cells #[.slice A0_0 l0_0.length c0_0] 24 (0, 0)) (by (with_reducible repeat (first | refine blk_drewN ?_ _ | refine blk_drew ?_ | refine blk_alloc ?_ _)); refine blk_far ?_ NB101_131.out _; (with_reducible repeat (first | refine blk_drewN ?_ _ | refine blk_drew ?_ | refine blk_alloc ?_ _)); exact BK101.out) hb); have n9_ := Aside0.mk (blk_below (g := gb116) (o := .cells #[.slice Ao28 t109.length co28] 26 (0, 0)) (by (with_reducible repeat (first | refine blk_drewN ?_ _ | refine blk_drew ?_ | refine blk_alloc ?_ _)); refine blk_far ?_ NB116_131.out _; (with_reducible repeat (first | refine blk_drewN ?_ _ | refine blk_drew ?_ | refine blk_alloc ?_ _)); exact BK116.out) hb); have n10_ := Aside0.mk (blk_below (g := gb120) (o := .cells #[.slice Ao34 t117.length co34] 26 (0, 0)) (by (with_reducible repeat (first | refine blk_drewN ?_ _ | refine blk_drew ?_ | refine blk_alloc ?_ _)); refine blk_far ?_ NB120_131.out _; (with_reducible repeat (first | refine blk_drewN ?_ _ | refine blk_drew ?_ | refine blk_alloc ?_ _)); exact BK120.out) hb); have n11_ := Aside0.mk (blk_below (g := gb131) (o := .cells #[.slice Ao43 t124.length co43] 26 (0, 0)) (by (with_reducible repeat (first | refine blk_drewN ?_ _ | refine blk_drew ?_ | refine blk_alloc ?_ _)); refine blk_put (cs := #[.slice none 0 0]) ?_ 0 _ rfl; (with_reducible repeat (first | refine blk_drewN ?_ _ | refine blk_drew ?_ | refine blk_alloc ?_ _)); exact BK131.out) hb); have n12_ := Aside0.mk (below_step (gb_ HB.out) hb); clear HO105 HO108 HO111 HO114 HO119 HO123 HO126 HO129 BK101 BK116 BK120 BK131 HB; have HO105 := n0_; have HO108 := n1_; have HO111 := n2_; have HO114 := n3_; have HO119 := n4_; have HO123 := n5_; have HO126 := n6_; have HO129 := n7_; have BK101 := n8_; have BK116 := n9_; have BK120 := n10_; have BK131 := n11_; have HB := n12_; clear n0_ n1_ n2_ n3_ n4_ n5_ n6_ n7_ n8_ n9_ n10_ n11_ n12_; (try clear hb); (try clear hb2); (try clear hk); (try clear hi); obtain ⟨Ao70, co70, eo70⟩ := Kd.R_slice HO129.out; subst eo70; obtain ⟨Ao71, co71, eo71⟩ := Kd.R_slice HO114.out; subst eo71) | (go_at_call 15; (with_reducible refine (laws_eqInt64S.calls k _ _ t127 _ _ t112 false _ ?side1 ?side2 ?side3 ?side4 A50.out).mono ?_); (case side1 => repeat (first | exact (Kd.R_reads' HO129.out).2.2 | (with_reducible refine Kd.C_alloc ?_ _) | (with_reducible refine Kd.C_drewN ?_ _) | (with_reducible refine Kd.C_drew ?_))); (case side2 => exact (Kd.R_reads' HO129.out).2.1); (case side3 => repeat (first | exact (Kd.R_reads' HO114.out).2.2 | (with_reducible refine Kd.C_alloc ?_ _) | (with_reducible refine Kd.C_drewN ?_ _) | (with_reducible refine Kd.C_drew ?_))); (case side4 => exact (Kd.R_reads' HO114.out).2.1); rintro e w' ⟨rfl, ⟨nd, rfl⟩⟩))
      go_meet
      case rel => exact ⟨_, (true), (by first | rfl | (simp; done) | (simp [*]; done)), H', ⟨by first | omega | exact Nat.le_refl _⟩, ⟨by (with_reducible repeat (first | apply Kd.R_alloc | apply Kd.R_drewN | apply Kd.R_drew)); exact Kd.R_mono HO114.out (fun _ hk => by grind)⟩, ⟨by (with_reducible repeat (first | apply Kd.R_alloc | apply Kd.R_drewN | apply Kd.R_drew)); exact Kd.R_mono HO123.out (fun _ hk => by grind)⟩, ⟨by (with_reducible repeat (first | apply Kd.R_alloc | apply Kd.R_drewN | apply Kd.R_drew)); exact Kd.R_mono HO129.out (fun _ hk => by grind)⟩, ⟨by (with_reducible repeat (first | apply Kd.R_alloc | apply Kd.R_drewN | apply Kd.R_drew)); exact Kd.R_mono HO111.out (fun _ hk => by grind)⟩, ⟨by (with_reducible repeat (first | apply Kd.R_alloc | apply Kd.R_drewN | apply Kd.R_drew)); exact Kd.R_mono HO119.out (fun _ hk => by grind)⟩, ⟨by (with_reducible repeat (first | apply Kd.R_alloc | apply Kd.R_drewN | apply Kd.R_drew)); exact Kd.R_mono HO126.out (fun _ hk => by grind)⟩, ⟨by (with_reducible repeat (first | refine blk_drewN ?_ _ | refine blk_drew ?_ | refine blk_alloc ?_ _)); exact BK101.out⟩, ⟨by (with_reducible repeat (first | refine blk_drewN ?_ _ | refine blk_drew ?_ | refine blk_alloc ?_ _)); exact BK116.out⟩, ⟨by (with_reducible repeat (first | refine blk_drewN ?_ _ | refine blk_drew ?_ | refine blk_alloc ?_ _)); exact BK120.out⟩, ⟨by (with_reducible repeat (first | refine blk_drewN ?_ _ | refine blk_drew ?_ | refine blk_alloc ?_ _)); exact BK131.out⟩, ⟨gb_ HB.out⟩⟩
    ·replace c49 := Bool.eq_false_iff.mpr c49
     subst c49
     have H1 : (laws_FnExactAddSumPlace.j0 k l1 a2 t112 t115 t121 t127 t130 true l0_0 t109 t117 t124) = some r := by rw [if_neg (show ¬ (false = true) by decide)] at H; exact H
     clear H
     have H := H1
     clear H1
     have H' := Aside0.mk H
     clear H
     have hnb72 := NB131_101.out
     have hnc72 := NB101_131.out
     have hnb73 := NB131_116.out
     have hnc73 := NB116_131.out
     have hnb74 := NB131_120.out
     have hnc74 := NB120_131.out
     have hcz75_0 : w42.cell? ⟨gb131, 0, none⟩ = some (.slice none 0 0) := (blk_cell BK131.out 0).trans rfl
     have hfz75_0 := blk_frozen BK131.out 0
     have hnb76 := NB116_101.out
     have hnc76 := NB101_116.out
     have hnb77 := NB116_120.out
     have hnc77 := NB120_116.out
     have hcz78_0 : w42.cell? ⟨gb116, 0, none⟩ = some (.slice Ao28 t109.length co28) := (blk_cell BK116.out 0).trans rfl
     have hfz78_0 := blk_frozen BK116.out 0
     go_wp2_with (first | ((with_reducible refine gate_callee (f := 14) rfl ?_); refine goesL_ (some 54) rfl rfl Try.func14 (by kernel_rfl) rfl #[.agg #[.slice Ao43 t124.length co43], .agg #[.slice Ao28 t109.length co28]] rfl (by (try simp only [List.map_toArray, List.map_cons, List.map_nil]); first | done | rfl | (simp only [List.length_drop, List.length_take]; rfl)) ?_; (with_reducible refine (laws_eqSpace.calls k _ _ t124 _ _ t109 false _ ?side1 ?side2 ?side3 ?side4 A48.out).mono ?_); (case side1 => refine (Kd.R_reads' (e := 2) (base := w.heap.size) (ok := fun _ => True) (n := t124.length) (c := co43) ?_).2.2; exact (rb_ (Kd.R_mono (Kd.R_far (p := ⟨gb131, 0, none⟩) (Kd.R_types HO126.out BK131.out (by decide)) (fun _ hk => hk.2) (.slice Ao43 t124.length co43)) (fun _ _ => trivial)))); (case side2 => exact (Kd.R_reads' HO126.out).2.1); (case side3 => refine (Kd.R_reads' (e := 2) (base := w.heap.size) (ok := fun _ => True) (n := t109.length) (c := co28) ?_).2.2; exact (rb_ (Kd.R_mono (Kd.R_far (p := ⟨gb131, 0, none⟩) (Kd.R_types HO111.out BK131.out (by decide)) (fun _ hk => hk.2) (.slice Ao43 t124.length co43)) (fun _ _ => trivial)))); (case side4 => exact (Kd.R_reads' HO111.out).2.1); rintro e w79 ⟨rfl, hb⟩; refine ⟨_, rfl, ?_⟩; have n0_ := Aside0.mk (Kd.R_below (rb_ (Kd.R_mono (Kd.R_far (p := ⟨gb131, 0, none⟩) (Kd.R_types HO105.out BK131.out (by decide)) (fun _ hk => hk.2) (.slice Ao43 t124.length co43)) (fun _ h_ => h_.1))) hb); have n1_ := Aside0.mk (Kd.R_below (rb_ (Kd.R_mono (Kd.R_far (p := ⟨gb131, 0, none⟩) (Kd.R_types HO108.out BK131.out (by decide)) (fun _ hk => hk.2) (.slice Ao43 t124.length co43)) (fun _ h_ => h_.1))) hb); have n2_ := Aside0.mk (Kd.R_below (rb_ (Kd.R_mono (Kd.R_far (p := ⟨gb131, 0, none⟩) (Kd.R_types HO111.out BK131.out (by decide)) (fun _ hk => hk.2) (.slice Ao43 t124.length co43)) (fun _ h_ => h_.1))) hb); have n3_ := Aside0.mk (Kd.R_below (rb_ (Kd.R_mono (Kd.R_far (p := ⟨gb131, 0, none⟩) (Kd.R_types HO114.out BK131.out (by decide)) (fun _ hk => hk.2) (.slice Ao43 t124.length co43)) (fun _ h_ => h_.1))) hb); have n4_ := Aside0.mk (Kd.R_below (rb_ (Kd.R_mono (Kd.R_far (p := ⟨gb131, 0, none⟩) (Kd.R_types HO119.out BK131.out (by decide)) (fun _ hk => hk.2) (.slice Ao43 t124.length co43)) (fun _ h_ => h_.1))) hb); have n5_ := Aside0.mk (Kd.R_below (rb_ (Kd.R_mono (Kd.R_far (p := ⟨gb131, 0, none⟩) (Kd.R_types HO123.out BK131.out (by decide)) (fun _ hk => hk.2) (.slice Ao43 t124.length co43)) (fun _ h_ => h_.1))) hb); have n6_ := Aside0.mk (Kd.R_below (rb_ (Kd.R_mono (Kd.R_far (p := ⟨gb131, 0, none⟩) (Kd.R_types HO126.out BK131.out (by decide)) (fun _ hk => hk.2) (.slice Ao43 t124.length co43)) (fun _ h_ => h_.1))) hb); have n7_ := Aside0.mk (Kd.R_below (rb_ (Kd.R_mono (Kd.R_far (p := ⟨gb131, 0, none⟩) (Kd.R_types HO129.out BK131.out (by decide)) (fun _ hk => hk.2) (.slice Ao43 t124.length co43)) (fun _ h_ => h_.1))) hb); have n8_ := Aside0.mk (blk_below (g := gb101) (o := .cells #[.slice A0_0 l0_0.length c0_0] 24 (0, 0)) (by (with_reducible repeat (first | refine blk_drewN ?_ _ | refine blk_drew ?_ | refine blk_alloc ?_ _)); refine blk_far ?_ NB101_131.out _; (with_reducible repeat (first | refine blk_drewN ?_ _ | refine blk_drew ?_ | refine blk_alloc ?_ _)); exact BK101.out) hb); have n9_ := Aside0.mk (blk_below (g := gb116) (o := .cells #[.slice Ao28 t109.length co28] 26 (0, 0)) (by (with_reducible repeat (first | refine blk_drewN ?_ _ | refine blk_drew ?_ | refine blk_alloc ?_ _)); refine blk_far ?_ NB116_131.out _; (with_reducible repeat (first | refine blk_drewN ?_ _ | refine blk_drew ?_ | refine blk_alloc ?_ _)); exact BK116.out) hb); have n10_ := Aside0.mk (blk_below (g := gb120) (o := .cells #[.slice Ao34 t117.length co34] 26 (0, 0)) (by (with_reducible repeat (first | refine blk_drewN ?_ _ | refine blk_drew ?_ | refine blk_alloc ?_ _)); refine blk_far ?_ NB120_131.out _; (with_reducible repeat (first | refine blk_drewN ?_ _ | refine blk_drew ?_ | refine blk_alloc ?_ _)); exact BK120.out) hb); have n11_ := Aside0.mk (blk_below (g := gb131) (o := .cells #[.slice Ao43 t124.length co43] 26 (0, 0)) (by (with_reducible repeat (first | refine blk_drewN ?_ _ | refine blk_drew ?_ | refine blk_alloc ?_ _)); refine blk_put (cs := #[.slice none 0 0]) ?_ 0 _ rfl; (with_reducible repeat (first | refine blk_drewN ?_ _ | refine blk_drew ?_ | refine blk_alloc ?_ _)); exact BK131.out) hb); have n12_ := Aside0.mk (below_step (gb_ HB.out) hb); clear HO105 HO108 HO111 HO114 HO119 HO123 HO126 HO129 BK101 BK116 BK120 BK131 HB; have HO105 := n0_; have HO108 := n1_; have HO111 := n2_; have HO114 := n3_; have HO119 := n4_; have HO123 := n5_; have HO126 := n6_; have HO129 := n7_; have BK101 := n8_; have BK116 := n9_; have BK120 := n10_; have BK131 := n11_; have HB := n12_; clear n0_ n1_ n2_ n3_ n4_ n5_ n6_ n7_ n8_ n9_ n10_ n11_ n12_; (try clear hb); (try clear hb2); (try clear hk); (try clear hi)))
     go_meet
     case rel => exact ⟨_, (true), (by first | rfl | (simp; done) | (simp [*]; done)), H', ⟨by first | omega | exact Nat.le_refl _⟩, ⟨by (with_reducible repeat (first | apply Kd.R_alloc | apply Kd.R_drewN | apply Kd.R_drew)); exact Kd.R_mono HO114.out (fun _ hk => by grind)⟩, ⟨by (with_reducible repeat (first | apply Kd.R_alloc | apply Kd.R_drewN | apply Kd.R_drew)); exact Kd.R_mono HO123.out (fun _ hk => by grind)⟩, ⟨by (with_reducible repeat (first | apply Kd.R_alloc | apply Kd.R_drewN | apply Kd.R_drew)); exact Kd.R_mono HO129.out (fun _ hk => by grind)⟩, ⟨by (with_reducible repeat (first | apply Kd.R_alloc | apply Kd.R_drewN | apply Kd.R_drew)); exact Kd.R_mono HO111.out (fun _ hk => by grind)⟩, ⟨by (with_reducible repeat (first | apply Kd.R_alloc | apply Kd.R_drewN | apply Kd.R_drew)); exact Kd.R_mono HO119.out (fun _ hk => by grind)⟩, ⟨by (with_reducible repeat (first | apply Kd.R_alloc | apply Kd.R_drewN | apply Kd.R_drew)); exact Kd.R_mono HO126.out (fun _ hk => by grind)⟩, ⟨by (with_reducible repeat (first | refine blk_drewN ?_ _ | refine blk_drew ?_ | refine blk_alloc ?_ _)); exact BK101.out⟩, ⟨by (with_reducible repeat (first | refine blk_drewN ?_ _ | refine blk_drew ?_ | refine blk_alloc ?_ _)); exact BK116.out⟩, ⟨by (with_reducible repeat (first | refine blk_drewN ?_ _ | refine blk_drew ?_ | refine blk_alloc ?_ _)); exact BK120.out⟩, ⟨by (with_reducible repeat (first | refine blk_drewN ?_ _ | refine blk_drew ?_ | refine blk_alloc ?_ _)); exact BK131.out⟩, ⟨gb_ HB.out⟩⟩
   case rest =>
    clear HC17
    try clear c1
    try clear c2
    try clear p2
    try clear c3
    try clear c4
    try clear c4b0
    try clear c4b1
    try clear c5
    try clear c6
    try clear c7
    try clear c7b0
    try clear c9
    try clear c11
    try clear c12
    try clear c14
    try clear c20
    try clear c21
    try clear c29
    try clear c35
    try clear c36
    try clear c44
    try clear c45
    try clear c46
    try clear c49
    try clear c51
    try clear c52
    try clear c53
    try clear c54
    try clear c56
    try clear c57
    try clear c62
    try clear c63
    try clear c64
    try clear c66
    try clear c67
    try clear c72
    try clear c73
    try clear c74
    try clear c76
    try clear c77
    try clear hcz19_0
    try clear hcz21_0
    try clear hcz30_0
    try clear hcz31_0
    try clear hcz37_0
    try clear hcz39_0
    try clear hcz47_0
    try clear hcz55_0
    try clear hcz58_0
    try clear hcz65_0
    try clear hcz68_0
    try clear hcz75_0
    try clear hcz78_0
    try clear hcz9_0
    try clear hfz19_0
    try clear hfz21_0
    try clear hfz30_0
    try clear hfz31_0
    try clear hfz37_0
    try clear hfz39_0
    try clear hfz47_0
    try clear hfz55_0
    try clear hfz58_0
    try clear hfz65_0
    try clear hfz68_0
    try clear hfz75_0
    try clear hfz78_0
    try clear hfz9_0
    obtain ⟨kq, x66_16, rfl, HA, HJ16, HO_9, HO_12, HO_14, HO_117000, HO_121000, HO_132000, BK101, BK116, BK120, BK131, HB⟩ := hcut
    cases kq with
    | zero => exact absurd HA.out (by simp [laws_FnExactAddSumPlace.j0])
    | succ kj16 =>
     have H := HA.out
     clear HA
     simp only [laws_FnExactAddSumPlace.j0] at H
     by_cases c80 : x66_16 = true
     ·subst c80
      have H1 : (some false) = some r := by rw [if_pos rfl] at H; exact H
      clear H
      have H := H1
      clear H1
      obtain rfl := Option.some.inj H
      go_wp2
      go_ret
      exact ⟨by first | rfl | (simp [errW_none, errW_some] <;> rfl) | (simp [*, errW_none, errW_some] <;> rfl), gb_ HB.out⟩
     ·replace c80 := Bool.eq_false_iff.mpr c80
      subst c80
      have H1 : ((laws_toSpace.f kj16 l0_0).bind fun t134 => ((laws_eqSpace.f kj16 t117 t134).bind fun t137 => (if t137 = true then ((laws_toInt64S.f kj16 l1).bind fun t138 => ((laws_eqInt64S.f kj16 t121 t138).bind fun t141 => (if t141 = true then ((laws_markSpace.f kj16 t117 1).bind fun bt142 => ((laws_markInt64S.f kj16 t121 bt142.1).bind fun bt144 => (if bt144.1 < 0 then (laws_FnExactAddSumPlace.j1 kj16 l1 a2 t112 t115 t127 true l0_0 t109 t124) else ((laws_eqSpace.f kj16 t124 t109).bind fun t146 => (if t146 = true then ((laws_eqInt64S.f kj16 t127 t112).bind fun t147 => (if t147 = true then (laws_FnExactAddSumPlace.j1 kj16 l1 a2 t112 t115 t127 (t130 != t115) l0_0 t109 t124) else (laws_FnExactAddSumPlace.j1 kj16 l1 a2 t112 t115 t127 true l0_0 t109 t124))) else (laws_FnExactAddSumPlace.j1 kj16 l1 a2 t112 t115 t127 true l0_0 t109 t124)))))) else (some false)))) else (some false)))) = some r := by rw [if_neg (show ¬ (false = true) by decide)] at H; exact H
      clear H
      have H := H1
      clear H1
      replace H := Option.bind_eq_some_iff.mp H
      obtain ⟨t134, A810, H⟩ := H
      replace H : ((laws_eqSpace.f kj16 t117 t134).bind fun t137 => (if t137 = true then ((laws_toInt64S.f kj16 l1).bind fun t138 => ((laws_eqInt64S.f kj16 t121 t138).bind fun t141 => (if t141 = true then ((laws_markSpace.f kj16 t117 1).bind fun bt142 => ((laws_markInt64S.f kj16 t121 bt142.1).bind fun bt144 => (if bt144.1 < 0 then (laws_FnExactAddSumPlace.j1 kj16 l1 a2 t112 t115 t127 true l0_0 t109 t124) else ((laws_eqSpace.f kj16 t124 t109).bind fun t146 => (if t146 = true then ((laws_eqInt64S.f kj16 t127 t112).bind fun t147 => (if t147 = true then (laws_FnExactAddSumPlace.j1 kj16 l1 a2 t112 t115 t127 (t130 != t115) l0_0 t109 t124) else (laws_FnExactAddSumPlace.j1 kj16 l1 a2 t112 t115 t127 true l0_0 t109 t124))) else (laws_FnExactAddSumPlace.j1 kj16 l1 a2 t112 t115 t127 true l0_0 t109 t124)))))) else (some false)))) else (some false))) = some r := H
      have A81 := Aside0.mk A810
      clear A810
      replace H := Option.bind_eq_some_iff.mp H
      obtain ⟨t137, A820, H⟩ := H
      replace H : (if t137 = true then ((laws_toInt64S.f kj16 l1).bind fun t138 => ((laws_eqInt64S.f kj16 t121 t138).bind fun t141 => (if t141 = true then ((laws_markSpace.f kj16 t117 1).bind fun bt142 => ((laws_markInt64S.f kj16 t121 bt142.1).bind fun bt144 => (if bt144.1 < 0 then (laws_FnExactAddSumPlace.j1 kj16 l1 a2 t112 t115 t127 true l0_0 t109 t124) else ((laws_eqSpace.f kj16 t124 t109).bind fun t146 => (if t146 = true then ((laws_eqInt64S.f kj16 t127 t112).bind fun t147 => (if t147 = true then (laws_FnExactAddSumPlace.j1 kj16 l1 a2 t112 t115 t127 (t130 != t115) l0_0 t109 t124) else (laws_FnExactAddSumPlace.j1 kj16 l1 a2 t112 t115 t127 true l0_0 t109 t124))) else (laws_FnExactAddSumPlace.j1 kj16 l1 a2 t112 t115 t127 true l0_0 t109 t124)))))) else (some false)))) else (some false)) = some r := H
      have A82 := Aside0.mk A820
      clear A820
      by_cases c83 : t137 = true
      ·subst c83
       have H1 : ((laws_toInt64S.f kj16 l1).bind fun t138 => ((laws_eqInt64S.f kj16 t121 t138).bind fun t141 => (if t141 = true then ((laws_markSpace.f kj16 t117 1).bind fun bt142 => ((laws_markInt64S.f kj16 t121 bt142.1).bind fun bt144 => (if bt144.1 < 0 then (laws_FnExactAddSumPlace.j1 kj16 l1 a2 t112 t115 t127 true l0_0 t109 t124) else ((laws_eqSpace.f kj16 t124 t109).bind fun t146 => (if t146 = true then ((laws_eqInt64S.f kj16 t127 t112).bind fun t147 => (if t147 = true then (laws_FnExactAddSumPlace.j1 kj16 l1 a2 t112 t115 t127 (t130 != t115) l0_0 t109 t124) else (laws_FnExactAddSumPlace.j1 kj16 l1 a2 t112 t115 t127 true l0_0 t109 t124))) else (laws_FnExactAddSumPlace.j1 kj16 l1 a2 t112 t115 t127 true l0_0 t109 t124)))))) else (some false)))) = some r := by rw [if_pos rfl] at H; exact H
       clear H
       have H := H1
       clear H1
       replace H := Option.bind_eq_some_iff.mp H
       obtain ⟨t138, A840, H⟩ := H
       replace H : ((laws_eqInt64S.f kj16 t121 t138).bind fun t141 => (if t141 = true then ((laws_markSpace.f kj16 t117 1).bind fun bt142 => ((laws_markInt64S.f kj16 t121 bt142.1).bind fun bt144 => (if bt144.1 < 0 then (laws_FnExactAddSumPlace.j1 kj16 l1 a2 t112 t115 t127 true l0_0 t109 t124) else ((laws_eqSpace.f kj16 t124 t109).bind fun t146 => (if t146 = true then ((laws_eqInt64S.f kj16 t127 t112).bind fun t147 => (if t147 = true then (laws_FnExactAddSumPlace.j1 kj16 l1 a2 t112 t115 t127 (t130 != t115) l0_0 t109 t124) else (laws_FnExactAddSumPlace.j1 kj16 l1 a2 t112 t115 t127 true l0_0 t109 t124))) else (laws_FnExactAddSumPlace.j1 kj16 l1 a2 t112 t115 t127 true l0_0 t109 t124)))))) else (some false))) = some r := H
       have A84 := Aside0.mk A840
       clear A840
       replace H := Option.bind_eq_some_iff.mp H
       obtain ⟨t141, A850, H⟩ := H
       replace H : (if t141 = true then ((laws_markSpace.f kj16 t117 1).bind fun bt142 => ((laws_markInt64S.f kj16 t121 bt142.1).bind fun bt144 => (if bt144.1 < 0 then (laws_FnExactAddSumPlace.j1 kj16 l1 a2 t112 t115 t127 true l0_0 t109 t124) else ((laws_eqSpace.f kj16 t124 t109).bind fun t146 => (if t146 = true then ((laws_eqInt64S.f kj16 t127 t112).bind fun t147 => (if t147 = true then (laws_FnExactAddSumPlace.j1 kj16 l1 a2 t112 t115 t127 (t130 != t115) l0_0 t109 t124) else (laws_FnExactAddSumPlace.j1 kj16 l1 a2 t112 t115 t127 true l0_0 t109 t124))) else (laws_FnExactAddSumPlace.j1 kj16 l1 a2 t112 t115 t127 true l0_0 t109 t124)))))) else (some false)) = some r := H
       have A85 := Aside0.mk A850
       clear A850
       by_cases c86 : t141 = true
       ·subst c86
        have H1 : ((laws_markSpace.f kj16 t117 1).bind fun bt142 => ((laws_markInt64S.f kj16 t121 bt142.1).bind fun bt144 => (if bt144.1 < 0 then (laws_FnExactAddSumPlace.j1 kj16 l1 a2 t112 t115 t127 true l0_0 t109 t124) else ((laws_eqSpace.f kj16 t124 t109).bind fun t146 => (if t146 = true then ((laws_eqInt64S.f kj16 t127 t112).bind fun t147 => (if t147 = true then (laws_FnExactAddSumPlace.j1 kj16 l1 a2 t112 t115 t127 (t130 != t115) l0_0 t109 t124) else (laws_FnExactAddSumPlace.j1 kj16 l1 a2 t112 t115 t127 true l0_0 t109 t124))) else (laws_FnExactAddSumPlace.j1 kj16 l1 a2 t112 t115 t127 true l0_0 t109 t124)))))) = some r := by rw [if_pos rfl] at H; exact H
        clear H
        have H := H1
        clear H1
        replace H := Option.bind_eq_some_iff.mp H
        obtain ⟨⟨t142, t143⟩, A870, H⟩ := H
        replace H : ((laws_markInt64S.f kj16 t121 t142).bind fun bt144 => (if bt144.1 < 0 then (laws_FnExactAddSumPlace.j1 kj16 l1 a2 t112 t115 t127 true l0_0 t109 t124) else ((laws_eqSpace.f kj16 t124 t109).bind fun t146 => (if t146 = true then ((laws_eqInt64S.f kj16 t127 t112).bind fun t147 => (if t147 = true then (laws_FnExactAddSumPlace.j1 kj16 l1 a2 t112 t115 t127 (t130 != t115) l0_0 t109 t124) else (laws_FnExactAddSumPlace.j1 kj16 l1 a2 t112 t115 t127 true l0_0 t109 t124))) else (laws_FnExactAddSumPlace.j1 kj16 l1 a2 t112 t115 t127 true l0_0 t109 t124))))) = some r := H
        have A87 := Aside0.mk A870
        clear A870
        replace H := Option.bind_eq_some_iff.mp H
        obtain ⟨⟨t144, t145⟩, A880, H⟩ := H
        replace H : (if t144 < 0 then (laws_FnExactAddSumPlace.j1 kj16 l1 a2 t112 t115 t127 true l0_0 t109 t124) else ((laws_eqSpace.f kj16 t124 t109).bind fun t146 => (if t146 = true then ((laws_eqInt64S.f kj16 t127 t112).bind fun t147 => (if t147 = true then (laws_FnExactAddSumPlace.j1 kj16 l1 a2 t112 t115 t127 (t130 != t115) l0_0 t109 t124) else (laws_FnExactAddSumPlace.j1 kj16 l1 a2 t112 t115 t127 true l0_0 t109 t124))) else (laws_FnExactAddSumPlace.j1 kj16 l1 a2 t112 t115 t127 true l0_0 t109 t124)))) = some r := H
        have A88 := Aside0.mk A880
        clear A880
        have HC89 := Aside0.mk H
        clear H
        try go_wp2
        have n0_ := Aside0.mk (Kd.R_drew HO_9.out)
        have n1_ := Aside0.mk (Kd.R_drew HO_12.out)
        have n2_ := Aside0.mk (Kd.R_drew HO_14.out)
        have n3_ := Aside0.mk (Kd.R_drew HO_117000.out)
        have n4_ := Aside0.mk (Kd.R_drew HO_121000.out)
        have n5_ := Aside0.mk (Kd.R_drew HO_132000.out)
        have n6_ := Aside0.mk (blk_drew BK101.out)
        have n7_ := Aside0.mk (blk_drew BK116.out)
        have n8_ := Aside0.mk (blk_drew BK120.out)
        have n9_ := Aside0.mk (blk_drew BK131.out)
        have n10_ := Aside0.mk (below_drew1 HB.out)
        clear HO_9 HO_12 HO_14 HO_117000 HO_121000 HO_132000 BK101 BK116 BK120 BK131 HB
        have HO_9 := n0_
        have HO_12 := n1_
        have HO_14 := n2_
        have HO_117000 := n3_
        have HO_121000 := n4_
        have HO_132000 := n5_
        have BK101 := n6_
        have BK116 := n7_
        have BK120 := n8_
        have BK131 := n9_
        have HB := n10_
        clear n0_ n1_ n2_ n3_ n4_ n5_ n6_ n7_ n8_ n9_ n10_
        refine start_ (n := 5) (S := fun w' => w'.cell? ⟨gb120, 0, none⟩ = some (.slice Ao34 t117.length co34) ∧ w'.cell? ⟨gb101, 0, none⟩ = some (.slice A0_0 l0_0.length c0_0)) (ds := []) #[false, false, false, false, false] (by kernel_rfl) rfl rfl ⟨(blk_cell BK120.out 0).trans rfl, (blk_cell BK101.out 0).trans rfl⟩ (fun hHeld => ?_)
        generalize wc.drew = w90 at HO_9 HO_12 HO_14 HO_117000 HO_121000 HO_132000 BK101 BK116 BK120 BK131 HB hHeld ⊢
        refine take_ (i := 0) (N := some 67) (v := ?_) (a' := ?_) #[true, false, false, false, false] rfl rfl (by kernel_rfl) (fun _ _ _ h => h) (Or.inl ⟨by rfl, ?_⟩) hHeld ?_ ?_
        rotate_left
        ·rintro w' ⟨s0, s1⟩
         go_simp
         with_reducible rfl
        rotate_left
        ·simp only [Act.put, List.setIfInBounds_toArray, List.set_cons_zero, List.set_cons_succ, i64_w, i32_w]
         rfl
        refine take_ (i := 1) (N := some 68) (v := ?_) (a' := ?_) #[true, true, false, false, false] rfl rfl (by kernel_rfl) (fun _ _ _ h => h) (Or.inl ⟨by rfl, ?_⟩) hHeld ?_ ?_
        rotate_left
        ·rintro w' ⟨s0, s1⟩
         go_simp
         with_reducible rfl
        rotate_left
        ·simp only [Act.put, List.setIfInBounds_toArray, List.set_cons_zero, List.set_cons_succ, i64_w, i32_w]
         rfl
        refine one_ (i := 2) (N := some 69) #[true, true, true, false, false] rfl rfl (by kernel_rfl) (by decide) (fun K hK => ?_)
        refine goes_ Try.func11 (by kernel_rfl) rfl #[.agg #[.slice A0_0 l0_0.length c0_0]] (by rfl) rfl rfl (by (try simp only [List.map_toArray, List.map_cons, List.map_nil]); first | done | rfl | (simp only [List.length_drop, List.length_take]; rfl)) ?_
        with_reducible refine (laws_toSpace.calls kj16 _ _ l0_0 t134 _ ?side1 ?side2 A81.out).mono ?_
        (case side1 => repeat (first | exact (Kd.C_below HR0_0.out HB.out) | (with_reducible refine Kd.C_alloc ?_ _) | (with_reducible refine Kd.C_drewN ?_ _) | (with_reducible refine Kd.C_drew ?_)))
        (case side2 => exact HC0_0.out)
        rintro e w91 ⟨v135, rfl, ho0, hb⟩
        refine ⟨_, rfl, ?_⟩
        have n0_ := Aside0.mk (Kd.R_elder' (rb_ HO_9.out) (Kd.R_base ho0) hb)
        have n1_ := Aside0.mk (Kd.R_elder' (rb_ HO_12.out) (Kd.R_base ho0) hb)
        have n2_ := Aside0.mk (Kd.R_elder' (rb_ HO_14.out) (Kd.R_base ho0) hb)
        have n3_ := Aside0.mk (Kd.R_elder' (rb_ HO_117000.out) (Kd.R_base ho0) hb)
        have n4_ := Aside0.mk (Kd.R_elder' (rb_ HO_121000.out) (Kd.R_base ho0) hb)
        have n5_ := Aside0.mk (Kd.R_elder' (rb_ HO_132000.out) (Kd.R_base ho0) hb)
        have n6_ := Aside0.mk (Kd.R_lower (Kd.R_new' (Kd.R_new' (Kd.R_new' (Kd.R_new' (Kd.R_new' (Kd.R_new' ho0 (Kd.R_lt (rb_ HO_9.out))) (Kd.R_lt (rb_ HO_12.out))) (Kd.R_lt (rb_ HO_14.out))) (Kd.R_lt (rb_ HO_117000.out))) (Kd.R_lt (rb_ HO_121000.out))) (Kd.R_lt (rb_ HO_132000.out))) (below_size (gb_ HB.out)))
        have n7_ := Aside0.mk (blk_below (g := gb101) (o := .cells #[.slice A0_0 l0_0.length c0_0] 24 (0, 0)) (bb_ BK101.out) hb)
        have n8_ := Aside0.mk (blk_below (g := gb116) (o := .cells #[.slice Ao28 t109.length co28] 26 (0, 0)) (bb_ BK116.out) hb)
        have n9_ := Aside0.mk (blk_below (g := gb120) (o := .cells #[.slice Ao34 t117.length co34] 26 (0, 0)) (bb_ BK120.out) hb)
        have n10_ := Aside0.mk (blk_below (g := gb131) (o := .cells #[.slice Ao43 t124.length co43] 26 (0, 0)) (bb_ BK131.out) hb)
        have n11_ := Aside0.mk (below_step (gb_ HB.out) hb)
        clear HO_9 HO_12 HO_14 HO_117000 HO_121000 HO_132000 BK101 BK116 BK120 BK131 HB
        have HO_9 := n0_
        have HO_12 := n1_
        have HO_14 := n2_
        have HO_117000 := n3_
        have HO_121000 := n4_
        have HO_132000 := n5_
        have HO136 := n6_
        have BK101 := n7_
        have BK116 := n8_
        have BK120 := n9_
        have BK131 := n10_
        have HB := n11_
        clear n0_ n1_ n2_ n3_ n4_ n5_ n6_ n7_ n8_ n9_ n10_ n11_
        (try clear hb)
        (try clear hb2)
        (try clear hk)
        (try clear hi)
        (try clear ho0)
        obtain ⟨Ao92, co92, eo92⟩ := Kd.R_slice HO136.out
        (first | subst eo92 | (injection eo92 with f1_ f2_ f3_; have f4_ := f1_.symm; have f5_ := f3_.symm; clear f1_ f2_ f3_; subst f4_; subst f5_))
        refine hK.out _ _ ⟨(blk_cell BK120.out 0).trans rfl, (blk_cell BK101.out 0).trans rfl⟩ (fun hHeld => ?_)
        clear hK K
        refine norm_ (a' := ?_) ?_ ?_
        rotate_left
        ·show Act.put _ (some 69) _ = _
         simp only [Act.put, List.setIfInBounds_toArray, List.set_cons_zero, List.set_cons_succ, i64_w, i32_w]
         rfl
        refine one_ (i := 3) (N := some 70) #[true, true, true, true, false] rfl rfl (by kernel_rfl) (by decide) (fun K hK => ?_)
        refine goes_ Try.func14 (by kernel_rfl) rfl #[.agg #[.slice Ao34 t117.length co34], .agg #[.slice Ao92 t134.length co92]] (by rfl) rfl rfl (by (try simp only [List.map_toArray, List.map_cons, List.map_nil]); first | done | rfl | (simp only [List.length_drop, List.length_take]; rfl)) ?_
        with_reducible refine (laws_eqSpace.calls kj16 _ _ t117 _ _ t134 true _ ?side1 ?side2 ?side3 ?side4 A82.out).mono ?_
        (case side1 => repeat (first | exact (Kd.R_reads' HO_121000.out).2.2 | (with_reducible refine Kd.C_alloc ?_ _) | (with_reducible refine Kd.C_drewN ?_ _) | (with_reducible refine Kd.C_drew ?_)))
        (case side2 => exact (Kd.R_reads' HO_121000.out).2.1)
        (case side3 => repeat (first | exact (Kd.R_reads' HO136.out).2.2 | (with_reducible refine Kd.C_alloc ?_ _) | (with_reducible refine Kd.C_drewN ?_ _) | (with_reducible refine Kd.C_drew ?_)))
        (case side4 => exact (Kd.R_reads' HO136.out).2.1)
        rintro e w93 ⟨rfl, hb⟩
        refine ⟨_, rfl, ?_⟩
        have n0_ := Aside0.mk (Kd.R_below (rb_ HO_9.out) hb)
        have n1_ := Aside0.mk (Kd.R_below (rb_ HO_12.out) hb)
        have n2_ := Aside0.mk (Kd.R_below (rb_ HO_14.out) hb)
        have n3_ := Aside0.mk (Kd.R_below (rb_ HO_117000.out) hb)
        have n4_ := Aside0.mk (Kd.R_below (rb_ HO_121000.out) hb)
        have n5_ := Aside0.mk (Kd.R_below (rb_ HO_132000.out) hb)
        have n6_ := Aside0.mk (Kd.R_below (rb_ HO136.out) hb)
        have n7_ := Aside0.mk (blk_below (g := gb101) (o := .cells #[.slice A0_0 l0_0.length c0_0] 24 (0, 0)) (bb_ BK101.out) hb)
        have n8_ := Aside0.mk (blk_below (g := gb116) (o := .cells #[.slice Ao28 t109.length co28] 26 (0, 0)) (bb_ BK116.out) hb)
        have n9_ := Aside0.mk (blk_below (g := gb120) (o := .cells #[.slice Ao34 t117.length co34] 26 (0, 0)) (bb_ BK120.out) hb)
        have n10_ := Aside0.mk (blk_below (g := gb131) (o := .cells #[.slice Ao43 t124.length co43] 26 (0, 0)) (bb_ BK131.out) hb)
        have n11_ := Aside0.mk (below_step (gb_ HB.out) hb)
        clear HO_9 HO_12 HO_14 HO_117000 HO_121000 HO_132000 HO136 BK101 BK116 BK120 BK131 HB
        have HO_9 := n0_
        have HO_12 := n1_
        have HO_14 := n2_
        have HO_117000 := n3_
        have HO_121000 := n4_
        have HO_132000 := n5_
        have HO136 := n6_
        have BK101 := n7_
        have BK116 := n8_
        have BK120 := n9_
        have BK131 := n10_
        have HB := n11_
        clear n0_ n1_ n2_ n3_ n4_ n5_ n6_ n7_ n8_ n9_ n10_ n11_
        (try clear hb)
        (try clear hb2)
        (try clear hk)
        (try clear hi)
        refine hK.out _ _ ⟨(blk_cell BK120.out 0).trans rfl, (blk_cell BK101.out 0).trans rfl⟩ (fun hHeld => ?_)
        clear hK K
        refine norm_ (a' := ?_) ?_ ?_
        rotate_left
        ·show Act.put _ (some 70) _ = _
         simp only [Act.put, List.setIfInBounds_toArray, List.set_cons_zero, List.set_cons_succ, i64_w, i32_w]
         rfl
        refine pure_ (i := 4) (N := some 71) (v := ?_) (a' := ?_) #[true, true, true, true, true] rfl rfl (by kernel_rfl) (fun _ _ _ h => h) (Or.inl ⟨by rfl, ?_⟩) ?_ ?_
        rotate_left
        ·intro w'
         go_simp
         with_reducible rfl
        rotate_left
        ·simp only [Act.put, List.setIfInBounds_toArray, List.set_cons_zero, List.set_cons_succ, i64_w, i32_w]
         rfl
        refine done_ (by kernel_rfl) ?_
        go_upto_region 20 with (first | ((with_reducible refine gate_callee (f := 12) rfl ?_); refine goesL_ (some 74) rfl rfl Try.func12 (by kernel_rfl) rfl #[.slice A1 l1.length c1] rfl (by (try simp only [List.map_toArray, List.map_cons, List.map_nil]); first | done | rfl | (simp only [List.length_drop, List.length_take]; rfl)) ?_; (with_reducible refine (laws_toInt64S.calls kj16 _ _ l1 t138 _ ?side1 ?side2 A84.out).mono ?_); (case side1 => repeat (first | exact (Kd.C_below HR1.out HB.out) | (with_reducible refine Kd.C_alloc ?_ _) | (with_reducible refine Kd.C_drewN ?_ _) | (with_reducible refine Kd.C_drew ?_))); (case side2 => exact HC1.out); rintro e w94 ⟨v139, rfl, ho0, hb⟩; refine ⟨_, rfl, ?_⟩; have n0_ := Aside0.mk (Kd.R_elder' (rb_ HO_9.out) (Kd.R_base ho0) hb); have n1_ := Aside0.mk (Kd.R_elder' (rb_ HO_12.out) (Kd.R_base ho0) hb); have n2_ := Aside0.mk (Kd.R_elder' (rb_ HO_14.out) (Kd.R_base ho0) hb); have n3_ := Aside0.mk (Kd.R_elder' (rb_ HO_117000.out) (Kd.R_base ho0) hb); have n4_ := Aside0.mk (Kd.R_elder' (rb_ HO_121000.out) (Kd.R_base ho0) hb); have n5_ := Aside0.mk (Kd.R_elder' (rb_ HO_132000.out) (Kd.R_base ho0) hb); have n6_ := Aside0.mk (Kd.R_elder' (rb_ HO136.out) (Kd.R_base ho0) hb); have n7_ := Aside0.mk (Kd.R_lower (Kd.R_new' (Kd.R_new' (Kd.R_new' (Kd.R_new' (Kd.R_new' (Kd.R_new' (Kd.R_new' ho0 (Kd.R_lt (rb_ HO_9.out))) (Kd.R_lt (rb_ HO_12.out))) (Kd.R_lt (rb_ HO_14.out))) (Kd.R_lt (rb_ HO_117000.out))) (Kd.R_lt (rb_ HO_121000.out))) (Kd.R_lt (rb_ HO_132000.out))) (Kd.R_lt (rb_ HO136.out))) (below_size (gb_ HB.out))); have n8_ := Aside0.mk (blk_below (g := gb101) (o := .cells #[.slice A0_0 l0_0.length c0_0] 24 (0, 0)) (bb_ BK101.out) hb); have n9_ := Aside0.mk (blk_below (g := gb116) (o := .cells #[.slice Ao28 t109.length co28] 26 (0, 0)) (bb_ BK116.out) hb); have n10_ := Aside0.mk (blk_below (g := gb120) (o := .cells #[.slice Ao34 t117.length co34] 26 (0, 0)) (bb_ BK120.out) hb); have n11_ := Aside0.mk (blk_below (g := gb131) (o := .cells #[.slice Ao43 t124.length co43] 26 (0, 0)) (bb_ BK131.out) hb); have n12_ := Aside0.mk (below_step (gb_ HB.out) hb); clear HO_9 HO_12 HO_14 HO_117000 HO_121000 HO_132000 HO136 BK101 BK116 BK120 BK131 HB; have HO_9 := n0_; have HO_12 := n1_; have HO_14 := n2_; have HO_117000 := n3_; have HO_121000 := n4_; have HO_132000 := n5_; have HO136 := n6_; have HO140 := n7_; have BK101 := n8_; have BK116 := n9_; have BK120 := n10_; have BK131 := n11_; have HB := n12_; clear n0_ n1_ n2_ n3_ n4_ n5_ n6_ n7_ n8_ n9_ n10_ n11_ n12_; (try clear hb); (try clear hb2); (try clear hk); (try clear hi); (try clear ho0); obtain ⟨Ao95, co95, eo95⟩ := Kd.R_slice HO140.out; subst eo95) | ((with_reducible refine gate_callee (f := 15) rfl ?_); refine goesL_ (some 75) rfl rfl Try.func15 (by kernel_rfl) rfl #[.slice Ao40 t121.length co40, .slice Ao95 t138.length co95] rfl (by (try simp only [List.map_toArray, List.map_cons, List.map_nil]); first | done | rfl | (simp only [List.length_drop, List.length_take]; rfl)) ?_; (with_reducible refine (laws_eqInt64S.calls kj16 _ _ t121 _ _ t138 true _ ?side1 ?side2 ?side3 ?side4 A85.out).mono ?_); (case side1 => repeat (first | exact (Kd.R_reads' HO_12.out).2.2 | (with_reducible refine Kd.C_alloc ?_ _) | (with_reducible refine Kd.C_drewN ?_ _) | (with_reducible refine Kd.C_drew ?_))); (case side2 => exact (Kd.R_reads' HO_12.out).2.1); (case side3 => repeat (first | exact (Kd.R_reads' HO140.out).2.2 | (with_reducible refine Kd.C_alloc ?_ _) | (with_reducible refine Kd.C_drewN ?_ _) | (with_reducible refine Kd.C_drew ?_))); (case side4 => exact (Kd.R_reads' HO140.out).2.1); rintro e w' ⟨rfl, ⟨nd, rfl⟩⟩; refine ⟨_, rfl, ?_⟩; have hnb96 := NB120_101.out; have hnc96 := NB101_120.out; have hnb97 := NB120_116.out; have hnc97 := NB116_120.out; have hnb98 := NB120_131.out; have hnc98 := NB131_120.out; have hcz99_0 : w94.cell? ⟨gb120, 0, none⟩ = some (.slice Ao34 t117.length co34) := (blk_cell BK120.out 0).trans rfl; have hfz99_0 := blk_frozen BK120.out 0) | ((with_reducible refine gate_callee (f := 16) rfl ?_); refine goesL_ (some 79) rfl rfl Try.func16 (by kernel_rfl) rfl #[.agg #[.slice Ao34 t117.length co34], .int .i64 1] rfl (by (try simp only [List.map_toArray, List.map_cons, List.map_nil]); first | done | rfl | (simp only [List.length_drop, List.length_take]; rfl)) ?_; (with_reducible refine (laws_markSpace.calls kj16 (fun k_ => some k_ = (.slice Ao34 t117.length co34 : Value).ownBlock) (.slice Ao34 t117.length co34) t117 1 t142 t143 w _ ?side1 ?side2 A87.out).mono ?_); (case side1 => repeat (first | (with_reducible first | exact HB.out | apply below_alloc | apply pw_below_drewN | apply below_drew1 | refine below_set ?_ GE101.out | refine below_set ?_ GE116.out | refine below_set ?_ GE120.out | refine below_set ?_ GE131.out) | exact HB.out)); (case side2 => exact Kd.R_tight rfl HO_121000.out); rintro e w100 ⟨rfl, hy0, hb, hkp⟩; refine ⟨_, rfl, ?_⟩; have n0_ := Aside0.mk (Kd.R_mono (ok' := fun k_ => OB_ k_ (.slice Ao40 t121.length co40) ∧ OB_ k_ v128 ∧ OB_ k_ (.slice Ao28 t109.length co28) ∧ OB_ k_ (.slice Ao34 t117.length co34) ∧ OB_ k_ (.slice Ao43 t124.length co43) ∧ OB_ k_ (.slice Ao92 t134.length co92) ∧ OB_ k_ (.slice Ao95 t138.length co95)) (Kd.R_keptB (HO_9.out) hkp (fun k_ hk_ hs_ => (hk_.1.1.2.2.2.1) hs_)) (fun k_ hk_ => ⟨hk_.1.1.1.1, hk_.1.1.1.2.1, hk_.1.1.1.2.2.1, hk_.1.1.1.2.2.2.1, hk_.1.1.1.2.2.2.2, hk_.1.1.2, hk_.1.2⟩)); have n1_ := Aside0.mk (Kd.R_mono (ok' := fun k_ => OB_ k_ v113 ∧ OB_ k_ v128 ∧ OB_ k_ (.slice Ao28 t109.length co28) ∧ OB_ k_ (.slice Ao34 t117.length co34) ∧ OB_ k_ (.slice Ao43 t124.length co43) ∧ OB_ k_ (.slice Ao92 t134.length co92) ∧ OB_ k_ (.slice Ao95 t138.length co95)) (Kd.R_keptB (HO_12.out) hkp (fun k_ hk_ hs_ => (hk_.1.1.2.2.2.1) hs_)) (fun k_ hk_ => ⟨hk_.1.1.1.1, hk_.1.1.1.2.1, hk_.1.1.1.2.2.1, hk_.1.1.1.2.2.2.1, hk_.1.1.1.2.2.2.2, hk_.1.1.2, hk_.1.2⟩)); have n2_ := Aside0.mk (Kd.R_mono (ok' := fun k_ => OB_ k_ v113 ∧ OB_ k_ (.slice Ao40 t121.length co40) ∧ OB_ k_ (.slice Ao28 t109.length co28) ∧ OB_ k_ (.slice Ao34 t117.length co34) ∧ OB_ k_ (.slice Ao43 t124.length co43) ∧ OB_ k_ (.slice Ao92 t134.length co92) ∧ OB_ k_ (.slice Ao95 t138.length co95)) (Kd.R_keptB (HO_14.out) hkp (fun k_ hk_ hs_ => (hk_.1.1.2.2.2.1) hs_)) (fun k_ hk_ => ⟨hk_.1.1.1.1, hk_.1.1.1.2.1, hk_.1.1.1.2.2.1, hk_.1.1.1.2.2.2.1, hk_.1.1.1.2.2.2.2, hk_.1.1.2, hk_.1.2⟩)); have n3_ := Aside0.mk (Kd.R_mono (ok' := fun k_ => OB_ k_ v113 ∧ OB_ k_ (.slice Ao40 t121.length co40) ∧ OB_ k_ v128 ∧ OB_ k_ (.slice Ao34 t117.length co34) ∧ OB_ k_ (.slice Ao43 t124.length co43) ∧ OB_ k_ (.slice Ao92 t134.length co92) ∧ OB_ k_ (.slice Ao95 t138.length co95)) (Kd.R_keptB (HO_117000.out) hkp (fun k_ hk_ hs_ => (hk_.1.1.2.2.2.1) hs_)) (fun k_ hk_ => ⟨hk_.1.1.1.1, hk_.1.1.1.2.1, hk_.1.1.1.2.2.1, hk_.1.1.1.2.2.2.1, hk_.1.1.1.2.2.2.2, hk_.1.1.2, hk_.1.2⟩)); have n4_ := Aside0.mk (Kd.R_reok rfl hy0 (fun k_ e_ => HO_121000.out.1 k_ e_)); have n5_ := Aside0.mk (Kd.R_mono (ok' := fun k_ => OB_ k_ v113 ∧ OB_ k_ (.slice Ao40 t121.length co40) ∧ OB_ k_ v128 ∧ OB_ k_ (.slice Ao28 t109.length co28) ∧ OB_ k_ (.slice Ao34 t117.length co34) ∧ OB_ k_ (.slice Ao92 t134.length co92) ∧ OB_ k_ (.slice Ao95 t138.length co95)) (Kd.R_keptB (HO_132000.out) hkp (fun k_ hk_ hs_ => (hk_.1.1.2.2.2.2) hs_)) (fun k_ hk_ => ⟨hk_.1.1.1.1, hk_.1.1.1.2.1, hk_.1.1.1.2.2.1, hk_.1.1.1.2.2.2.1, hk_.1.1.1.2.2.2.2, hk_.1.1.2, hk_.1.2⟩)); have n6_ := Aside0.mk (blk_kept (bb_ BK101.out) hkp (fun hs_ => (fun e_ => (Kd.R_ne HO_121000.out BK101.out (by decide)) e_) hs_)); have n7_ := Aside0.mk (blk_kept (bb_ BK116.out) hkp (fun hs_ => (fun e_ => (Kd.R_ne HO_121000.out BK116.out (by decide)) e_) hs_)); have n8_ := Aside0.mk (blk_kept (bb_ BK120.out) hkp (fun hs_ => (fun e_ => (Kd.R_ne HO_121000.out BK120.out (by decide)) e_) hs_)); have n9_ := Aside0.mk (blk_kept (bb_ BK131.out) hkp (fun hs_ => (fun e_ => (Kd.R_ne HO_121000.out BK131.out (by decide)) e_) hs_)); have n10_ := Aside0.mk (Kd.R_mono (ok' := fun k_ => OB_ k_ v113 ∧ OB_ k_ (.slice Ao40 t121.length co40) ∧ OB_ k_ v128 ∧ OB_ k_ (.slice Ao28 t109.length co28) ∧ OB_ k_ (.slice Ao34 t117.length co34) ∧ OB_ k_ (.slice Ao43 t124.length co43) ∧ OB_ k_ (.slice Ao95 t138.length co95)) (Kd.R_keptB (HO136.out) hkp (fun k_ hk_ hs_ => (hk_.1.1.2) hs_)) (fun k_ hk_ => ⟨hk_.1.1.1.1.1.1.1.2, hk_.1.1.1.1.1.1.2, hk_.1.1.1.1.1.2, hk_.1.1.1.1.2, hk_.1.1.1.2, hk_.1.1.2, hk_.1.2⟩)); have n11_ := Aside0.mk (Kd.R_mono (ok' := fun k_ => OB_ k_ v113 ∧ OB_ k_ (.slice Ao40 t121.length co40) ∧ OB_ k_ v128 ∧ OB_ k_ (.slice Ao28 t109.length co28) ∧ OB_ k_ (.slice Ao34 t117.length co34) ∧ OB_ k_ (.slice Ao43 t124.length co43) ∧ OB_ k_ (.slice Ao92 t134.length co92)) (Kd.R_keptB (HO140.out) hkp (fun k_ hk_ hs_ => (hk_.1.1.2) hs_)) (fun k_ hk_ => ⟨hk_.1.1.1.1.1.1.1.2, hk_.1.1.1.1.1.1.2, hk_.1.1.1.1.1.2, hk_.1.1.1.1.2, hk_.1.1.1.2, hk_.1.1.2, hk_.1.2⟩)); have n12_ := Aside0.mk (hb); clear HO_9 HO_12 HO_14 HO_117000 HO_121000 HO_132000 BK101 BK116 BK120 BK131 HO136 HO140 HB; have HO_9 := n0_; have HO_12 := n1_; have HO_14 := n2_; have HO_117000 := n3_; have HO_121000 := n4_; have HO_132000 := n5_; have BK101 := n6_; have BK116 := n7_; have BK120 := n8_; have BK131 := n9_; have HO136 := n10_; have HO140 := n11_; have HB := n12_; clear n0_ n1_ n2_ n3_ n4_ n5_ n6_ n7_ n8_ n9_ n10_ n11_ n12_; (try clear hb); (try clear hkp); (try clear hy0)) | ((with_reducible refine gate_callee (f := 17) rfl ?_); refine goesL_ (some 82) rfl rfl Try.func17 (by kernel_rfl) rfl #[.slice Ao40 t121.length co40, .int .i64 t142] rfl (by (try simp only [List.map_toArray, List.map_cons, List.map_nil]); first | done | rfl | (simp only [List.length_drop, List.length_take]; rfl)) ?_; (with_reducible refine (laws_markInt64S.calls kj16 (fun k_ => some k_ = (.slice Ao40 t121.length co40 : Value).ownBlock) (.slice Ao40 t121.length co40) t121 t142 t144 t145 w _ ?side1 ?side2 A88.out).mono ?_); (case side1 => repeat (first | (with_reducible first | exact HB.out | apply below_alloc | apply pw_below_drewN | apply below_drew1 | refine below_set ?_ GE101.out | refine below_set ?_ GE116.out | refine below_set ?_ GE120.out | refine below_set ?_ GE131.out) | exact HB.out)); (case side2 => exact Kd.R_tight rfl HO_12.out); rintro e w101 ⟨rfl, hy0, hb, hkp⟩; refine ⟨_, rfl, ?_⟩; have n0_ := Aside0.mk (Kd.R_mono (ok' := fun k_ => OB_ k_ (.slice Ao40 t121.length co40) ∧ OB_ k_ v128 ∧ OB_ k_ (.slice Ao28 t109.length co28) ∧ OB_ k_ (.slice Ao34 t117.length co34) ∧ OB_ k_ (.slice Ao43 t124.length co43) ∧ OB_ k_ (.slice Ao92 t134.length co92) ∧ OB_ k_ (.slice Ao95 t138.length co95)) (Kd.R_keptB (HO_9.out) hkp (fun k_ hk_ hs_ => (hk_.1) hs_)) (fun k_ hk_ => ⟨hk_.1.1, hk_.1.2.1, hk_.1.2.2.1, hk_.1.2.2.2.1, hk_.1.2.2.2.2.1, hk_.1.2.2.2.2.2.1, hk_.1.2.2.2.2.2.2⟩)); have n1_ := Aside0.mk (Kd.R_reok rfl hy0 (fun k_ e_ => HO_12.out.1 k_ e_)); have n2_ := Aside0.mk (Kd.R_mono (ok' := fun k_ => OB_ k_ v113 ∧ OB_ k_ (.slice Ao40 t121.length co40) ∧ OB_ k_ (.slice Ao28 t109.length co28) ∧ OB_ k_ (.slice Ao34 t117.length co34) ∧ OB_ k_ (.slice Ao43 t124.length co43) ∧ OB_ k_ (.slice Ao92 t134.length co92) ∧ OB_ k_ (.slice Ao95 t138.length co95)) (Kd.R_keptB (HO_14.out) hkp (fun k_ hk_ hs_ => (hk_.2.1) hs_)) (fun k_ hk_ => ⟨hk_.1.1, hk_.1.2.1, hk_.1.2.2.1, hk_.1.2.2.2.1, hk_.1.2.2.2.2.1, hk_.1.2.2.2.2.2.1, hk_.1.2.2.2.2.2.2⟩)); have n3_ := Aside0.mk (Kd.R_mono (ok' := fun k_ => OB_ k_ v113 ∧ OB_ k_ (.slice Ao40 t121.length co40) ∧ OB_ k_ v128 ∧ OB_ k_ (.slice Ao34 t117.length co34) ∧ OB_ k_ (.slice Ao43 t124.length co43) ∧ OB_ k_ (.slice Ao92 t134.length co92) ∧ OB_ k_ (.slice Ao95 t138.length co95)) (Kd.R_keptB (HO_117000.out) hkp (fun k_ hk_ hs_ => (hk_.2.1) hs_)) (fun k_ hk_ => ⟨hk_.1.1, hk_.1.2.1, hk_.1.2.2.1, hk_.1.2.2.2.1, hk_.1.2.2.2.2.1, hk_.1.2.2.2.2.2.1, hk_.1.2.2.2.2.2.2⟩)); have n4_ := Aside0.mk (Kd.R_mono (ok' := fun k_ => OB_ k_ v113 ∧ OB_ k_ (.slice Ao40 t121.length co40) ∧ OB_ k_ v128 ∧ OB_ k_ (.slice Ao28 t109.length co28) ∧ OB_ k_ (.slice Ao43 t124.length co43) ∧ OB_ k_ (.slice Ao92 t134.length co92) ∧ OB_ k_ (.slice Ao95 t138.length co95)) (Kd.R_keptB (HO_121000.out) hkp (fun k_ hk_ hs_ => (hk_.1.1.2.1) hs_)) (fun k_ hk_ => ⟨hk_.1.1.1.1, hk_.1.1.1.2.1, hk_.1.1.1.2.2.1, hk_.1.1.1.2.2.2.1, hk_.1.1.1.2.2.2.2, hk_.1.1.2, hk_.1.2⟩)); have n5_ := Aside0.mk (Kd.R_mono (ok' := fun k_ => OB_ k_ v113 ∧ OB_ k_ (.slice Ao40 t121.length co40) ∧ OB_ k_ v128 ∧ OB_ k_ (.slice Ao28 t109.length co28) ∧ OB_ k_ (.slice Ao34 t117.length co34) ∧ OB_ k_ (.slice Ao92 t134.length co92) ∧ OB_ k_ (.slice Ao95 t138.length co95)) (Kd.R_keptB (HO_132000.out) hkp (fun k_ hk_ hs_ => (hk_.2.1) hs_)) (fun k_ hk_ => ⟨hk_.1.1, hk_.1.2.1, hk_.1.2.2.1, hk_.1.2.2.2.1, hk_.1.2.2.2.2.1, hk_.1.2.2.2.2.2.1, hk_.1.2.2.2.2.2.2⟩)); have n6_ := Aside0.mk (blk_kept (bb_ BK101.out) hkp (fun hs_ => (fun e_ => (Kd.R_ne HO_12.out BK101.out (by decide)) e_) hs_)); have n7_ := Aside0.mk (blk_kept (bb_ BK116.out) hkp (fun hs_ => (fun e_ => (Kd.R_ne HO_12.out BK116.out (by decide)) e_) hs_)); have n8_ := Aside0.mk (blk_kept (bb_ BK120.out) hkp (fun hs_ => (fun e_ => (Kd.R_ne HO_12.out BK120.out (by decide)) e_) hs_)); have n9_ := Aside0.mk (blk_kept (bb_ BK131.out) hkp (fun hs_ => (fun e_ => (Kd.R_ne HO_12.out BK131.out (by decide)) e_) hs_)); have n10_ := Aside0.mk (Kd.R_mono (ok' := fun k_ => OB_ k_ v113 ∧ OB_ k_ (.slice Ao40 t121.length co40) ∧ OB_ k_ v128 ∧ OB_ k_ (.slice Ao28 t109.length co28) ∧ OB_ k_ (.slice Ao34 t117.length co34) ∧ OB_ k_ (.slice Ao43 t124.length co43) ∧ OB_ k_ (.slice Ao95 t138.length co95)) (Kd.R_keptB (HO136.out) hkp (fun k_ hk_ hs_ => (hk_.2.1) hs_)) (fun k_ hk_ => ⟨hk_.1.1, hk_.1.2.1, hk_.1.2.2.1, hk_.1.2.2.2.1, hk_.1.2.2.2.2.1, hk_.1.2.2.2.2.2.1, hk_.1.2.2.2.2.2.2⟩)); have n11_ := Aside0.mk (Kd.R_mono (ok' := fun k_ => OB_ k_ v113 ∧ OB_ k_ (.slice Ao40 t121.length co40) ∧ OB_ k_ v128 ∧ OB_ k_ (.slice Ao28 t109.length co28) ∧ OB_ k_ (.slice Ao34 t117.length co34) ∧ OB_ k_ (.slice Ao43 t124.length co43) ∧ OB_ k_ (.slice Ao92 t134.length co92)) (Kd.R_keptB (HO140.out) hkp (fun k_ hk_ hs_ => (hk_.2.1) hs_)) (fun k_ hk_ => ⟨hk_.1.1, hk_.1.2.1, hk_.1.2.2.1, hk_.1.2.2.2.1, hk_.1.2.2.2.2.1, hk_.1.2.2.2.2.2.1, hk_.1.2.2.2.2.2.2⟩)); have n12_ := Aside0.mk (hb); clear HO_9 HO_12 HO_14 HO_117000 HO_121000 HO_132000 BK101 BK116 BK120 BK131 HO136 HO140 HB; have HO_9 := n0_; have HO_12 := n1_; have HO_14 := n2_; have HO_117000 := n3_; have HO_121000 := n4_; have HO_132000 := n5_; have BK101 := n6_; have BK116 := n7_; have BK120 := n8_; have BK131 := n9_; have HO136 := n10_; have HO140 := n11_; have HB := n12_; clear n0_ n1_ n2_ n3_ n4_ n5_ n6_ n7_ n8_ n9_ n10_ n11_ n12_; (try clear hb); (try clear hkp); (try clear hy0)))
        (try simp only [Act.put, List.setIfInBounds_toArray, List.set_cons_zero, List.set_cons_succ])
        go_cut [101] (fun v101 wc => ∃ (kq : Nat) (x101_88 : Bool), v101 = .bool x101_88 ∧ Aside0 (laws_FnExactAddSumPlace.j1 kq l1 a2 t112 t115 t127 x101_88 l0_0 t109 t124 = some r) ∧ Aside0 (kq ≤ kj16) ∧ Aside0 (Kd.R (Kd.int .i64) 2 wc w.heap.size (fun k_ => OB_ k_ v128 ∧ OB_ k_ (.slice Ao28 t109.length co28) ∧ OB_ k_ (.slice Ao34 t117.length co34) ∧ OB_ k_ (.slice Ao43 t124.length co43)) v113 t112) ∧ Aside0 (Kd.R (Kd.int .i64) 2 wc w.heap.size (fun k_ => OB_ k_ v113 ∧ OB_ k_ (.slice Ao28 t109.length co28) ∧ OB_ k_ (.slice Ao34 t117.length co34) ∧ OB_ k_ (.slice Ao43 t124.length co43)) v128 t127) ∧ Aside0 (Kd.R (Kd.int .i64) 2 wc w.heap.size (fun k_ => OB_ k_ v113 ∧ OB_ k_ v128 ∧ OB_ k_ (.slice Ao34 t117.length co34) ∧ OB_ k_ (.slice Ao43 t124.length co43)) (.slice Ao28 t109.length co28) t109) ∧ Aside0 (Kd.R (Kd.int .i64) 2 wc w.heap.size (fun k_ => OB_ k_ v113 ∧ OB_ k_ v128 ∧ OB_ k_ (.slice Ao28 t109.length co28) ∧ OB_ k_ (.slice Ao43 t124.length co43)) (.slice Ao34 t117.length co34) t143) ∧ Aside0 (Kd.R (Kd.int .i64) 2 wc w.heap.size (fun k_ => OB_ k_ v113 ∧ OB_ k_ v128 ∧ OB_ k_ (.slice Ao28 t109.length co28) ∧ OB_ k_ (.slice Ao34 t117.length co34)) (.slice Ao43 t124.length co43) t124) ∧ Aside0 (wc.heap[gb101]? = some (.cells #[(.slice A0_0 l0_0.length c0_0)] 24 (0, 0))) ∧ Aside0 (wc.heap[gb116]? = some (.cells #[(.slice Ao28 t109.length co28)] 26 (0, 0))) ∧ Aside0 (wc.heap[gb120]? = some (.cells #[(.slice Ao34 t117.length co34)] 26 (0, 0))) ∧ Aside0 (wc.heap[gb131]? = some (.cells #[(.slice Ao43 t124.length co43)] 26 (0, 0))) ∧ Aside0 (Below w.heap.size w wc))
        case first =>
         have H := HC89.out
         clear HC89
         by_cases c102 : t144 < 0
         ·rw [if_pos c102] at H
          have c102b0 : decide (t144 < 0) = true := decide_eq_true c102
          clear c102
          (first | rw [c102b0] | (simp only [i64_w, i32_w]; rw [c102b0]) | skip)
          have H' := Aside0.mk H
          clear H
          go_wp2
          go_meet
          case rel => exact ⟨_, (true), (by first | rfl | (simp; done) | (simp [*]; done)), H', ⟨by have := HJ16.out; first | omega | exact Nat.le_refl _⟩, ⟨by (with_reducible repeat (first | apply Kd.R_alloc | apply Kd.R_drewN | apply Kd.R_drew)); exact Kd.R_mono HO_9.out (fun _ hk => by grind)⟩, ⟨by (with_reducible repeat (first | apply Kd.R_alloc | apply Kd.R_drewN | apply Kd.R_drew)); exact Kd.R_mono HO_14.out (fun _ hk => by grind)⟩, ⟨by (with_reducible repeat (first | apply Kd.R_alloc | apply Kd.R_drewN | apply Kd.R_drew)); exact Kd.R_mono HO_117000.out (fun _ hk => by grind)⟩, ⟨by (with_reducible repeat (first | apply Kd.R_alloc | apply Kd.R_drewN | apply Kd.R_drew)); exact Kd.R_mono HO_121000.out (fun _ hk => by grind)⟩, ⟨by (with_reducible repeat (first | apply Kd.R_alloc | apply Kd.R_drewN | apply Kd.R_drew)); exact Kd.R_mono HO_132000.out (fun _ hk => by grind)⟩, ⟨by (with_reducible repeat (first | refine blk_drewN ?_ _ | refine blk_drew ?_ | refine blk_alloc ?_ _)); exact BK101.out⟩, ⟨by (with_reducible repeat (first | refine blk_drewN ?_ _ | refine blk_drew ?_ | refine blk_alloc ?_ _)); exact BK116.out⟩, ⟨by (with_reducible repeat (first | refine blk_drewN ?_ _ | refine blk_drew ?_ | refine blk_alloc ?_ _)); exact BK120.out⟩, ⟨by (with_reducible repeat (first | refine blk_drewN ?_ _ | refine blk_drew ?_ | refine blk_alloc ?_ _)); exact BK131.out⟩, ⟨gb_ HB.out⟩⟩
         ·rw [if_neg c102] at H
          have c102b0 : decide (t144 < 0) = false := decide_eq_false c102
          clear c102
          (first | rw [c102b0] | (simp only [i64_w, i32_w]; rw [c102b0]) | skip)
          replace H := Option.bind_eq_some_iff.mp H
          obtain ⟨t146, A1030, H⟩ := H
          replace H : (if t146 = true then ((laws_eqInt64S.f kj16 t127 t112).bind fun t147 => (if t147 = true then (laws_FnExactAddSumPlace.j1 kj16 l1 a2 t112 t115 t127 (t130 != t115) l0_0 t109 t124) else (laws_FnExactAddSumPlace.j1 kj16 l1 a2 t112 t115 t127 true l0_0 t109 t124))) else (laws_FnExactAddSumPlace.j1 kj16 l1 a2 t112 t115 t127 true l0_0 t109 t124)) = some r := H
          have A103 := Aside0.mk A1030
          clear A1030
          by_cases c104 : t146 = true
          ·subst c104
           have H1 : ((laws_eqInt64S.f kj16 t127 t112).bind fun t147 => (if t147 = true then (laws_FnExactAddSumPlace.j1 kj16 l1 a2 t112 t115 t127 (t130 != t115) l0_0 t109 t124) else (laws_FnExactAddSumPlace.j1 kj16 l1 a2 t112 t115 t127 true l0_0 t109 t124))) = some r := by rw [if_pos rfl] at H; exact H
           clear H
           have H := H1
           clear H1
           replace H := Option.bind_eq_some_iff.mp H
           obtain ⟨t147, A1050, H⟩ := H
           replace H : (if t147 = true then (laws_FnExactAddSumPlace.j1 kj16 l1 a2 t112 t115 t127 (t130 != t115) l0_0 t109 t124) else (laws_FnExactAddSumPlace.j1 kj16 l1 a2 t112 t115 t127 true l0_0 t109 t124)) = some r := H
           have A105 := Aside0.mk A1050
           clear A1050
           by_cases c106 : t147 = true
           ·subst c106
            have H1 : (laws_FnExactAddSumPlace.j1 kj16 l1 a2 t112 t115 t127 (t130 != t115) l0_0 t109 t124) = some r := by rw [if_pos rfl] at H; exact H
            clear H
            have H := H1
            clear H1
            have H' := Aside0.mk H
            clear H
            have hnb107 := NB131_101.out
            have hnc107 := NB101_131.out
            have hnb108 := NB131_116.out
            have hnc108 := NB116_131.out
            have hnb109 := NB131_120.out
            have hnc109 := NB120_131.out
            have hcz110_0 : w101.cell? ⟨gb131, 0, none⟩ = some (.slice Ao43 t124.length co43) := (blk_cell BK131.out 0).trans rfl
            have hfz110_0 := blk_frozen BK131.out 0
            have hnb111 := NB116_101.out
            have hnc111 := NB101_116.out
            have hnb112 := NB116_120.out
            have hnc112 := NB120_116.out
            have hcz113_0 : w101.cell? ⟨gb116, 0, none⟩ = some (.slice Ao28 t109.length co28) := (blk_cell BK116.out 0).trans rfl
            have hfz113_0 := blk_frozen BK116.out 0
            go_wp2_with (first | (go_at_call 14; (with_reducible refine (laws_eqSpace.calls kj16 _ _ t124 _ _ t109 true _ ?side1 ?side2 ?side3 ?side4 A103.out).mono ?_); (case side1 => repeat (first | exact (Kd.R_reads' HO_132000.out).2.2 | (with_reducible refine Kd.C_alloc ?_ _) | (with_reducible refine Kd.C_drewN ?_ _) | (with_reducible refine Kd.C_drew ?_))); (case side2 => exact (Kd.R_reads' HO_132000.out).2.1); (case side3 => repeat (first | exact (Kd.R_reads' HO_117000.out).2.2 | (with_reducible refine Kd.C_alloc ?_ _) | (with_reducible refine Kd.C_drewN ?_ _) | (with_reducible refine Kd.C_drew ?_))); (case side4 => exact (Kd.R_reads' HO_117000.out).2.1); rintro e w114 ⟨rfl, hb⟩; have n0_ := Aside0.mk (Kd.R_below (rb_ HO_9.out) hb); have n1_ := Aside0.mk (Kd.R_below (rb_ HO_12.out) hb); have n2_ := Aside0.mk (Kd.R_below (rb_ HO_14.out) hb); have n3_ := Aside0.mk (Kd.R_below (rb_ HO_117000.out) hb); have n4_ := Aside0.mk (Kd.R_below (rb_ HO_121000.out) hb); have n5_ := Aside0.mk (Kd.R_below (rb_ HO_132000.out) hb); have n6_ := Aside0.mk (Kd.R_below (rb_ HO136.out) hb); have n7_ := Aside0.mk (Kd.R_below (rb_ HO140.out) hb); have n8_ := Aside0.mk (blk_below (g := gb101) (o := .cells #[.slice A0_0 l0_0.length c0_0] 24 (0, 0)) (bb_ BK101.out) hb); have n9_ := Aside0.mk (blk_below (g := gb116) (o := .cells #[.slice Ao28 t109.length co28] 26 (0, 0)) (bb_ BK116.out) hb); have n10_ := Aside0.mk (blk_below (g := gb120) (o := .cells #[.slice Ao34 t117.length co34] 26 (0, 0)) (bb_ BK120.out) hb); have n11_ := Aside0.mk (blk_below (g := gb131) (o := .cells #[.slice Ao43 t124.length co43] 26 (0, 0)) (bb_ BK131.out) hb); have n12_ := Aside0.mk (below_step (gb_ HB.out) hb); clear HO_9 HO_12 HO_14 HO_117000 HO_121000 HO_132000 HO136 HO140 BK101 BK116 BK120 BK131 HB; have HO_9 := n0_; have HO_12 := n1_; have HO_14 := n2_; have HO_117000 := n3_; have HO_121000 := n4_; have HO_132000 := n5_; have HO136 := n6_; have HO140 := n7_; have BK101 := n8_; have BK116 := n9_; have BK120 := n10_; have BK131 := n11_; have HB := n12_; clear n0_ n1_ n2_ n3_ n4_ n5_ n6_ n7_ n8_ n9_ n10_ n11_ n12_; (try clear hb); (try clear hb2); (try clear hk); (try clear hi); obtain ⟨Ao115, co115, eo115⟩ := Kd.R_slice HO_14.out; subst eo115; obtain ⟨Ao116, co116, eo116⟩ := Kd.R_slice HO_9.out; subst eo116) | (go_at_call 15; (with_reducible refine (laws_eqInt64S.calls kj16 _ _ t127 _ _ t112 true _ ?side1 ?side2 ?side3 ?side4 A105.out).mono ?_); (case side1 => repeat (first | exact (Kd.R_reads' HO_14.out).2.2 | (with_reducible refine Kd.C_alloc ?_ _) | (with_reducible refine Kd.C_drewN ?_ _) | (with_reducible refine Kd.C_drew ?_))); (case side2 => exact (Kd.R_reads' HO_14.out).2.1); (case side3 => repeat (first | exact (Kd.R_reads' HO_9.out).2.2 | (with_reducible refine Kd.C_alloc ?_ _) | (with_reducible refine Kd.C_drewN ?_ _) | (with_reducible refine Kd.C_drew ?_))); (case side4 => exact (Kd.R_reads' HO_9.out).2.1); rintro e w' ⟨rfl, ⟨nd, rfl⟩⟩))
            go_meet
            case rel => exact ⟨_, ((t130 != t115)), (by first | rfl | (simp; done) | (simp [*]; done)), H', ⟨by have := HJ16.out; first | omega | exact Nat.le_refl _⟩, ⟨by (with_reducible repeat (first | apply Kd.R_alloc | apply Kd.R_drewN | apply Kd.R_drew)); exact Kd.R_mono HO_9.out (fun _ hk => by grind)⟩, ⟨by (with_reducible repeat (first | apply Kd.R_alloc | apply Kd.R_drewN | apply Kd.R_drew)); exact Kd.R_mono HO_14.out (fun _ hk => by grind)⟩, ⟨by (with_reducible repeat (first | apply Kd.R_alloc | apply Kd.R_drewN | apply Kd.R_drew)); exact Kd.R_mono HO_117000.out (fun _ hk => by grind)⟩, ⟨by (with_reducible repeat (first | apply Kd.R_alloc | apply Kd.R_drewN | apply Kd.R_drew)); exact Kd.R_mono HO_121000.out (fun _ hk => by grind)⟩, ⟨by (with_reducible repeat (first | apply Kd.R_alloc | apply Kd.R_drewN | apply Kd.R_drew)); exact Kd.R_mono HO_132000.out (fun _ hk => by grind)⟩, ⟨by (with_reducible repeat (first | refine blk_drewN ?_ _ | refine blk_drew ?_ | refine blk_alloc ?_ _)); exact BK101.out⟩, ⟨by (with_reducible repeat (first | refine blk_drewN ?_ _ | refine blk_drew ?_ | refine blk_alloc ?_ _)); exact BK116.out⟩, ⟨by (with_reducible repeat (first | refine blk_drewN ?_ _ | refine blk_drew ?_ | refine blk_alloc ?_ _)); exact BK120.out⟩, ⟨by (with_reducible repeat (first | refine blk_drewN ?_ _ | refine blk_drew ?_ | refine blk_alloc ?_ _)); exact BK131.out⟩, ⟨gb_ HB.out⟩⟩
           ·replace c106 := Bool.eq_false_iff.mpr c106
            subst c106
            have H1 : (laws_FnExactAddSumPlace.j1 kj16 l1 a2 t112 t115 t127 true l0_0 t109 t124) = some r := by rw [if_neg (show ¬ (false = true) by decide)] at H; exact H
            clear H
            have H := H1
            clear H1
            have H' := Aside0.mk H
            clear H
            have hnb117 := NB131_101.out
            have hnc117 := NB101_131.out
            have hnb118 := NB131_116.out
            have hnc118 := NB116_131.out
            have hnb119 := NB131_120.out
            have hnc119 := NB120_131.out
            have hcz120_0 : w101.cell? ⟨gb131, 0, none⟩ = some (.slice Ao43 t124.length co43) := (blk_cell BK131.out 0).trans rfl
            have hfz120_0 := blk_frozen BK131.out 0
            have hnb121 := NB116_101.out
            have hnc121 := NB101_116.out
            have hnb122 := NB116_120.out
            have hnc122 := NB120_116.out
            have hcz123_0 : w101.cell? ⟨gb116, 0, none⟩ = some (.slice Ao28 t109.length co28) := (blk_cell BK116.out 0).trans rfl
            have hfz123_0 := blk_frozen BK116.out 0
            go_wp2_with (first | (go_at_call 14; (with_reducible refine (laws_eqSpace.calls kj16 _ _ t124 _ _ t109 true _ ?side1 ?side2 ?side3 ?side4 A103.out).mono ?_); (case side1 => repeat (first | exact (Kd.R_reads' HO_132000.out).2.2 | (with_reducible refine Kd.C_alloc ?_ _) | (with_reducible refine Kd.C_drewN ?_ _) | (with_reducible refine Kd.C_drew ?_))); (case side2 => exact (Kd.R_reads' HO_132000.out).2.1); (case side3 => repeat (first | exact (Kd.R_reads' HO_117000.out).2.2 | (with_reducible refine Kd.C_alloc ?_ _) | (with_reducible refine Kd.C_drewN ?_ _) | (with_reducible refine Kd.C_drew ?_))); (case side4 => exact (Kd.R_reads' HO_117000.out).2.1); rintro e w124 ⟨rfl, hb⟩; have n0_ := Aside0.mk (Kd.R_below (rb_ HO_9.out) hb); have n1_ := Aside0.mk (Kd.R_below (rb_ HO_12.out) hb); have n2_ := Aside0.mk (Kd.R_below (rb_ HO_14.out) hb); have n3_ := Aside0.mk (Kd.R_below (rb_ HO_117000.out) hb); have n4_ := Aside0.mk (Kd.R_below (rb_ HO_121000.out) hb); have n5_ := Aside0.mk (Kd.R_below (rb_ HO_132000.out) hb); have n6_ := Aside0.mk (Kd.R_below (rb_ HO136.out) hb); have n7_ := Aside0.mk (Kd.R_below (rb_ HO140.out) hb); have n8_ := Aside0.mk (blk_below (g := gb101) (o := .cells #[.slice A0_0 l0_0.length c0_0] 24 (0, 0)) (bb_ BK101.out) hb); have n9_ := Aside0.mk (blk_below (g := gb116) (o := .cells #[.slice Ao28 t109.length co28] 26 (0, 0)) (bb_ BK116.out) hb); have n10_ := Aside0.mk (blk_below (g := gb120) (o := .cells #[.slice Ao34 t117.length co34] 26 (0, 0)) (bb_ BK120.out) hb); have n11_ := Aside0.mk (blk_below (g := gb131) (o := .cells #[.slice Ao43 t124.length co43] 26 (0, 0)) (bb_ BK131.out) hb); have n12_ := Aside0.mk (below_step (gb_ HB.out) hb); clear HO_9 HO_12 HO_14 HO_117000 HO_121000 HO_132000 HO136 HO140 BK101 BK116 BK120 BK131 HB; have HO_9 := n0_; have HO_12 := n1_; have HO_14 := n2_; have HO_117000 := n3_; have HO_121000 := n4_; have HO_132000 := n5_; have HO136 := n6_; have HO140 := n7_; have BK101 := n8_; have BK116 := n9_; have BK120 := n10_; have BK131 := n11_; have HB := n12_; clear n0_ n1_ n2_ n3_ n4_ n5_ n6_ n7_ n8_ n9_ n10_ n11_ n12_; (try clear hb); (try clear hb2); (try clear hk); (try clear hi); obtain ⟨Ao125, co125, eo125⟩ := Kd.R_slice HO_14.out; subst eo125; obtain ⟨Ao126, co126, eo126⟩ := Kd.R_slice HO_9.out; subst eo126) | (go_at_call 15; (with_reducible refine (laws_eqInt64S.calls kj16 _ _ t127 _ _ t112 false _ ?side1 ?side2 ?side3 ?side4 A105.out).mono ?_); (case side1 => repeat (first | exact (Kd.R_reads' HO_14.out).2.2 | (with_reducible refine Kd.C_alloc ?_ _) | (with_reducible refine Kd.C_drewN ?_ _) | (with_reducible refine Kd.C_drew ?_))); (case side2 => exact (Kd.R_reads' HO_14.out).2.1); (case side3 => repeat (first | exact (Kd.R_reads' HO_9.out).2.2 | (with_reducible refine Kd.C_alloc ?_ _) | (with_reducible refine Kd.C_drewN ?_ _) | (with_reducible refine Kd.C_drew ?_))); (case side4 => exact (Kd.R_reads' HO_9.out).2.1); rintro e w' ⟨rfl, ⟨nd, rfl⟩⟩))
            go_meet
            case rel => exact ⟨_, (true), (by first | rfl | (simp; done) | (simp [*]; done)), H', ⟨by have := HJ16.out; first | omega | exact Nat.le_refl _⟩, ⟨by (with_reducible repeat (first | apply Kd.R_alloc | apply Kd.R_drewN | apply Kd.R_drew)); exact Kd.R_mono HO_9.out (fun _ hk => by grind)⟩, ⟨by (with_reducible repeat (first | apply Kd.R_alloc | apply Kd.R_drewN | apply Kd.R_drew)); exact Kd.R_mono HO_14.out (fun _ hk => by grind)⟩, ⟨by (with_reducible repeat (first | apply Kd.R_alloc | apply Kd.R_drewN | apply Kd.R_drew)); exact Kd.R_mono HO_117000.out (fun _ hk => by grind)⟩, ⟨by (with_reducible repeat (first | apply Kd.R_alloc | apply Kd.R_drewN | apply Kd.R_drew)); exact Kd.R_mono HO_121000.out (fun _ hk => by grind)⟩, ⟨by (with_reducible repeat (first | apply Kd.R_alloc | apply Kd.R_drewN | apply Kd.R_drew)); exact Kd.R_mono HO_132000.out (fun _ hk => by grind)⟩, ⟨by (with_reducible repeat (first | refine blk_drewN ?_ _ | refine blk_drew ?_ | refine blk_alloc ?_ _)); exact BK101.out⟩, ⟨by (with_reducible repeat (first | refine blk_drewN ?_ _ | refine blk_drew ?_ | refine blk_alloc ?_ _)); exact BK116.out⟩, ⟨by (with_reducible repeat (first | refine blk_drewN ?_ _ | refine blk_drew ?_ | refine blk_alloc ?_ _)); exact BK120.out⟩, ⟨by (with_reducible repeat (first | refine blk_drewN ?_ _ | refine blk_drew ?_ | refine blk_alloc ?_ _)); exact BK131.out⟩, ⟨gb_ HB.out⟩⟩
          ·replace c104 := Bool.eq_false_iff.mpr c104
           subst c104
           have H1 : (laws_FnExactAddSumPlace.j1 kj16 l1 a2 t112 t115 t127 true l0_0 t109 t124) = some r := by rw [if_neg (show ¬ (false = true) by decide)] at H; exact H
           clear H
           have H := H1
           clear H1
           have H' := Aside0.mk H
           clear H
           have hnb127 := NB131_101.out
           have hnc127 := NB101_131.out
           have hnb128 := NB131_116.out
           have hnc128 := NB116_131.out
           have hnb129 := NB131_120.out
           have hnc129 := NB120_131.out
           have hcz130_0 : w101.cell? ⟨gb131, 0, none⟩ = some (.slice Ao43 t124.length co43) := (blk_cell BK131.out 0).trans rfl
           have hfz130_0 := blk_frozen BK131.out 0
           have hnb131 := NB116_101.out
           have hnc131 := NB101_116.out
           have hnb132 := NB116_120.out
           have hnc132 := NB120_116.out
           have hcz133_0 : w101.cell? ⟨gb116, 0, none⟩ = some (.slice Ao28 t109.length co28) := (blk_cell BK116.out 0).trans rfl
           have hfz133_0 := blk_frozen BK116.out 0
           go_wp2_with (first | (go_at_call 14; (with_reducible refine (laws_eqSpace.calls kj16 _ _ t124 _ _ t109 false _ ?side1 ?side2 ?side3 ?side4 A103.out).mono ?_); (case side1 => repeat (first | exact (Kd.R_reads' HO_132000.out).2.2 | (with_reducible refine Kd.C_alloc ?_ _) | (with_reducible refine Kd.C_drewN ?_ _) | (with_reducible refine Kd.C_drew ?_))); (case side2 => exact (Kd.R_reads' HO_132000.out).2.1); (case side3 => repeat (first | exact (Kd.R_reads' HO_117000.out).2.2 | (with_reducible refine Kd.C_alloc ?_ _) | (with_reducible refine Kd.C_drewN ?_ _) | (with_reducible refine Kd.C_drew ?_))); (case side4 => exact (Kd.R_reads' HO_117000.out).2.1); rintro e w134 ⟨rfl, hb⟩; have n0_ := Aside0.mk (Kd.R_below (rb_ HO_9.out) hb); have n1_ := Aside0.mk (Kd.R_below (rb_ HO_12.out) hb); have n2_ := Aside0.mk (Kd.R_below (rb_ HO_14.out) hb); have n3_ := Aside0.mk (Kd.R_below (rb_ HO_117000.out) hb); have n4_ := Aside0.mk (Kd.R_below (rb_ HO_121000.out) hb); have n5_ := Aside0.mk (Kd.R_below (rb_ HO_132000.out) hb); have n6_ := Aside0.mk (Kd.R_below (rb_ HO136.out) hb); have n7_ := Aside0.mk (Kd.R_below (rb_ HO140.out) hb); have n8_ := Aside0.mk (blk_below (g := gb101) (o := .cells #[.slice A0_0 l0_0.length c0_0] 24 (0, 0)) (bb_ BK101.out) hb); have n9_ := Aside0.mk (blk_below (g := gb116) (o := .cells #[.slice Ao28 t109.length co28] 26 (0, 0)) (bb_ BK116.out) hb); have n10_ := Aside0.mk (blk_below (g := gb120) (o := .cells #[.slice Ao34 t117.length co34] 26 (0, 0)) (bb_ BK120.out) hb); have n11_ := Aside0.mk (blk_below (g := gb131) (o := .cells #[.slice Ao43 t124.length co43] 26 (0, 0)) (bb_ BK131.out) hb); have n12_ := Aside0.mk (below_step (gb_ HB.out) hb); clear HO_9 HO_12 HO_14 HO_117000 HO_121000 HO_132000 HO136 HO140 BK101 BK116 BK120 BK131 HB; have HO_9 := n0_; have HO_12 := n1_; have HO_14 := n2_; have HO_117000 := n3_; have HO_121000 := n4_; have HO_132000 := n5_; have HO136 := n6_; have HO140 := n7_; have BK101 := n8_; have BK116 := n9_; have BK120 := n10_; have BK131 := n11_; have HB := n12_; clear n0_ n1_ n2_ n3_ n4_ n5_ n6_ n7_ n8_ n9_ n10_ n11_ n12_; (try clear hb); (try clear hb2); (try clear hk); (try clear hi)))
           go_meet
           case rel => exact ⟨_, (true), (by first | rfl | (simp; done) | (simp [*]; done)), H', ⟨by have := HJ16.out; first | omega | exact Nat.le_refl _⟩, ⟨by (with_reducible repeat (first | apply Kd.R_alloc | apply Kd.R_drewN | apply Kd.R_drew)); exact Kd.R_mono HO_9.out (fun _ hk => by grind)⟩, ⟨by (with_reducible repeat (first | apply Kd.R_alloc | apply Kd.R_drewN | apply Kd.R_drew)); exact Kd.R_mono HO_14.out (fun _ hk => by grind)⟩, ⟨by (with_reducible repeat (first | apply Kd.R_alloc | apply Kd.R_drewN | apply Kd.R_drew)); exact Kd.R_mono HO_117000.out (fun _ hk => by grind)⟩, ⟨by (with_reducible repeat (first | apply Kd.R_alloc | apply Kd.R_drewN | apply Kd.R_drew)); exact Kd.R_mono HO_121000.out (fun _ hk => by grind)⟩, ⟨by (with_reducible repeat (first | apply Kd.R_alloc | apply Kd.R_drewN | apply Kd.R_drew)); exact Kd.R_mono HO_132000.out (fun _ hk => by grind)⟩, ⟨by (with_reducible repeat (first | refine blk_drewN ?_ _ | refine blk_drew ?_ | refine blk_alloc ?_ _)); exact BK101.out⟩, ⟨by (with_reducible repeat (first | refine blk_drewN ?_ _ | refine blk_drew ?_ | refine blk_alloc ?_ _)); exact BK116.out⟩, ⟨by (with_reducible repeat (first | refine blk_drewN ?_ _ | refine blk_drew ?_ | refine blk_alloc ?_ _)); exact BK120.out⟩, ⟨by (with_reducible repeat (first | refine blk_drewN ?_ _ | refine blk_drew ?_ | refine blk_alloc ?_ _)); exact BK131.out⟩, ⟨gb_ HB.out⟩⟩
        case rest =>
         clear HC89
         try clear c1
         try clear c2
         try clear p2
         try clear c3
         try clear c4
         try clear c4b0
         try clear c4b1
         try clear c5
         try clear c6
         try clear c7
         try clear c7b0
         try clear c8
         try clear c9
         try clear c10
         try clear c11
         try clear c12
         try clear c13
         try clear c14
         try clear c15
         try clear c16
         try clear c17
         try clear c20
         try clear c21
         try clear c29
         try clear c35
         try clear c36
         try clear c44
         try clear c45
         try clear c46
         try clear c49
         try clear c51
         try clear c52
         try clear c53
         try clear c54
         try clear c56
         try clear c57
         try clear c62
         try clear c63
         try clear c64
         try clear c66
         try clear c67
         try clear c72
         try clear c73
         try clear c74
         try clear c76
         try clear c77
         try clear c80
         try clear c83
         try clear c86
         try clear c96
         try clear c97
         try clear c98
         try clear c102
         try clear c102b0
         try clear c104
         try clear c106
         try clear c107
         try clear c108
         try clear c109
         try clear c111
         try clear c112
         try clear c117
         try clear c118
         try clear c119
         try clear c121
         try clear c122
         try clear c127
         try clear c128
         try clear c129
         try clear c131
         try clear c132
         try clear hcz110_0
         try clear hcz113_0
         try clear hcz120_0
         try clear hcz123_0
         try clear hcz130_0
         try clear hcz133_0
         try clear hcz19_0
         try clear hcz21_0
         try clear hcz30_0
         try clear hcz31_0
         try clear hcz37_0
         try clear hcz39_0
         try clear hcz47_0
         try clear hcz55_0
         try clear hcz58_0
         try clear hcz65_0
         try clear hcz68_0
         try clear hcz75_0
         try clear hcz78_0
         try clear hcz99_0
         try clear hcz9_0
         try clear hfz110_0
         try clear hfz113_0
         try clear hfz120_0
         try clear hfz123_0
         try clear hfz130_0
         try clear hfz133_0
         try clear hfz19_0
         try clear hfz21_0
         try clear hfz30_0
         try clear hfz31_0
         try clear hfz37_0
         try clear hfz39_0
         try clear hfz47_0
         try clear hfz55_0
         try clear hfz58_0
         try clear hfz65_0
         try clear hfz68_0
         try clear hfz75_0
         try clear hfz78_0
         try clear hfz99_0
         try clear hfz9_0
         try clear p2
         obtain ⟨kq, x101_88, rfl, HA, HJ88, HO_9, HO_14, HO_117000, HO_121000, HO_132000, BK101, BK116, BK120, BK131, HB⟩ := hcut
         have hl121000_88 := (Kd.R_reads' HO_121000.out).1
         rw [hl121000_88] at HO_121000
         (try simp only [hl121000_88])
         (try simp only [hl121000_88] at BK101)
         (try simp only [hl121000_88] at BK116)
         (try simp only [hl121000_88] at BK120)
         (try simp only [hl121000_88] at BK131)
         (try simp only [hl121000_88] at HO_9)
         (try simp only [hl121000_88] at HO_14)
         (try simp only [hl121000_88] at HO_117000)
         (try simp only [hl121000_88] at HO_132000)
         cases kq with
         | zero => exact absurd HA.out (by simp [laws_FnExactAddSumPlace.j1])
         | succ kj88 =>
          have H := HA.out
          clear HA
          simp only [laws_FnExactAddSumPlace.j1] at H
          by_cases c135 : x101_88 = true
          ·subst c135
           have H1 : (some false) = some r := by rw [if_pos rfl] at H; exact H
           clear H
           have H := H1
           clear H1
           obtain rfl := Option.some.inj H
           go_wp2
           go_ret
           exact ⟨by first | rfl | (simp [errW_none, errW_some] <;> rfl) | (simp [*, errW_none, errW_some] <;> rfl), gb_ HB.out⟩
          ·replace c135 := Bool.eq_false_iff.mpr c135
           subst c135
           have H1 : ((laws_markSpace.f kj88 t124 1).bind fun bt148 => ((laws_markInt64S.f kj88 t127 bt148.1).bind fun bt150 => ((laws_heldSpace.f kj88 bt148.2 1).bind fun t152 => (if t152 < 0 then (some false) else ((laws_heldInt64S.f kj88 bt150.2 t152).bind fun t153 => (if t153 < 0 then (some false) else (if t153 = bt150.1 then ((laws_toSpace.f kj88 l0_0).bind fun t154 => ((laws_toInt64S.f kj88 l1).bind fun t157 => ((impl_AddSumPlace.f t154 t157 a2).bind fun bt160 => ((laws_eqSpace.f kj88 bt160.1 t109).bind fun t168 => (if t168 = true then ((laws_eqInt64S.f kj88 bt160.2.1 t112).bind fun t169 => (if t169 = true then (laws_FnExactAddSumPlace.j2 kj88 bt150.2 bt150.1 (bt160.2.2 != t115) bt148.2) else (laws_FnExactAddSumPlace.j2 kj88 bt150.2 bt150.1 true bt148.2))) else (laws_FnExactAddSumPlace.j2 kj88 bt150.2 bt150.1 true bt148.2)))))) else (some false)))))))) = some r := by rw [if_neg (show ¬ (false = true) by decide)] at H; exact H
           clear H
           have H := H1
           clear H1
           replace H := Option.bind_eq_some_iff.mp H
           obtain ⟨⟨t148, t149⟩, A1360, H⟩ := H
           replace H : ((laws_markInt64S.f kj88 t127 t148).bind fun bt150 => ((laws_heldSpace.f kj88 t149 1).bind fun t152 => (if t152 < 0 then (some false) else ((laws_heldInt64S.f kj88 bt150.2 t152).bind fun t153 => (if t153 < 0 then (some false) else (if t153 = bt150.1 then ((laws_toSpace.f kj88 l0_0).bind fun t154 => ((laws_toInt64S.f kj88 l1).bind fun t157 => ((impl_AddSumPlace.f t154 t157 a2).bind fun bt160 => ((laws_eqSpace.f kj88 bt160.1 t109).bind fun t168 => (if t168 = true then ((laws_eqInt64S.f kj88 bt160.2.1 t112).bind fun t169 => (if t169 = true then (laws_FnExactAddSumPlace.j2 kj88 bt150.2 bt150.1 (bt160.2.2 != t115) t149) else (laws_FnExactAddSumPlace.j2 kj88 bt150.2 bt150.1 true t149))) else (laws_FnExactAddSumPlace.j2 kj88 bt150.2 bt150.1 true t149)))))) else (some false))))))) = some r := H
           have A136 := Aside0.mk A1360
           clear A1360
           replace H := Option.bind_eq_some_iff.mp H
           obtain ⟨⟨t150, t151⟩, A1370, H⟩ := H
           replace H : ((laws_heldSpace.f kj88 t149 1).bind fun t152 => (if t152 < 0 then (some false) else ((laws_heldInt64S.f kj88 t151 t152).bind fun t153 => (if t153 < 0 then (some false) else (if t153 = t150 then ((laws_toSpace.f kj88 l0_0).bind fun t154 => ((laws_toInt64S.f kj88 l1).bind fun t157 => ((impl_AddSumPlace.f t154 t157 a2).bind fun bt160 => ((laws_eqSpace.f kj88 bt160.1 t109).bind fun t168 => (if t168 = true then ((laws_eqInt64S.f kj88 bt160.2.1 t112).bind fun t169 => (if t169 = true then (laws_FnExactAddSumPlace.j2 kj88 t151 t150 (bt160.2.2 != t115) t149) else (laws_FnExactAddSumPlace.j2 kj88 t151 t150 true t149))) else (laws_FnExactAddSumPlace.j2 kj88 t151 t150 true t149)))))) else (some false)))))) = some r := H
           have A137 := Aside0.mk A1370
           clear A1370
           replace H := Option.bind_eq_some_iff.mp H
           obtain ⟨t152, A1380, H⟩ := H
           replace H : (if t152 < 0 then (some false) else ((laws_heldInt64S.f kj88 t151 t152).bind fun t153 => (if t153 < 0 then (some false) else (if t153 = t150 then ((laws_toSpace.f kj88 l0_0).bind fun t154 => ((laws_toInt64S.f kj88 l1).bind fun t157 => ((impl_AddSumPlace.f t154 t157 a2).bind fun bt160 => ((laws_eqSpace.f kj88 bt160.1 t109).bind fun t168 => (if t168 = true then ((laws_eqInt64S.f kj88 bt160.2.1 t112).bind fun t169 => (if t169 = true then (laws_FnExactAddSumPlace.j2 kj88 t151 t150 (bt160.2.2 != t115) t149) else (laws_FnExactAddSumPlace.j2 kj88 t151 t150 true t149))) else (laws_FnExactAddSumPlace.j2 kj88 t151 t150 true t149)))))) else (some false))))) = some r := H
           have A138 := Aside0.mk A1380
           clear A1380
           by_cases c139 : t152 < 0
           ·rw [if_pos c139] at H
            have c139b0 : decide (t152 < 0) = true := decide_eq_true c139
            clear c139
            obtain rfl := Option.some.inj H
            have hnb140 := NB131_101.out
            have hnc140 := NB101_131.out
            have hnb141 := NB131_116.out
            have hnc141 := NB116_131.out
            have hnb142 := NB131_120.out
            have hnc142 := NB120_131.out
            have hcz143_0 : wc.cell? ⟨gb131, 0, none⟩ = some (.slice Ao43 t124.length co43) := (blk_cell BK131.out 0).trans rfl
            have hfz143_0 := blk_frozen BK131.out 0
            go_wp2_with (first | ((with_reducible refine gate_callee (f := 16) rfl ?_); refine goesL_ (some 104) rfl rfl Try.func16 (by kernel_rfl) rfl #[.agg #[.slice Ao43 t124.length co43], .int .i64 1] rfl (by (try simp only [List.map_toArray, List.map_cons, List.map_nil]); first | done | rfl | (simp only [List.length_drop, List.length_take]; rfl)) ?_; (with_reducible refine (laws_markSpace.calls kj88 (fun k_ => some k_ = (.slice Ao43 t124.length co43 : Value).ownBlock) (.slice Ao43 t124.length co43) t124 1 t148 t149 w _ ?side1 ?side2 A136.out).mono ?_); (case side1 => repeat (first | (with_reducible first | exact HB.out | apply below_alloc | apply pw_below_drewN | apply below_drew1 | refine below_set ?_ GE101.out | refine below_set ?_ GE116.out | refine below_set ?_ GE120.out | refine below_set ?_ GE131.out) | exact HB.out)); (case side2 => exact Kd.R_tight rfl HO_132000.out); rintro e w144 ⟨rfl, hy0, hb, hkp⟩; refine ⟨_, rfl, ?_⟩; have n0_ := Aside0.mk (Kd.R_mono (ok' := fun k_ => OB_ k_ v128 ∧ OB_ k_ (.slice Ao28 t109.length co28) ∧ OB_ k_ (.slice Ao34 t143.length co34) ∧ OB_ k_ (.slice Ao43 t124.length co43)) (Kd.R_keptB (HO_9.out) hkp (fun k_ hk_ hs_ => (hk_.2.2.2) hs_)) (fun k_ hk_ => ⟨hk_.1.1, hk_.1.2.1, hk_.1.2.2.1, hk_.1.2.2.2⟩)); have n1_ := Aside0.mk (Kd.R_mono (ok' := fun k_ => OB_ k_ v113 ∧ OB_ k_ (.slice Ao28 t109.length co28) ∧ OB_ k_ (.slice Ao34 t143.length co34) ∧ OB_ k_ (.slice Ao43 t124.length co43)) (Kd.R_keptB (HO_14.out) hkp (fun k_ hk_ hs_ => (hk_.2.2.2) hs_)) (fun k_ hk_ => ⟨hk_.1.1, hk_.1.2.1, hk_.1.2.2.1, hk_.1.2.2.2⟩)); have n2_ := Aside0.mk (Kd.R_mono (ok' := fun k_ => OB_ k_ v113 ∧ OB_ k_ v128 ∧ OB_ k_ (.slice Ao34 t143.length co34) ∧ OB_ k_ (.slice Ao43 t124.length co43)) (Kd.R_keptB (HO_117000.out) hkp (fun k_ hk_ hs_ => (hk_.2.2.2) hs_)) (fun k_ hk_ => ⟨hk_.1.1, hk_.1.2.1, hk_.1.2.2.1, hk_.1.2.2.2⟩)); have n3_ := Aside0.mk (Kd.R_mono (ok' := fun k_ => OB_ k_ v113 ∧ OB_ k_ v128 ∧ OB_ k_ (.slice Ao28 t109.length co28) ∧ OB_ k_ (.slice Ao43 t124.length co43)) (Kd.R_keptB (HO_121000.out) hkp (fun k_ hk_ hs_ => (hk_.2.2.2) hs_)) (fun k_ hk_ => ⟨hk_.1.1, hk_.1.2.1, hk_.1.2.2.1, hk_.1.2.2.2⟩)); have n4_ := Aside0.mk (Kd.R_reok rfl hy0 (fun k_ e_ => HO_132000.out.1 k_ e_)); have n5_ := Aside0.mk (blk_kept (bb_ BK101.out) hkp (fun hs_ => (fun e_ => (Kd.R_ne HO_132000.out BK101.out (by decide)) e_) hs_)); have n6_ := Aside0.mk (blk_kept (bb_ BK116.out) hkp (fun hs_ => (fun e_ => (Kd.R_ne HO_132000.out BK116.out (by decide)) e_) hs_)); have n7_ := Aside0.mk (blk_kept (bb_ BK120.out) hkp (fun hs_ => (fun e_ => (Kd.R_ne HO_132000.out BK120.out (by decide)) e_) hs_)); have n8_ := Aside0.mk (blk_kept (bb_ BK131.out) hkp (fun hs_ => (fun e_ => (Kd.R_ne HO_132000.out BK131.out (by decide)) e_) hs_)); have n9_ := Aside0.mk (hb); clear HO_9 HO_14 HO_117000 HO_121000 HO_132000 BK101 BK116 BK120 BK131 HB; have HO_9 := n0_; have HO_14 := n1_; have HO_117000 := n2_; have HO_121000 := n3_; have HO_132000 := n4_; have BK101 := n5_; have BK116 := n6_; have BK120 := n7_; have BK131 := n8_; have HB := n9_; clear n0_ n1_ n2_ n3_ n4_ n5_ n6_ n7_ n8_ n9_; (try clear hb); (try clear hkp); (try clear hy0); obtain ⟨Ao145, co145, eo145⟩ := Kd.R_slice HO_14.out; subst eo145) | ((with_reducible refine gate_callee (f := 17) rfl ?_); refine goesL_ (some 107) rfl rfl Try.func17 (by kernel_rfl) rfl #[.slice Ao145 t127.length co145, .int .i64 t148] rfl (by (try simp only [List.map_toArray, List.map_cons, List.map_nil]); first | done | rfl | (simp only [List.length_drop, List.length_take]; rfl)) ?_; (with_reducible refine (laws_markInt64S.calls kj88 (fun k_ => some k_ = (.slice Ao145 t127.length co145 : Value).ownBlock) (.slice Ao145 t127.length co145) t127 t148 t150 t151 w _ ?side1 ?side2 A137.out).mono ?_); (case side1 => repeat (first | (with_reducible first | exact HB.out | apply below_alloc | apply pw_below_drewN | apply below_drew1 | refine below_set ?_ GE101.out | refine below_set ?_ GE116.out | refine below_set ?_ GE120.out | refine below_set ?_ GE131.out) | exact HB.out)); (case side2 => exact Kd.R_tight rfl HO_14.out); rintro e w146 ⟨rfl, hy0, hb, hkp⟩; refine ⟨_, rfl, ?_⟩; have n0_ := Aside0.mk (Kd.R_mono (ok' := fun k_ => OB_ k_ (.slice Ao145 t127.length co145) ∧ OB_ k_ (.slice Ao28 t109.length co28) ∧ OB_ k_ (.slice Ao34 t143.length co34) ∧ OB_ k_ (.slice Ao43 t124.length co43)) (Kd.R_keptB (HO_9.out) hkp (fun k_ hk_ hs_ => (hk_.1) hs_)) (fun k_ hk_ => ⟨hk_.1.1, hk_.1.2.1, hk_.1.2.2.1, hk_.1.2.2.2⟩)); have n1_ := Aside0.mk (Kd.R_reok rfl hy0 (fun k_ e_ => HO_14.out.1 k_ e_)); have n2_ := Aside0.mk (Kd.R_mono (ok' := fun k_ => OB_ k_ v113 ∧ OB_ k_ (.slice Ao145 t127.length co145) ∧ OB_ k_ (.slice Ao34 t143.length co34) ∧ OB_ k_ (.slice Ao43 t124.length co43)) (Kd.R_keptB (HO_117000.out) hkp (fun k_ hk_ hs_ => (hk_.2.1) hs_)) (fun k_ hk_ => ⟨hk_.1.1, hk_.1.2.1, hk_.1.2.2.1, hk_.1.2.2.2⟩)); have n3_ := Aside0.mk (Kd.R_mono (ok' := fun k_ => OB_ k_ v113 ∧ OB_ k_ (.slice Ao145 t127.length co145) ∧ OB_ k_ (.slice Ao28 t109.length co28) ∧ OB_ k_ (.slice Ao43 t124.length co43)) (Kd.R_keptB (HO_121000.out) hkp (fun k_ hk_ hs_ => (hk_.2.1) hs_)) (fun k_ hk_ => ⟨hk_.1.1, hk_.1.2.1, hk_.1.2.2.1, hk_.1.2.2.2⟩)); have n4_ := Aside0.mk (Kd.R_mono (ok' := fun k_ => OB_ k_ v113 ∧ OB_ k_ (.slice Ao145 t127.length co145) ∧ OB_ k_ (.slice Ao28 t109.length co28) ∧ OB_ k_ (.slice Ao34 t143.length co34)) (Kd.R_keptB (HO_132000.out) hkp (fun k_ hk_ hs_ => (hk_.2.1) hs_)) (fun k_ hk_ => ⟨hk_.1.1, hk_.1.2.1, hk_.1.2.2.1, hk_.1.2.2.2⟩)); have n5_ := Aside0.mk (blk_kept (bb_ BK101.out) hkp (fun hs_ => (fun e_ => (Kd.R_ne HO_14.out BK101.out (by decide)) e_) hs_)); have n6_ := Aside0.mk (blk_kept (bb_ BK116.out) hkp (fun hs_ => (fun e_ => (Kd.R_ne HO_14.out BK116.out (by decide)) e_) hs_)); have n7_ := Aside0.mk (blk_kept (bb_ BK120.out) hkp (fun hs_ => (fun e_ => (Kd.R_ne HO_14.out BK120.out (by decide)) e_) hs_)); have n8_ := Aside0.mk (blk_kept (bb_ BK131.out) hkp (fun hs_ => (fun e_ => (Kd.R_ne HO_14.out BK131.out (by decide)) e_) hs_)); have n9_ := Aside0.mk (hb); clear HO_9 HO_14 HO_117000 HO_121000 HO_132000 BK101 BK116 BK120 BK131 HB; have HO_9 := n0_; have HO_14 := n1_; have HO_117000 := n2_; have HO_121000 := n3_; have HO_132000 := n4_; have BK101 := n5_; have BK116 := n6_; have BK120 := n7_; have BK131 := n8_; have HB := n9_; clear n0_ n1_ n2_ n3_ n4_ n5_ n6_ n7_ n8_ n9_; (try clear hb); (try clear hkp); (try clear hy0); have hcz147_0 : w146.cell? ⟨gb131, 0, none⟩ = some (.slice Ao43 t124.length co43) := (blk_cell BK131.out 0).trans rfl; have hfz147_0 := blk_frozen BK131.out 0) | ((with_reducible refine gate_callee (f := 18) rfl ?_); refine goesL_ (some 110) rfl rfl Try.func18 (by kernel_rfl) rfl #[.agg #[.slice Ao43 t149.length co43], .int .i64 1] rfl (by (try simp only [List.map_toArray, List.map_cons, List.map_nil]); first | done | (rw [show t149.length = t124.length from (Kd.R_reads' HO_132000.out).1.symm] <;> rfl) | rfl | (simp only [List.length_drop, List.length_take]; rfl)) ?_; (with_reducible refine (laws_heldSpace.calls kj88 _ _ t149 1 t152 _ ?side1 ?side2 A138.out).mono ?_); (case side1 => repeat (first | exact (Kd.R_reads' HO_132000.out).2.2 | (with_reducible refine Kd.C_alloc ?_ _) | (with_reducible refine Kd.C_drewN ?_ _) | (with_reducible refine Kd.C_drew ?_))); (case side2 => rw [show t149.length = t124.length from (Kd.R_reads' HO_132000.out).1.symm]; exact (Kd.R_reads' HO_132000.out).2.1); rintro e w148 ⟨rfl, hb⟩; refine ⟨_, rfl, ?_⟩; have n0_ := Aside0.mk (Kd.R_below (rb_ HO_9.out) hb); have n1_ := Aside0.mk (Kd.R_below (rb_ HO_14.out) hb); have n2_ := Aside0.mk (Kd.R_below (rb_ HO_117000.out) hb); have n3_ := Aside0.mk (Kd.R_below (rb_ HO_121000.out) hb); have n4_ := Aside0.mk (Kd.R_below (rb_ HO_132000.out) hb); have n5_ := Aside0.mk (blk_below (g := gb101) (o := .cells #[.slice A0_0 l0_0.length c0_0] 24 (0, 0)) (bb_ BK101.out) hb); have n6_ := Aside0.mk (blk_below (g := gb116) (o := .cells #[.slice Ao28 t109.length co28] 26 (0, 0)) (bb_ BK116.out) hb); have n7_ := Aside0.mk (blk_below (g := gb120) (o := .cells #[.slice Ao34 t143.length co34] 26 (0, 0)) (bb_ BK120.out) hb); have n8_ := Aside0.mk (blk_below (g := gb131) (o := .cells #[.slice Ao43 t124.length co43] 26 (0, 0)) (bb_ BK131.out) hb); have n9_ := Aside0.mk (below_step (gb_ HB.out) hb); clear HO_9 HO_14 HO_117000 HO_121000 HO_132000 BK101 BK116 BK120 BK131 HB; have HO_9 := n0_; have HO_14 := n1_; have HO_117000 := n2_; have HO_121000 := n3_; have HO_132000 := n4_; have BK101 := n5_; have BK116 := n6_; have BK120 := n7_; have BK131 := n8_; have HB := n9_; clear n0_ n1_ n2_ n3_ n4_ n5_ n6_ n7_ n8_ n9_; (try clear hb); (try clear hb2); (try clear hk); (try clear hi)))
            go_ret
            exact ⟨by first | rfl | (simp [errW_none, errW_some] <;> rfl) | (simp [*, errW_none, errW_some] <;> rfl), gb_ HB.out⟩
           ·rw [if_neg c139] at H
            have c139b0 : decide (t152 < 0) = false := decide_eq_false c139
            clear c139
            replace H := Option.bind_eq_some_iff.mp H
            obtain ⟨t153, A1490, H⟩ := H
            replace H : (if t153 < 0 then (some false) else (if t153 = t150 then ((laws_toSpace.f kj88 l0_0).bind fun t154 => ((laws_toInt64S.f kj88 l1).bind fun t157 => ((impl_AddSumPlace.f t154 t157 a2).bind fun bt160 => ((laws_eqSpace.f kj88 bt160.1 t109).bind fun t168 => (if t168 = true then ((laws_eqInt64S.f kj88 bt160.2.1 t112).bind fun t169 => (if t169 = true then (laws_FnExactAddSumPlace.j2 kj88 t151 t150 (bt160.2.2 != t115) t149) else (laws_FnExactAddSumPlace.j2 kj88 t151 t150 true t149))) else (laws_FnExactAddSumPlace.j2 kj88 t151 t150 true t149)))))) else (some false))) = some r := H
            have A149 := Aside0.mk A1490
            clear A1490
            by_cases c150 : t153 < 0
            ·rw [if_pos c150] at H
             have c150b0 : decide (t153 < 0) = true := decide_eq_true c150
             clear c150
             obtain rfl := Option.some.inj H
             have hnb151 := NB131_101.out
             have hnc151 := NB101_131.out
             have hnb152 := NB131_116.out
             have hnc152 := NB116_131.out
             have hnb153 := NB131_120.out
             have hnc153 := NB120_131.out
             have hcz154_0 : wc.cell? ⟨gb131, 0, none⟩ = some (.slice Ao43 t124.length co43) := (blk_cell BK131.out 0).trans rfl
             have hfz154_0 := blk_frozen BK131.out 0
             go_wp2_with (first | ((with_reducible refine gate_callee (f := 16) rfl ?_); refine goesL_ (some 104) rfl rfl Try.func16 (by kernel_rfl) rfl #[.agg #[.slice Ao43 t124.length co43], .int .i64 1] rfl (by (try simp only [List.map_toArray, List.map_cons, List.map_nil]); first | done | rfl | (simp only [List.length_drop, List.length_take]; rfl)) ?_; (with_reducible refine (laws_markSpace.calls kj88 (fun k_ => some k_ = (.slice Ao43 t124.length co43 : Value).ownBlock) (.slice Ao43 t124.length co43) t124 1 t148 t149 w _ ?side1 ?side2 A136.out).mono ?_); (case side1 => repeat (first | (with_reducible first | exact HB.out | apply below_alloc | apply pw_below_drewN | apply below_drew1 | refine below_set ?_ GE101.out | refine below_set ?_ GE116.out | refine below_set ?_ GE120.out | refine below_set ?_ GE131.out) | exact HB.out)); (case side2 => exact Kd.R_tight rfl HO_132000.out); rintro e w155 ⟨rfl, hy0, hb, hkp⟩; refine ⟨_, rfl, ?_⟩; have n0_ := Aside0.mk (Kd.R_mono (ok' := fun k_ => OB_ k_ v128 ∧ OB_ k_ (.slice Ao28 t109.length co28) ∧ OB_ k_ (.slice Ao34 t143.length co34) ∧ OB_ k_ (.slice Ao43 t124.length co43)) (Kd.R_keptB (HO_9.out) hkp (fun k_ hk_ hs_ => (hk_.2.2.2) hs_)) (fun k_ hk_ => ⟨hk_.1.1, hk_.1.2.1, hk_.1.2.2.1, hk_.1.2.2.2⟩)); have n1_ := Aside0.mk (Kd.R_mono (ok' := fun k_ => OB_ k_ v113 ∧ OB_ k_ (.slice Ao28 t109.length co28) ∧ OB_ k_ (.slice Ao34 t143.length co34) ∧ OB_ k_ (.slice Ao43 t124.length co43)) (Kd.R_keptB (HO_14.out) hkp (fun k_ hk_ hs_ => (hk_.2.2.2) hs_)) (fun k_ hk_ => ⟨hk_.1.1, hk_.1.2.1, hk_.1.2.2.1, hk_.1.2.2.2⟩)); have n2_ := Aside0.mk (Kd.R_mono (ok' := fun k_ => OB_ k_ v113 ∧ OB_ k_ v128 ∧ OB_ k_ (.slice Ao34 t143.length co34) ∧ OB_ k_ (.slice Ao43 t124.length co43)) (Kd.R_keptB (HO_117000.out) hkp (fun k_ hk_ hs_ => (hk_.2.2.2) hs_)) (fun k_ hk_ => ⟨hk_.1.1, hk_.1.2.1, hk_.1.2.2.1, hk_.1.2.2.2⟩)); have n3_ := Aside0.mk (Kd.R_mono (ok' := fun k_ => OB_ k_ v113 ∧ OB_ k_ v128 ∧ OB_ k_ (.slice Ao28 t109.length co28) ∧ OB_ k_ (.slice Ao43 t124.length co43)) (Kd.R_keptB (HO_121000.out) hkp (fun k_ hk_ hs_ => (hk_.2.2.2) hs_)) (fun k_ hk_ => ⟨hk_.1.1, hk_.1.2.1, hk_.1.2.2.1, hk_.1.2.2.2⟩)); have n4_ := Aside0.mk (Kd.R_reok rfl hy0 (fun k_ e_ => HO_132000.out.1 k_ e_)); have n5_ := Aside0.mk (blk_kept (bb_ BK101.out) hkp (fun hs_ => (fun e_ => (Kd.R_ne HO_132000.out BK101.out (by decide)) e_) hs_)); have n6_ := Aside0.mk (blk_kept (bb_ BK116.out) hkp (fun hs_ => (fun e_ => (Kd.R_ne HO_132000.out BK116.out (by decide)) e_) hs_)); have n7_ := Aside0.mk (blk_kept (bb_ BK120.out) hkp (fun hs_ => (fun e_ => (Kd.R_ne HO_132000.out BK120.out (by decide)) e_) hs_)); have n8_ := Aside0.mk (blk_kept (bb_ BK131.out) hkp (fun hs_ => (fun e_ => (Kd.R_ne HO_132000.out BK131.out (by decide)) e_) hs_)); have n9_ := Aside0.mk (hb); clear HO_9 HO_14 HO_117000 HO_121000 HO_132000 BK101 BK116 BK120 BK131 HB; have HO_9 := n0_; have HO_14 := n1_; have HO_117000 := n2_; have HO_121000 := n3_; have HO_132000 := n4_; have BK101 := n5_; have BK116 := n6_; have BK120 := n7_; have BK131 := n8_; have HB := n9_; clear n0_ n1_ n2_ n3_ n4_ n5_ n6_ n7_ n8_ n9_; (try clear hb); (try clear hkp); (try clear hy0); obtain ⟨Ao156, co156, eo156⟩ := Kd.R_slice HO_14.out; subst eo156) | ((with_reducible refine gate_callee (f := 17) rfl ?_); refine goesL_ (some 107) rfl rfl Try.func17 (by kernel_rfl) rfl #[.slice Ao156 t127.length co156, .int .i64 t148] rfl (by (try simp only [List.map_toArray, List.map_cons, List.map_nil]); first | done | rfl | (simp only [List.length_drop, List.length_take]; rfl)) ?_; (with_reducible refine (laws_markInt64S.calls kj88 (fun k_ => some k_ = (.slice Ao156 t127.length co156 : Value).ownBlock) (.slice Ao156 t127.length co156) t127 t148 t150 t151 w _ ?side1 ?side2 A137.out).mono ?_); (case side1 => repeat (first | (with_reducible first | exact HB.out | apply below_alloc | apply pw_below_drewN | apply below_drew1 | refine below_set ?_ GE101.out | refine below_set ?_ GE116.out | refine below_set ?_ GE120.out | refine below_set ?_ GE131.out) | exact HB.out)); (case side2 => exact Kd.R_tight rfl HO_14.out); rintro e w157 ⟨rfl, hy0, hb, hkp⟩; refine ⟨_, rfl, ?_⟩; have n0_ := Aside0.mk (Kd.R_mono (ok' := fun k_ => OB_ k_ (.slice Ao156 t127.length co156) ∧ OB_ k_ (.slice Ao28 t109.length co28) ∧ OB_ k_ (.slice Ao34 t143.length co34) ∧ OB_ k_ (.slice Ao43 t124.length co43)) (Kd.R_keptB (HO_9.out) hkp (fun k_ hk_ hs_ => (hk_.1) hs_)) (fun k_ hk_ => ⟨hk_.1.1, hk_.1.2.1, hk_.1.2.2.1, hk_.1.2.2.2⟩)); have n1_ := Aside0.mk (Kd.R_reok rfl hy0 (fun k_ e_ => HO_14.out.1 k_ e_)); have n2_ := Aside0.mk (Kd.R_mono (ok' := fun k_ => OB_ k_ v113 ∧ OB_ k_ (.slice Ao156 t127.length co156) ∧ OB_ k_ (.slice Ao34 t143.length co34) ∧ OB_ k_ (.slice Ao43 t124.length co43)) (Kd.R_keptB (HO_117000.out) hkp (fun k_ hk_ hs_ => (hk_.2.1) hs_)) (fun k_ hk_ => ⟨hk_.1.1, hk_.1.2.1, hk_.1.2.2.1, hk_.1.2.2.2⟩)); have n3_ := Aside0.mk (Kd.R_mono (ok' := fun k_ => OB_ k_ v113 ∧ OB_ k_ (.slice Ao156 t127.length co156) ∧ OB_ k_ (.slice Ao28 t109.length co28) ∧ OB_ k_ (.slice Ao43 t124.length co43)) (Kd.R_keptB (HO_121000.out) hkp (fun k_ hk_ hs_ => (hk_.2.1) hs_)) (fun k_ hk_ => ⟨hk_.1.1, hk_.1.2.1, hk_.1.2.2.1, hk_.1.2.2.2⟩)); have n4_ := Aside0.mk (Kd.R_mono (ok' := fun k_ => OB_ k_ v113 ∧ OB_ k_ (.slice Ao156 t127.length co156) ∧ OB_ k_ (.slice Ao28 t109.length co28) ∧ OB_ k_ (.slice Ao34 t143.length co34)) (Kd.R_keptB (HO_132000.out) hkp (fun k_ hk_ hs_ => (hk_.2.1) hs_)) (fun k_ hk_ => ⟨hk_.1.1, hk_.1.2.1, hk_.1.2.2.1, hk_.1.2.2.2⟩)); have n5_ := Aside0.mk (blk_kept (bb_ BK101.out) hkp (fun hs_ => (fun e_ => (Kd.R_ne HO_14.out BK101.out (by decide)) e_) hs_)); have n6_ := Aside0.mk (blk_kept (bb_ BK116.out) hkp (fun hs_ => (fun e_ => (Kd.R_ne HO_14.out BK116.out (by decide)) e_) hs_)); have n7_ := Aside0.mk (blk_kept (bb_ BK120.out) hkp (fun hs_ => (fun e_ => (Kd.R_ne HO_14.out BK120.out (by decide)) e_) hs_)); have n8_ := Aside0.mk (blk_kept (bb_ BK131.out) hkp (fun hs_ => (fun e_ => (Kd.R_ne HO_14.out BK131.out (by decide)) e_) hs_)); have n9_ := Aside0.mk (hb); clear HO_9 HO_14 HO_117000 HO_121000 HO_132000 BK101 BK116 BK120 BK131 HB; have HO_9 := n0_; have HO_14 := n1_; have HO_117000 := n2_; have HO_121000 := n3_; have HO_132000 := n4_; have BK101 := n5_; have BK116 := n6_; have BK120 := n7_; have BK131 := n8_; have HB := n9_; clear n0_ n1_ n2_ n3_ n4_ n5_ n6_ n7_ n8_ n9_; (try clear hb); (try clear hkp); (try clear hy0); have hcz158_0 : w157.cell? ⟨gb131, 0, none⟩ = some (.slice Ao43 t124.length co43) := (blk_cell BK131.out 0).trans rfl; have hfz158_0 := blk_frozen BK131.out 0) | ((with_reducible refine gate_callee (f := 18) rfl ?_); refine goesL_ (some 110) rfl rfl Try.func18 (by kernel_rfl) rfl #[.agg #[.slice Ao43 t149.length co43], .int .i64 1] rfl (by (try simp only [List.map_toArray, List.map_cons, List.map_nil]); first | done | (rw [show t149.length = t124.length from (Kd.R_reads' HO_132000.out).1.symm] <;> rfl) | rfl | (simp only [List.length_drop, List.length_take]; rfl)) ?_; (with_reducible refine (laws_heldSpace.calls kj88 _ _ t149 1 t152 _ ?side1 ?side2 A138.out).mono ?_); (case side1 => repeat (first | exact (Kd.R_reads' HO_132000.out).2.2 | (with_reducible refine Kd.C_alloc ?_ _) | (with_reducible refine Kd.C_drewN ?_ _) | (with_reducible refine Kd.C_drew ?_))); (case side2 => rw [show t149.length = t124.length from (Kd.R_reads' HO_132000.out).1.symm]; exact (Kd.R_reads' HO_132000.out).2.1); rintro e w159 ⟨rfl, hb⟩; refine ⟨_, rfl, ?_⟩; have n0_ := Aside0.mk (Kd.R_below (rb_ HO_9.out) hb); have n1_ := Aside0.mk (Kd.R_below (rb_ HO_14.out) hb); have n2_ := Aside0.mk (Kd.R_below (rb_ HO_117000.out) hb); have n3_ := Aside0.mk (Kd.R_below (rb_ HO_121000.out) hb); have n4_ := Aside0.mk (Kd.R_below (rb_ HO_132000.out) hb); have n5_ := Aside0.mk (blk_below (g := gb101) (o := .cells #[.slice A0_0 l0_0.length c0_0] 24 (0, 0)) (bb_ BK101.out) hb); have n6_ := Aside0.mk (blk_below (g := gb116) (o := .cells #[.slice Ao28 t109.length co28] 26 (0, 0)) (bb_ BK116.out) hb); have n7_ := Aside0.mk (blk_below (g := gb120) (o := .cells #[.slice Ao34 t143.length co34] 26 (0, 0)) (bb_ BK120.out) hb); have n8_ := Aside0.mk (blk_below (g := gb131) (o := .cells #[.slice Ao43 t124.length co43] 26 (0, 0)) (bb_ BK131.out) hb); have n9_ := Aside0.mk (below_step (gb_ HB.out) hb); clear HO_9 HO_14 HO_117000 HO_121000 HO_132000 BK101 BK116 BK120 BK131 HB; have HO_9 := n0_; have HO_14 := n1_; have HO_117000 := n2_; have HO_121000 := n3_; have HO_132000 := n4_; have BK101 := n5_; have BK116 := n6_; have BK120 := n7_; have BK131 := n8_; have HB := n9_; clear n0_ n1_ n2_ n3_ n4_ n5_ n6_ n7_ n8_ n9_; (try clear hb); (try clear hb2); (try clear hk); (try clear hi)) | ((with_reducible refine gate_callee (f := 19) rfl ?_); refine goesL_ (some 115) rfl rfl Try.func19 (by kernel_rfl) rfl #[.slice Ao156 t151.length co156, .int .i64 t152] rfl (by (try simp only [List.map_toArray, List.map_cons, List.map_nil]); first | done | (rw [show t151.length = t127.length from (Kd.R_reads' HO_14.out).1.symm] <;> rfl) | rfl | (simp only [List.length_drop, List.length_take]; rfl)) ?_; (with_reducible refine (laws_heldInt64S.calls kj88 _ _ t151 t152 t153 _ ?side1 ?side2 A149.out).mono ?_); (case side1 => repeat (first | exact (Kd.R_reads' HO_14.out).2.2 | (with_reducible refine Kd.C_alloc ?_ _) | (with_reducible refine Kd.C_drewN ?_ _) | (with_reducible refine Kd.C_drew ?_))); (case side2 => rw [show t151.length = t127.length from (Kd.R_reads' HO_14.out).1.symm]; exact (Kd.R_reads' HO_14.out).2.1); rintro e w' ⟨rfl, ⟨nd, rfl⟩⟩; refine ⟨_, rfl, ?_⟩))
             go_ret
             exact ⟨by first | rfl | (simp [errW_none, errW_some] <;> rfl) | (simp [*, errW_none, errW_some] <;> rfl), gb_ HB.out⟩
            ·rw [if_neg c150] at H
             have c150b0 : decide (t153 < 0) = false := decide_eq_false c150
             clear c150
             by_cases c160 : t153 = t150
             ·rw [if_pos c160] at H
              have c160b0 : (t153 == t150) = true := beq_iff_eq.mpr c160
              have c160b1 : (t153 != t150) = false := bne_eq_false_iff_eq.mpr c160
              clear c160
              replace H := Option.bind_eq_some_iff.mp H
              obtain ⟨t154, A1610, H⟩ := H
              replace H : ((laws_toInt64S.f kj88 l1).bind fun t157 => ((impl_AddSumPlace.f t154 t157 a2).bind fun bt160 => ((laws_eqSpace.f kj88 bt160.1 t109).bind fun t168 => (if t168 = true then ((laws_eqInt64S.f kj88 bt160.2.1 t112).bind fun t169 => (if t169 = true then (laws_FnExactAddSumPlace.j2 kj88 t151 t150 (bt160.2.2 != t115) t149) else (laws_FnExactAddSumPlace.j2 kj88 t151 t150 true t149))) else (laws_FnExactAddSumPlace.j2 kj88 t151 t150 true t149))))) = some r := H
              have A161 := Aside0.mk A1610
              clear A1610
              replace H := Option.bind_eq_some_iff.mp H
              obtain ⟨t157, A1620, H⟩ := H
              replace H : ((impl_AddSumPlace.f t154 t157 a2).bind fun bt160 => ((laws_eqSpace.f kj88 bt160.1 t109).bind fun t168 => (if t168 = true then ((laws_eqInt64S.f kj88 bt160.2.1 t112).bind fun t169 => (if t169 = true then (laws_FnExactAddSumPlace.j2 kj88 t151 t150 (bt160.2.2 != t115) t149) else (laws_FnExactAddSumPlace.j2 kj88 t151 t150 true t149))) else (laws_FnExactAddSumPlace.j2 kj88 t151 t150 true t149)))) = some r := H
              have A162 := Aside0.mk A1620
              clear A1620
              replace H := Option.bind_eq_some_iff.mp H
              obtain ⟨⟨t160, t163, t166⟩, A1630, H⟩ := H
              replace H : ((laws_eqSpace.f kj88 t160 t109).bind fun t168 => (if t168 = true then ((laws_eqInt64S.f kj88 t163 t112).bind fun t169 => (if t169 = true then (laws_FnExactAddSumPlace.j2 kj88 t151 t150 (t166 != t115) t149) else (laws_FnExactAddSumPlace.j2 kj88 t151 t150 true t149))) else (laws_FnExactAddSumPlace.j2 kj88 t151 t150 true t149))) = some r := H
              have A163 := Aside0.mk A1630
              clear A1630
              have HC164 := Aside0.mk H
              clear H
              have hnb165 := NB131_101.out
              have hnc165 := NB101_131.out
              have hnb166 := NB131_116.out
              have hnc166 := NB116_131.out
              have hnb167 := NB131_120.out
              have hnc167 := NB120_131.out
              have hcz168_0 : wc.cell? ⟨gb131, 0, none⟩ = some (.slice Ao43 t124.length co43) := (blk_cell BK131.out 0).trans rfl
              have hfz168_0 := blk_frozen BK131.out 0
              go_upto_region 35 with (first | ((with_reducible refine gate_callee (f := 16) rfl ?_); refine goesL_ (some 104) rfl rfl Try.func16 (by kernel_rfl) rfl #[.agg #[.slice Ao43 t124.length co43], .int .i64 1] rfl (by (try simp only [List.map_toArray, List.map_cons, List.map_nil]); first | done | rfl | (simp only [List.length_drop, List.length_take]; rfl)) ?_; (with_reducible refine (laws_markSpace.calls kj88 (fun k_ => some k_ = (.slice Ao43 t124.length co43 : Value).ownBlock) (.slice Ao43 t124.length co43) t124 1 t148 t149 w _ ?side1 ?side2 A136.out).mono ?_); (case side1 => repeat (first | (with_reducible first | exact HB.out | apply below_alloc | apply pw_below_drewN | apply below_drew1 | refine below_set ?_ GE101.out | refine below_set ?_ GE116.out | refine below_set ?_ GE120.out | refine below_set ?_ GE131.out) | exact HB.out)); (case side2 => exact Kd.R_tight rfl HO_132000.out); rintro e w169 ⟨rfl, hy0, hb, hkp⟩; refine ⟨_, rfl, ?_⟩; have n0_ := Aside0.mk (Kd.R_mono (ok' := fun k_ => OB_ k_ v128 ∧ OB_ k_ (.slice Ao28 t109.length co28) ∧ OB_ k_ (.slice Ao34 t143.length co34) ∧ OB_ k_ (.slice Ao43 t124.length co43)) (Kd.R_keptB (HO_9.out) hkp (fun k_ hk_ hs_ => (hk_.2.2.2) hs_)) (fun k_ hk_ => ⟨hk_.1.1, hk_.1.2.1, hk_.1.2.2.1, hk_.1.2.2.2⟩)); have n1_ := Aside0.mk (Kd.R_mono (ok' := fun k_ => OB_ k_ v113 ∧ OB_ k_ (.slice Ao28 t109.length co28) ∧ OB_ k_ (.slice Ao34 t143.length co34) ∧ OB_ k_ (.slice Ao43 t124.length co43)) (Kd.R_keptB (HO_14.out) hkp (fun k_ hk_ hs_ => (hk_.2.2.2) hs_)) (fun k_ hk_ => ⟨hk_.1.1, hk_.1.2.1, hk_.1.2.2.1, hk_.1.2.2.2⟩)); have n2_ := Aside0.mk (Kd.R_mono (ok' := fun k_ => OB_ k_ v113 ∧ OB_ k_ v128 ∧ OB_ k_ (.slice Ao34 t143.length co34) ∧ OB_ k_ (.slice Ao43 t124.length co43)) (Kd.R_keptB (HO_117000.out) hkp (fun k_ hk_ hs_ => (hk_.2.2.2) hs_)) (fun k_ hk_ => ⟨hk_.1.1, hk_.1.2.1, hk_.1.2.2.1, hk_.1.2.2.2⟩)); have n3_ := Aside0.mk (Kd.R_mono (ok' := fun k_ => OB_ k_ v113 ∧ OB_ k_ v128 ∧ OB_ k_ (.slice Ao28 t109.length co28) ∧ OB_ k_ (.slice Ao43 t124.length co43)) (Kd.R_keptB (HO_121000.out) hkp (fun k_ hk_ hs_ => (hk_.2.2.2) hs_)) (fun k_ hk_ => ⟨hk_.1.1, hk_.1.2.1, hk_.1.2.2.1, hk_.1.2.2.2⟩)); have n4_ := Aside0.mk (Kd.R_reok rfl hy0 (fun k_ e_ => HO_132000.out.1 k_ e_)); have n5_ := Aside0.mk (blk_kept (bb_ BK101.out) hkp (fun hs_ => (fun e_ => (Kd.R_ne HO_132000.out BK101.out (by decide)) e_) hs_)); have n6_ := Aside0.mk (blk_kept (bb_ BK116.out) hkp (fun hs_ => (fun e_ => (Kd.R_ne HO_132000.out BK116.out (by decide)) e_) hs_)); have n7_ := Aside0.mk (blk_kept (bb_ BK120.out) hkp (fun hs_ => (fun e_ => (Kd.R_ne HO_132000.out BK120.out (by decide)) e_) hs_)); have n8_ := Aside0.mk (blk_kept (bb_ BK131.out) hkp (fun hs_ => (fun e_ => (Kd.R_ne HO_132000.out BK131.out (by decide)) e_) hs_)); have n9_ := Aside0.mk (hb); clear HO_9 HO_14 HO_117000 HO_121000 HO_132000 BK101 BK116 BK120 BK131 HB; have HO_9 := n0_; have HO_14 := n1_; have HO_117000 := n2_; have HO_121000 := n3_; have HO_132000 := n4_; have BK101 := n5_; have BK116 := n6_; have BK120 := n7_; have BK131 := n8_; have HB := n9_; clear n0_ n1_ n2_ n3_ n4_ n5_ n6_ n7_ n8_ n9_; (try clear hb); (try clear hkp); (try clear hy0); obtain ⟨Ao170, co170, eo170⟩ := Kd.R_slice HO_14.out; subst eo170) | ((with_reducible refine gate_callee (f := 17) rfl ?_); refine goesL_ (some 107) rfl rfl Try.func17 (by kernel_rfl) rfl #[.slice Ao170 t127.length co170, .int .i64 t148] rfl (by (try simp only [List.map_toArray, List.map_cons, List.map_nil]); first | done | rfl | (simp only [List.length_drop, List.length_take]; rfl)) ?_; (with_reducible refine (laws_markInt64S.calls kj88 (fun k_ => some k_ = (.slice Ao170 t127.length co170 : Value).ownBlock) (.slice Ao170 t127.length co170) t127 t148 t150 t151 w _ ?side1 ?side2 A137.out).mono ?_); (case side1 => repeat (first | (with_reducible first | exact HB.out | apply below_alloc | apply pw_below_drewN | apply below_drew1 | refine below_set ?_ GE101.out | refine below_set ?_ GE116.out | refine below_set ?_ GE120.out | refine below_set ?_ GE131.out) | exact HB.out)); (case side2 => exact Kd.R_tight rfl HO_14.out); rintro e w171 ⟨rfl, hy0, hb, hkp⟩; refine ⟨_, rfl, ?_⟩; have n0_ := Aside0.mk (Kd.R_mono (ok' := fun k_ => OB_ k_ (.slice Ao170 t127.length co170) ∧ OB_ k_ (.slice Ao28 t109.length co28) ∧ OB_ k_ (.slice Ao34 t143.length co34) ∧ OB_ k_ (.slice Ao43 t124.length co43)) (Kd.R_keptB (HO_9.out) hkp (fun k_ hk_ hs_ => (hk_.1) hs_)) (fun k_ hk_ => ⟨hk_.1.1, hk_.1.2.1, hk_.1.2.2.1, hk_.1.2.2.2⟩)); have n1_ := Aside0.mk (Kd.R_reok rfl hy0 (fun k_ e_ => HO_14.out.1 k_ e_)); have n2_ := Aside0.mk (Kd.R_mono (ok' := fun k_ => OB_ k_ v113 ∧ OB_ k_ (.slice Ao170 t127.length co170) ∧ OB_ k_ (.slice Ao34 t143.length co34) ∧ OB_ k_ (.slice Ao43 t124.length co43)) (Kd.R_keptB (HO_117000.out) hkp (fun k_ hk_ hs_ => (hk_.2.1) hs_)) (fun k_ hk_ => ⟨hk_.1.1, hk_.1.2.1, hk_.1.2.2.1, hk_.1.2.2.2⟩)); have n3_ := Aside0.mk (Kd.R_mono (ok' := fun k_ => OB_ k_ v113 ∧ OB_ k_ (.slice Ao170 t127.length co170) ∧ OB_ k_ (.slice Ao28 t109.length co28) ∧ OB_ k_ (.slice Ao43 t124.length co43)) (Kd.R_keptB (HO_121000.out) hkp (fun k_ hk_ hs_ => (hk_.2.1) hs_)) (fun k_ hk_ => ⟨hk_.1.1, hk_.1.2.1, hk_.1.2.2.1, hk_.1.2.2.2⟩)); have n4_ := Aside0.mk (Kd.R_mono (ok' := fun k_ => OB_ k_ v113 ∧ OB_ k_ (.slice Ao170 t127.length co170) ∧ OB_ k_ (.slice Ao28 t109.length co28) ∧ OB_ k_ (.slice Ao34 t143.length co34)) (Kd.R_keptB (HO_132000.out) hkp (fun k_ hk_ hs_ => (hk_.2.1) hs_)) (fun k_ hk_ => ⟨hk_.1.1, hk_.1.2.1, hk_.1.2.2.1, hk_.1.2.2.2⟩)); have n5_ := Aside0.mk (blk_kept (bb_ BK101.out) hkp (fun hs_ => (fun e_ => (Kd.R_ne HO_14.out BK101.out (by decide)) e_) hs_)); have n6_ := Aside0.mk (blk_kept (bb_ BK116.out) hkp (fun hs_ => (fun e_ => (Kd.R_ne HO_14.out BK116.out (by decide)) e_) hs_)); have n7_ := Aside0.mk (blk_kept (bb_ BK120.out) hkp (fun hs_ => (fun e_ => (Kd.R_ne HO_14.out BK120.out (by decide)) e_) hs_)); have n8_ := Aside0.mk (blk_kept (bb_ BK131.out) hkp (fun hs_ => (fun e_ => (Kd.R_ne HO_14.out BK131.out (by decide)) e_) hs_)); have n9_ := Aside0.mk (hb); clear HO_9 HO_14 HO_117000 HO_121000 HO_132000 BK101 BK116 BK120 BK131 HB; have HO_9 := n0_; have HO_14 := n1_; have HO_117000 := n2_; have HO_121000 := n3_; have HO_132000 := n4_; have BK101 := n5_; have BK116 := n6_; have BK120 := n7_; have BK131 := n8_; have HB := n9_; clear n0_ n1_ n2_ n3_ n4_ n5_ n6_ n7_ n8_ n9_; (try clear hb); (try clear hkp); (try clear hy0); have hcz172_0 : w171.cell? ⟨gb131, 0, none⟩ = some (.slice Ao43 t124.length co43) := (blk_cell BK131.out 0).trans rfl; have hfz172_0 := blk_frozen BK131.out 0) | ((with_reducible refine gate_callee (f := 18) rfl ?_); refine goesL_ (some 110) rfl rfl Try.func18 (by kernel_rfl) rfl #[.agg #[.slice Ao43 t149.length co43], .int .i64 1] rfl (by (try simp only [List.map_toArray, List.map_cons, List.map_nil]); first | done | (rw [show t149.length = t124.length from (Kd.R_reads' HO_132000.out).1.symm] <;> rfl) | rfl | (simp only [List.length_drop, List.length_take]; rfl)) ?_; (with_reducible refine (laws_heldSpace.calls kj88 _ _ t149 1 t152 _ ?side1 ?side2 A138.out).mono ?_); (case side1 => repeat (first | exact (Kd.R_reads' HO_132000.out).2.2 | (with_reducible refine Kd.C_alloc ?_ _) | (with_reducible refine Kd.C_drewN ?_ _) | (with_reducible refine Kd.C_drew ?_))); (case side2 => rw [show t149.length = t124.length from (Kd.R_reads' HO_132000.out).1.symm]; exact (Kd.R_reads' HO_132000.out).2.1); rintro e w173 ⟨rfl, hb⟩; refine ⟨_, rfl, ?_⟩; have n0_ := Aside0.mk (Kd.R_below (rb_ HO_9.out) hb); have n1_ := Aside0.mk (Kd.R_below (rb_ HO_14.out) hb); have n2_ := Aside0.mk (Kd.R_below (rb_ HO_117000.out) hb); have n3_ := Aside0.mk (Kd.R_below (rb_ HO_121000.out) hb); have n4_ := Aside0.mk (Kd.R_below (rb_ HO_132000.out) hb); have n5_ := Aside0.mk (blk_below (g := gb101) (o := .cells #[.slice A0_0 l0_0.length c0_0] 24 (0, 0)) (bb_ BK101.out) hb); have n6_ := Aside0.mk (blk_below (g := gb116) (o := .cells #[.slice Ao28 t109.length co28] 26 (0, 0)) (bb_ BK116.out) hb); have n7_ := Aside0.mk (blk_below (g := gb120) (o := .cells #[.slice Ao34 t143.length co34] 26 (0, 0)) (bb_ BK120.out) hb); have n8_ := Aside0.mk (blk_below (g := gb131) (o := .cells #[.slice Ao43 t124.length co43] 26 (0, 0)) (bb_ BK131.out) hb); have n9_ := Aside0.mk (below_step (gb_ HB.out) hb); clear HO_9 HO_14 HO_117000 HO_121000 HO_132000 BK101 BK116 BK120 BK131 HB; have HO_9 := n0_; have HO_14 := n1_; have HO_117000 := n2_; have HO_121000 := n3_; have HO_132000 := n4_; have BK101 := n5_; have BK116 := n6_; have BK120 := n7_; have BK131 := n8_; have HB := n9_; clear n0_ n1_ n2_ n3_ n4_ n5_ n6_ n7_ n8_ n9_; (try clear hb); (try clear hb2); (try clear hk); (try clear hi)) | ((with_reducible refine gate_callee (f := 19) rfl ?_); refine goesL_ (some 115) rfl rfl Try.func19 (by kernel_rfl) rfl #[.slice Ao170 t151.length co170, .int .i64 t152] rfl (by (try simp only [List.map_toArray, List.map_cons, List.map_nil]); first | done | (rw [show t151.length = t127.length from (Kd.R_reads' HO_14.out).1.symm] <;> rfl) | rfl | (simp only [List.length_drop, List.length_take]; rfl)) ?_; (with_reducible refine (laws_heldInt64S.calls kj88 _ _ t151 t152 t153 _ ?side1 ?side2 A149.out).mono ?_); (case side1 => repeat (first | exact (Kd.R_reads' HO_14.out).2.2 | (with_reducible refine Kd.C_alloc ?_ _) | (with_reducible refine Kd.C_drewN ?_ _) | (with_reducible refine Kd.C_drew ?_))); (case side2 => rw [show t151.length = t127.length from (Kd.R_reads' HO_14.out).1.symm]; exact (Kd.R_reads' HO_14.out).2.1); rintro e w' ⟨rfl, ⟨nd, rfl⟩⟩; refine ⟨_, rfl, ?_⟩; (try (rw [drewN_self w173]; generalize hq_ : World.drewN w173 _ = w173; have n0_ : Aside0 (Kd.R (Kd.int .i64) 2 w173 w.heap.size (fun k_ => OB_ k_ (.slice Ao34 t143.length co34) ∧ OB_ k_ (.slice Ao43 t124.length co43) ∧ OB_ k_ (.slice Ao170 t127.length co170) ∧ OB_ k_ v113) (.slice Ao28 t109.length co28) t109) := ⟨by rw [← hq_]; exact (rb_ (Kd.R_mono HO_117000.out (fun _ hk => by grind)))⟩; have n1_ : Aside0 (Kd.R (Kd.int .i64) 2 w173 w.heap.size (fun k_ => OB_ k_ (.slice Ao28 t109.length co28) ∧ OB_ k_ (.slice Ao43 t124.length co43) ∧ OB_ k_ (.slice Ao170 t127.length co170) ∧ OB_ k_ v113) (.slice Ao34 t143.length co34) t143) := ⟨by rw [← hq_]; exact (rb_ (Kd.R_mono HO_121000.out (fun _ hk => by grind)))⟩; have n2_ : Aside0 (Kd.R (Kd.int .i64) 2 w173 w.heap.size (fun k_ => OB_ k_ (.slice Ao28 t109.length co28) ∧ OB_ k_ (.slice Ao34 t143.length co34) ∧ OB_ k_ (.slice Ao170 t127.length co170) ∧ OB_ k_ v113) (.slice Ao43 t124.length co43) t149) := ⟨by rw [← hq_]; exact (rb_ (Kd.R_mono HO_132000.out (fun _ hk => by grind)))⟩; have n3_ : Aside0 (Kd.R (Kd.int .i64) 2 w173 w.heap.size (fun k_ => OB_ k_ (.slice Ao28 t109.length co28) ∧ OB_ k_ (.slice Ao34 t143.length co34) ∧ OB_ k_ (.slice Ao43 t124.length co43) ∧ OB_ k_ v113) (.slice Ao170 t127.length co170) t151) := ⟨by rw [← hq_]; exact (rb_ (Kd.R_mono HO_14.out (fun _ hk => by grind)))⟩; have n4_ : Aside0 (Kd.R (Kd.int .i64) 2 w173 w.heap.size (fun k_ => OB_ k_ (.slice Ao28 t109.length co28) ∧ OB_ k_ (.slice Ao34 t143.length co34) ∧ OB_ k_ (.slice Ao43 t124.length co43) ∧ OB_ k_ (.slice Ao170 t127.length co170)) v113 t112) := ⟨by rw [← hq_]; exact (rb_ (Kd.R_mono HO_9.out (fun _ hk => by grind)))⟩; have n5_ : Aside0 (w173.heap[gb101]? = some (.cells #[.slice A0_0 l0_0.length c0_0] 24 (0, 0))) := ⟨by rw [← hq_]; exact (bb_ BK101.out)⟩; have n6_ : Aside0 (w173.heap[gb116]? = some (.cells #[.slice Ao28 t109.length co28] 26 (0, 0))) := ⟨by rw [← hq_]; exact (bb_ BK116.out)⟩; have n7_ : Aside0 (w173.heap[gb120]? = some (.cells #[.slice Ao34 t143.length co34] 26 (0, 0))) := ⟨by rw [← hq_]; exact (bb_ BK120.out)⟩; have n8_ : Aside0 (w173.heap[gb131]? = some (.cells #[.slice Ao43 t124.length co43] 26 (0, 0))) := ⟨by rw [← hq_]; exact (bb_ BK131.out)⟩; have n9_ : Aside0 (Below w.heap.size w w173) := ⟨by rw [← hq_]; exact (gb_ HB.out)⟩; clear HO_117000 HO_121000 HO_132000 HO_14 HO_9 BK101 BK116 BK120 BK131 HB hq_; have HO_117000 := n0_; have HO_121000 := n1_; have HO_132000 := n2_; have HO_14 := n3_; have HO_9 := n4_; have BK101 := n5_; have BK116 := n6_; have BK120 := n7_; have BK131 := n8_; have HB := n9_; clear n0_ n1_ n2_ n3_ n4_ n5_ n6_ n7_ n8_ n9_)); have hnb174 := NB101_116.out; have hnc174 := NB116_101.out; have hnb175 := NB101_120.out; have hnc175 := NB120_101.out; have hcz176_0 : w173.cell? ⟨gb101, 0, none⟩ = some (.slice A0_0 l0_0.length c0_0) := (blk_cell BK101.out 0).trans rfl; have hfz176_0 := blk_frozen BK101.out 0) | ((with_reducible refine gate_callee (f := 11) rfl ?_); refine goesL_ (some 123) rfl rfl Try.func11 (by kernel_rfl) rfl #[.agg #[.slice A0_0 l0_0.length c0_0]] rfl (by (try simp only [List.map_toArray, List.map_cons, List.map_nil]); first | done | rfl | (simp only [List.length_drop, List.length_take]; rfl)) ?_; (with_reducible refine (laws_toSpace.calls kj88 _ _ l0_0 t154 _ ?side1 ?side2 A161.out).mono ?_); (case side1 => repeat (first | exact (Kd.C_below HR0_0.out HB.out) | (with_reducible refine Kd.C_alloc ?_ _) | (with_reducible refine Kd.C_drewN ?_ _) | (with_reducible refine Kd.C_drew ?_))); (case side2 => exact HC0_0.out); rintro e w177 ⟨v155, rfl, ho0, hb⟩; refine ⟨_, rfl, ?_⟩; have n0_ := Aside0.mk (Kd.R_elder' (rb_ HO_9.out) (Kd.R_base ho0) hb); have n1_ := Aside0.mk (Kd.R_elder' (rb_ HO_14.out) (Kd.R_base ho0) hb); have n2_ := Aside0.mk (Kd.R_elder' (rb_ HO_117000.out) (Kd.R_base ho0) hb); have n3_ := Aside0.mk (Kd.R_elder' (rb_ HO_121000.out) (Kd.R_base ho0) hb); have n4_ := Aside0.mk (Kd.R_elder' (rb_ HO_132000.out) (Kd.R_base ho0) hb); have n5_ := Aside0.mk (Kd.R_lower (Kd.R_new' (Kd.R_new' (Kd.R_new' (Kd.R_new' (Kd.R_new' ho0 (Kd.R_lt (rb_ HO_9.out))) (Kd.R_lt (rb_ HO_14.out))) (Kd.R_lt (rb_ HO_117000.out))) (Kd.R_lt (rb_ HO_121000.out))) (Kd.R_lt (rb_ HO_132000.out))) (below_size (gb_ HB.out))); have n6_ := Aside0.mk (blk_below (g := gb101) (o := .cells #[.slice A0_0 l0_0.length c0_0] 24 (0, 0)) (bb_ BK101.out) hb); have n7_ := Aside0.mk (blk_below (g := gb116) (o := .cells #[.slice Ao28 t109.length co28] 26 (0, 0)) (bb_ BK116.out) hb); have n8_ := Aside0.mk (blk_below (g := gb120) (o := .cells #[.slice Ao34 t143.length co34] 26 (0, 0)) (bb_ BK120.out) hb); have n9_ := Aside0.mk (blk_below (g := gb131) (o := .cells #[.slice Ao43 t124.length co43] 26 (0, 0)) (bb_ BK131.out) hb); have n10_ := Aside0.mk (below_step (gb_ HB.out) hb); clear HO_9 HO_14 HO_117000 HO_121000 HO_132000 BK101 BK116 BK120 BK131 HB; have HO_9 := n0_; have HO_14 := n1_; have HO_117000 := n2_; have HO_121000 := n3_; have HO_132000 := n4_; have HO156 := n5_; have BK101 := n6_; have BK116 := n7_; have BK120 := n8_; have BK131 := n9_; have HB := n10_; clear n0_ n1_ n2_ n3_ n4_ n5_ n6_ n7_ n8_ n9_ n10_; (try clear hb); (try clear hb2); (try clear hk); (try clear hi); (try clear ho0)) | ((with_reducible refine gate_callee (f := 12) rfl ?_); refine goesL_ (some 125) rfl rfl Try.func12 (by kernel_rfl) rfl #[.slice A1 l1.length c1] rfl (by (try simp only [List.map_toArray, List.map_cons, List.map_nil]); first | done | rfl | (simp only [List.length_drop, List.length_take]; rfl)) ?_; (with_reducible refine (laws_toInt64S.calls kj88 _ _ l1 t157 _ ?side1 ?side2 A162.out).mono ?_); (case side1 => repeat (first | exact (Kd.C_below HR1.out HB.out) | (with_reducible refine Kd.C_alloc ?_ _) | (with_reducible refine Kd.C_drewN ?_ _) | (with_reducible refine Kd.C_drew ?_))); (case side2 => exact HC1.out); rintro e w178 ⟨v158, rfl, ho0, hb⟩; refine ⟨_, rfl, ?_⟩; have n0_ := Aside0.mk (Kd.R_elder' (rb_ HO_9.out) (Kd.R_base ho0) hb); have n1_ := Aside0.mk (Kd.R_elder' (rb_ HO_14.out) (Kd.R_base ho0) hb); have n2_ := Aside0.mk (Kd.R_elder' (rb_ HO_117000.out) (Kd.R_base ho0) hb); have n3_ := Aside0.mk (Kd.R_elder' (rb_ HO_121000.out) (Kd.R_base ho0) hb); have n4_ := Aside0.mk (Kd.R_elder' (rb_ HO_132000.out) (Kd.R_base ho0) hb); have n5_ := Aside0.mk (Kd.R_elder' (rb_ HO156.out) (Kd.R_base ho0) hb); have n6_ := Aside0.mk (Kd.R_lower (Kd.R_new' (Kd.R_new' (Kd.R_new' (Kd.R_new' (Kd.R_new' (Kd.R_new' ho0 (Kd.R_lt (rb_ HO_9.out))) (Kd.R_lt (rb_ HO_14.out))) (Kd.R_lt (rb_ HO_117000.out))) (Kd.R_lt (rb_ HO_121000.out))) (Kd.R_lt (rb_ HO_132000.out))) (Kd.R_lt (rb_ HO156.out))) (below_size (gb_ HB.out))); have n7_ := Aside0.mk (blk_below (g := gb101) (o := .cells #[.slice A0_0 l0_0.length c0_0] 24 (0, 0)) (bb_ BK101.out) hb); have n8_ := Aside0.mk (blk_below (g := gb116) (o := .cells #[.slice Ao28 t109.length co28] 26 (0, 0)) (bb_ BK116.out) hb); have n9_ := Aside0.mk (blk_below (g := gb120) (o := .cells #[.slice Ao34 t143.length co34] 26 (0, 0)) (bb_ BK120.out) hb); have n10_ := Aside0.mk (blk_below (g := gb131) (o := .cells #[.slice Ao43 t124.length co43] 26 (0, 0)) (bb_ BK131.out) hb); have n11_ := Aside0.mk (below_step (gb_ HB.out) hb); clear HO_9 HO_14 HO_117000 HO_121000 HO_132000 HO156 BK101 BK116 BK120 BK131 HB; have HO_9 := n0_; have HO_14 := n1_; have HO_117000 := n2_; have HO_121000 := n3_; have HO_132000 := n4_; have HO156 := n5_; have HO159 := n6_; have BK101 := n7_; have BK116 := n8_; have BK120 := n9_; have BK131 := n10_; have HB := n11_; clear n0_ n1_ n2_ n3_ n4_ n5_ n6_ n7_ n8_ n9_ n10_ n11_; (try clear hb); (try clear hb2); (try clear hk); (try clear hi); (try clear ho0); obtain ⟨Ao179, co179, eo179⟩ := Kd.R_slice HO156.out; subst eo179; obtain ⟨Ao180, co180, eo180⟩ := Kd.R_slice HO159.out; subst eo180) | ((with_reducible refine gate_callee (f := 21) rfl ?_); refine goesL_ (some 127) rfl rfl Try.func21 (by kernel_rfl) rfl #[.agg #[.slice Ao179 t154.length co179], .slice Ao180 t157.length co180, .int .i64 a2] rfl (by (try simp only [List.map_toArray, List.map_cons, List.map_nil]); first | done | rfl | (simp only [List.length_drop, List.length_take]; rfl)) ?_; (with_reducible refine (impl_AddSumPlace.calls _ _ t154 _ _ t157 a2 t160 t163 t166 _ ?side1 ?side2 ?side3 ?side4 A163.out).mono ?_); (case side1 => repeat (first | exact (Kd.R_reads' HO156.out).2.2 | (with_reducible refine Kd.C_alloc ?_ _) | (with_reducible refine Kd.C_drewN ?_ _) | (with_reducible refine Kd.C_drew ?_))); (case side2 => exact (Kd.R_reads' HO156.out).2.1); (case side3 => repeat (first | exact (Kd.R_reads' HO159.out).2.2 | (with_reducible refine Kd.C_alloc ?_ _) | (with_reducible refine Kd.C_drewN ?_ _) | (with_reducible refine Kd.C_drew ?_))); (case side4 => exact (Kd.R_reads' HO159.out).2.1); rintro e w181 ⟨v161, v164, rfl, ho0, ho1, hb⟩; refine ⟨_, rfl, ?_⟩; have n0_ := Aside0.mk (Kd.R_mono (Kd.R_told (Kd.R_told (Kd.R_old (rb_ HO_9.out) hb) (Kd.R_base ho0)) (Kd.R_base ho1)) (fun _ h_ => h_.1)); have n1_ := Aside0.mk (Kd.R_mono (Kd.R_told (Kd.R_told (Kd.R_old (rb_ HO_14.out) hb) (Kd.R_base ho0)) (Kd.R_base ho1)) (fun _ h_ => h_.1)); have n2_ := Aside0.mk (Kd.R_mono (Kd.R_told (Kd.R_told (Kd.R_old (rb_ HO_117000.out) hb) (Kd.R_base ho0)) (Kd.R_base ho1)) (fun _ h_ => h_.1)); have n3_ := Aside0.mk (Kd.R_mono (Kd.R_told (Kd.R_told (Kd.R_old (rb_ HO_121000.out) hb) (Kd.R_base ho0)) (Kd.R_base ho1)) (fun _ h_ => h_.1)); have n4_ := Aside0.mk (Kd.R_mono (Kd.R_told (Kd.R_told (Kd.R_old (rb_ HO_132000.out) hb) (Kd.R_base ho0)) (Kd.R_base ho1)) (fun _ h_ => h_.1)); have n5_ := Aside0.mk (Kd.R_mono (Kd.R_told (Kd.R_told (Kd.R_old (rb_ HO156.out) hb) (Kd.R_base ho0)) (Kd.R_base ho1)) (fun _ h_ => h_.1)); have n6_ := Aside0.mk (Kd.R_mono (Kd.R_told (Kd.R_told (Kd.R_old (rb_ HO159.out) hb) (Kd.R_base ho0)) (Kd.R_base ho1)) (fun _ h_ => h_.1)); have n7_ := Aside0.mk (Kd.R_lower (Kd.R_new' (Kd.R_new' (Kd.R_new' (Kd.R_new' (Kd.R_new' (Kd.R_new' (Kd.R_new' ho0 (Kd.R_lt (rb_ HO_9.out))) (Kd.R_lt (rb_ HO_14.out))) (Kd.R_lt (rb_ HO_117000.out))) (Kd.R_lt (rb_ HO_121000.out))) (Kd.R_lt (rb_ HO_132000.out))) (Kd.R_lt (rb_ HO156.out))) (Kd.R_lt (rb_ HO159.out))) (below_size (gb_ HB.out))); have n8_ := Aside0.mk (Kd.R_lower (Kd.R_new' (Kd.R_new' (Kd.R_new' (Kd.R_new' (Kd.R_new' (Kd.R_new' (Kd.R_new' ho1 (Kd.R_lt (rb_ HO_9.out))) (Kd.R_lt (rb_ HO_14.out))) (Kd.R_lt (rb_ HO_117000.out))) (Kd.R_lt (rb_ HO_121000.out))) (Kd.R_lt (rb_ HO_132000.out))) (Kd.R_lt (rb_ HO156.out))) (Kd.R_lt (rb_ HO159.out))) (below_size (gb_ HB.out))); have n9_ := Aside0.mk (blk_below (g := gb101) (o := .cells #[.slice A0_0 l0_0.length c0_0] 24 (0, 0)) (bb_ BK101.out) hb); have n10_ := Aside0.mk (blk_below (g := gb116) (o := .cells #[.slice Ao28 t109.length co28] 26 (0, 0)) (bb_ BK116.out) hb); have n11_ := Aside0.mk (blk_below (g := gb120) (o := .cells #[.slice Ao34 t143.length co34] 26 (0, 0)) (bb_ BK120.out) hb); have n12_ := Aside0.mk (blk_below (g := gb131) (o := .cells #[.slice Ao43 t124.length co43] 26 (0, 0)) (bb_ BK131.out) hb); have n13_ := Aside0.mk (below_step (gb_ HB.out) hb); clear HO_9 HO_14 HO_117000 HO_121000 HO_132000 HO156 HO159 BK101 BK116 BK120 BK131 HB; have HO_9 := n0_; have HO_14 := n1_; have HO_117000 := n2_; have HO_121000 := n3_; have HO_132000 := n4_; have HO156 := n5_; have HO159 := n6_; have HO162 := n7_; have HO165 := n8_; have BK101 := n9_; have BK116 := n10_; have BK120 := n11_; have BK131 := n12_; have HB := n13_; clear n0_ n1_ n2_ n3_ n4_ n5_ n6_ n7_ n8_ n9_ n10_ n11_ n12_ n13_; (try clear hb); (try clear hb2); (try clear hk); (try clear hi); (try clear ho0); (try clear ho1)) | ((with_reducible refine gate_dst (N := 19) rfl ?_); refine box_event ?hg (N := 19) ?hd (cs := #[.slice none 0 0]) (t := 26) ?hr ?_; (case hd => rfl); (case hg => rfl); (case hr => first | (go_simp; done) | (go_simp; rfl)); intro gb167 hg w182 hbox hb; have n0_ := Aside0.mk (Kd.R_below (rb_ HO_9.out) hb); have n1_ := Aside0.mk (Kd.R_below (rb_ HO_14.out) hb); have n2_ := Aside0.mk (Kd.R_below (rb_ HO_117000.out) hb); have n3_ := Aside0.mk (Kd.R_below (rb_ HO_121000.out) hb); have n4_ := Aside0.mk (Kd.R_below (rb_ HO_132000.out) hb); have n5_ := Aside0.mk (Kd.R_below (rb_ HO156.out) hb); have n6_ := Aside0.mk (Kd.R_below (rb_ HO159.out) hb); have n7_ := Aside0.mk (Kd.R_below (rb_ HO162.out) hb); have n8_ := Aside0.mk (Kd.R_below (rb_ HO165.out) hb); have n9_ := Aside0.mk (blk_below (g := gb101) (o := .cells #[.slice A0_0 l0_0.length c0_0] 24 (0, 0)) (bb_ BK101.out) hb); have n10_ := Aside0.mk (blk_below (g := gb116) (o := .cells #[.slice Ao28 t109.length co28] 26 (0, 0)) (bb_ BK116.out) hb); have n11_ := Aside0.mk (blk_below (g := gb120) (o := .cells #[.slice Ao34 t143.length co34] 26 (0, 0)) (bb_ BK120.out) hb); have n12_ := Aside0.mk (blk_below (g := gb131) (o := .cells #[.slice Ao43 t124.length co43] 26 (0, 0)) (bb_ BK131.out) hb); have n13_ := Aside0.mk (below_step (gb_ HB.out) hb); have n14_ := Aside0.mk (hbox); have n15_ := Aside0.mk ((by rw [hg]; exact (below_size (gb_ HB.out)) : w.heap.size ≤ gb167)); have n16_ := Aside0.mk ((by rw [hg]; exact (below_size (gb_ HB.out)) : w.heap.size ≤ gb167)); have n17_ := Aside0.mk ((by rw [hg]; exact Nat.ne_of_lt (blk_lt (g := gb101) (o := .cells #[.slice A0_0 l0_0.length c0_0] 24 (0, 0)) (bb_ BK101.out)) : gb101 ≠ gb167)); have n18_ := Aside0.mk ((by rw [hg]; exact Nat.ne_of_gt (blk_lt (g := gb101) (o := .cells #[.slice A0_0 l0_0.length c0_0] 24 (0, 0)) (bb_ BK101.out)) : gb167 ≠ gb101)); have n19_ := Aside0.mk ((by rw [hg]; exact Nat.ne_of_lt (blk_lt (g := gb116) (o := .cells #[.slice Ao28 t109.length co28] 26 (0, 0)) (bb_ BK116.out)) : gb116 ≠ gb167)); have n20_ := Aside0.mk ((by rw [hg]; exact Nat.ne_of_gt (blk_lt (g := gb116) (o := .cells #[.slice Ao28 t109.length co28] 26 (0, 0)) (bb_ BK116.out)) : gb167 ≠ gb116)); have n21_ := Aside0.mk ((by rw [hg]; exact Nat.ne_of_lt (blk_lt (g := gb120) (o := .cells #[.slice Ao34 t143.length co34] 26 (0, 0)) (bb_ BK120.out)) : gb120 ≠ gb167)); have n22_ := Aside0.mk ((by rw [hg]; exact Nat.ne_of_gt (blk_lt (g := gb120) (o := .cells #[.slice Ao34 t143.length co34] 26 (0, 0)) (bb_ BK120.out)) : gb167 ≠ gb120)); have n23_ := Aside0.mk ((by rw [hg]; exact Nat.ne_of_lt (blk_lt (g := gb131) (o := .cells #[.slice Ao43 t124.length co43] 26 (0, 0)) (bb_ BK131.out)) : gb131 ≠ gb167)); have n24_ := Aside0.mk ((by rw [hg]; exact Nat.ne_of_gt (blk_lt (g := gb131) (o := .cells #[.slice Ao43 t124.length co43] 26 (0, 0)) (bb_ BK131.out)) : gb167 ≠ gb131)); clear HO_9 HO_14 HO_117000 HO_121000 HO_132000 HO156 HO159 HO162 HO165 BK101 BK116 BK120 BK131 HB; have HO_9 := n0_; have HO_14 := n1_; have HO_117000 := n2_; have HO_121000 := n3_; have HO_132000 := n4_; have HO156 := n5_; have HO159 := n6_; have HO162 := n7_; have HO165 := n8_; have BK101 := n9_; have BK116 := n10_; have BK120 := n11_; have BK131 := n12_; have HB := n13_; have BK167 := n14_; have GW167 := n15_; have GE167 := n16_; have NB101_167 := n17_; have NB167_101 := n18_; have NB116_167 := n19_; have NB167_116 := n20_; have NB120_167 := n21_; have NB167_120 := n22_; have NB131_167 := n23_; have NB167_131 := n24_; clear n0_ n1_ n2_ n3_ n4_ n5_ n6_ n7_ n8_ n9_ n10_ n11_ n12_ n13_ n14_ n15_ n16_ n17_ n18_ n19_ n20_ n21_ n22_ n23_ n24_ hb hbox hg; obtain ⟨Ao183, co183, eo183⟩ := Kd.R_slice HO162.out; subst eo183; have hnb184 := NB167_101.out; have hnc184 := NB101_167.out; have hnb185 := NB167_116.out; have hnc185 := NB116_167.out; have hnb186 := NB167_120.out; have hnc186 := NB120_167.out; have hnb187 := NB167_131.out; have hnc187 := NB131_167.out; have hcz188_0 : w182.cell? ⟨gb167, 0, none⟩ = some (.slice none 0 0) := (blk_cell BK167.out 0).trans rfl; have hfz188_0 := blk_frozen BK167.out 0))
              (try simp only [Act.put, List.setIfInBounds_toArray, List.set_cons_zero, List.set_cons_succ])
              go_cut [145] (fun v145 wc => ∃ (kq : Nat) (x145_163 : Bool), v145 = .bool x145_163 ∧ Aside0 (laws_FnExactAddSumPlace.j2 kq t151 t150 x145_163 t149 = some r) ∧ Aside0 (kq ≤ kj88) ∧ Aside0 (Kd.R (Kd.int .i64) 2 wc w.heap.size (fun k_ => OB_ k_ (.slice Ao28 t109.length co28) ∧ OB_ k_ (.slice Ao34 t143.length co34) ∧ OB_ k_ (.slice Ao43 t124.length co43) ∧ OB_ k_ (.slice Ao183 t160.length co183)) (.slice Ao170 t127.length co170) t151) ∧ Aside0 (Kd.R (Kd.int .i64) 2 wc w.heap.size (fun k_ => OB_ k_ (.slice Ao170 t127.length co170) ∧ OB_ k_ (.slice Ao34 t143.length co34) ∧ OB_ k_ (.slice Ao43 t124.length co43) ∧ OB_ k_ (.slice Ao183 t160.length co183)) (.slice Ao28 t109.length co28) t109) ∧ Aside0 (Kd.R (Kd.int .i64) 2 wc w.heap.size (fun k_ => OB_ k_ (.slice Ao170 t127.length co170) ∧ OB_ k_ (.slice Ao28 t109.length co28) ∧ OB_ k_ (.slice Ao43 t124.length co43) ∧ OB_ k_ (.slice Ao183 t160.length co183)) (.slice Ao34 t143.length co34) t143) ∧ Aside0 (Kd.R (Kd.int .i64) 2 wc w.heap.size (fun k_ => OB_ k_ (.slice Ao170 t127.length co170) ∧ OB_ k_ (.slice Ao28 t109.length co28) ∧ OB_ k_ (.slice Ao34 t143.length co34) ∧ OB_ k_ (.slice Ao183 t160.length co183)) (.slice Ao43 t124.length co43) t149) ∧ Aside0 (Kd.R (Kd.int .i64) 2 wc w.heap.size (fun k_ => OB_ k_ (.slice Ao170 t127.length co170) ∧ OB_ k_ (.slice Ao28 t109.length co28) ∧ OB_ k_ (.slice Ao34 t143.length co34) ∧ OB_ k_ (.slice Ao43 t124.length co43)) (.slice Ao183 t160.length co183) t160) ∧ Aside0 (wc.heap[gb101]? = some (.cells #[(.slice A0_0 l0_0.length c0_0)] 24 (0, 0))) ∧ Aside0 (wc.heap[gb116]? = some (.cells #[(.slice Ao28 t109.length co28)] 26 (0, 0))) ∧ Aside0 (wc.heap[gb120]? = some (.cells #[(.slice Ao34 t143.length co34)] 26 (0, 0))) ∧ Aside0 (wc.heap[gb131]? = some (.cells #[(.slice Ao43 t124.length co43)] 26 (0, 0))) ∧ Aside0 (wc.heap[gb167]? = some (.cells #[(.slice Ao183 t160.length co183)] 26 (0, 0))) ∧ Aside0 (Below w.heap.size w wc))
              case first =>
               have H := HC164.out
               clear HC164
               replace H := Option.bind_eq_some_iff.mp H
               obtain ⟨t168, A1890, H⟩ := H
               replace H : (if t168 = true then ((laws_eqInt64S.f kj88 t163 t112).bind fun t169 => (if t169 = true then (laws_FnExactAddSumPlace.j2 kj88 t151 t150 (t166 != t115) t149) else (laws_FnExactAddSumPlace.j2 kj88 t151 t150 true t149))) else (laws_FnExactAddSumPlace.j2 kj88 t151 t150 true t149)) = some r := H
               have A189 := Aside0.mk A1890
               clear A1890
               by_cases c190 : t168 = true
               ·subst c190
                have H1 : ((laws_eqInt64S.f kj88 t163 t112).bind fun t169 => (if t169 = true then (laws_FnExactAddSumPlace.j2 kj88 t151 t150 (t166 != t115) t149) else (laws_FnExactAddSumPlace.j2 kj88 t151 t150 true t149))) = some r := by rw [if_pos rfl] at H; exact H
                clear H
                have H := H1
                clear H1
                replace H := Option.bind_eq_some_iff.mp H
                obtain ⟨t169, A1910, H⟩ := H
                replace H : (if t169 = true then (laws_FnExactAddSumPlace.j2 kj88 t151 t150 (t166 != t115) t149) else (laws_FnExactAddSumPlace.j2 kj88 t151 t150 true t149)) = some r := H
                have A191 := Aside0.mk A1910
                clear A1910
                by_cases c192 : t169 = true
                ·subst c192
                 have H1 : (laws_FnExactAddSumPlace.j2 kj88 t151 t150 (t166 != t115) t149) = some r := by rw [if_pos rfl] at H; exact H
                 clear H
                 have H := H1
                 clear H1
                 have H' := Aside0.mk H
                 clear H
                 have hnb193 := NB167_101.out
                 have hnc193 := NB101_167.out
                 have hnb194 := NB167_116.out
                 have hnc194 := NB116_167.out
                 have hnb195 := NB167_120.out
                 have hnc195 := NB120_167.out
                 have hnb196 := NB167_131.out
                 have hnc196 := NB131_167.out
                 have hcz197_0 : w182.cell? ⟨gb167, 0, none⟩ = some (.slice none 0 0) := (blk_cell BK167.out 0).trans rfl
                 have hfz197_0 := blk_frozen BK167.out 0
                 have hnb198 := NB116_101.out
                 have hnc198 := NB101_116.out
                 have hnb199 := NB116_120.out
                 have hnc199 := NB120_116.out
                 have hnb200 := NB116_131.out
                 have hnc200 := NB131_116.out
                 have hcz201_0 : w182.cell? ⟨gb116, 0, none⟩ = some (.slice Ao28 t109.length co28) := (blk_cell BK116.out 0).trans rfl
                 have hfz201_0 := blk_frozen BK116.out 0
                 go_wp2_with (first | ((with_reducible refine gate_callee (f := 14) rfl ?_); refine goesL_ (some 133) rfl rfl Try.func14 (by kernel_rfl) rfl #[.agg #[.slice Ao183 t160.length co183], .agg #[.slice Ao28 t109.length co28]] rfl (by (try simp only [List.map_toArray, List.map_cons, List.map_nil]); first | done | rfl | (simp only [List.length_drop, List.length_take]; rfl)) ?_; (with_reducible refine (laws_eqSpace.calls kj88 _ _ t160 _ _ t109 true _ ?side1 ?side2 ?side3 ?side4 A189.out).mono ?_); (case side1 => refine (Kd.R_reads' (e := 2) (base := w.heap.size) (ok := fun _ => True) (n := t160.length) (c := co183) ?_).2.2; exact (rb_ (Kd.R_mono (Kd.R_far (p := ⟨gb167, 0, none⟩) (Kd.R_types HO162.out BK167.out (by decide)) (fun _ hk => hk.2) (.slice Ao183 t160.length co183)) (fun _ _ => trivial)))); (case side2 => exact (Kd.R_reads' HO162.out).2.1); (case side3 => refine (Kd.R_reads' (e := 2) (base := w.heap.size) (ok := fun _ => True) (n := t109.length) (c := co28) ?_).2.2; exact (rb_ (Kd.R_mono (Kd.R_far (p := ⟨gb167, 0, none⟩) (Kd.R_types HO_117000.out BK167.out (by decide)) (fun _ hk => hk.2) (.slice Ao183 t160.length co183)) (fun _ _ => trivial)))); (case side4 => exact (Kd.R_reads' HO_117000.out).2.1); rintro e w202 ⟨rfl, hb⟩; refine ⟨_, rfl, ?_⟩; have n0_ := Aside0.mk (Kd.R_below (rb_ (Kd.R_mono (Kd.R_far (p := ⟨gb167, 0, none⟩) (Kd.R_types HO_9.out BK167.out (by decide)) (fun _ hk => hk.2) (.slice Ao183 t160.length co183)) (fun _ h_ => h_.1))) hb); have n1_ := Aside0.mk (Kd.R_below (rb_ (Kd.R_mono (Kd.R_far (p := ⟨gb167, 0, none⟩) (Kd.R_types HO_14.out BK167.out (by decide)) (fun _ hk => hk.2) (.slice Ao183 t160.length co183)) (fun _ h_ => h_.1))) hb); have n2_ := Aside0.mk (Kd.R_below (rb_ (Kd.R_mono (Kd.R_far (p := ⟨gb167, 0, none⟩) (Kd.R_types HO_117000.out BK167.out (by decide)) (fun _ hk => hk.2) (.slice Ao183 t160.length co183)) (fun _ h_ => h_.1))) hb); have n3_ := Aside0.mk (Kd.R_below (rb_ (Kd.R_mono (Kd.R_far (p := ⟨gb167, 0, none⟩) (Kd.R_types HO_121000.out BK167.out (by decide)) (fun _ hk => hk.2) (.slice Ao183 t160.length co183)) (fun _ h_ => h_.1))) hb); have n4_ := Aside0.mk (Kd.R_below (rb_ (Kd.R_mono (Kd.R_far (p := ⟨gb167, 0, none⟩) (Kd.R_types HO_132000.out BK167.out (by decide)) (fun _ hk => hk.2) (.slice Ao183 t160.length co183)) (fun _ h_ => h_.1))) hb); have n5_ := Aside0.mk (Kd.R_below (rb_ (Kd.R_mono (Kd.R_far (p := ⟨gb167, 0, none⟩) (Kd.R_types HO156.out BK167.out (by decide)) (fun _ hk => hk.2) (.slice Ao183 t160.length co183)) (fun _ h_ => h_.1))) hb); have n6_ := Aside0.mk (Kd.R_below (rb_ (Kd.R_mono (Kd.R_far (p := ⟨gb167, 0, none⟩) (Kd.R_types HO159.out BK167.out (by decide)) (fun _ hk => hk.2) (.slice Ao183 t160.length co183)) (fun _ h_ => h_.1))) hb); have n7_ := Aside0.mk (Kd.R_below (rb_ (Kd.R_mono (Kd.R_far (p := ⟨gb167, 0, none⟩) (Kd.R_types HO162.out BK167.out (by decide)) (fun _ hk => hk.2) (.slice Ao183 t160.length co183)) (fun _ h_ => h_.1))) hb); have n8_ := Aside0.mk (Kd.R_below (rb_ (Kd.R_mono (Kd.R_far (p := ⟨gb167, 0, none⟩) (Kd.R_types HO165.out BK167.out (by decide)) (fun _ hk => hk.2) (.slice Ao183 t160.length co183)) (fun _ h_ => h_.1))) hb); have n9_ := Aside0.mk (blk_below (g := gb101) (o := .cells #[.slice A0_0 l0_0.length c0_0] 24 (0, 0)) (by (with_reducible repeat (first | refine blk_drewN ?_ _ | refine blk_drew ?_ | refine blk_alloc ?_ _)); refine blk_far ?_ NB101_167.out _; (with_reducible repeat (first | refine blk_drewN ?_ _ | refine blk_drew ?_ | refine blk_alloc ?_ _)); exact BK101.out) hb); have n10_ := Aside0.mk (blk_below (g := gb116) (o := .cells #[.slice Ao28 t109.length co28] 26 (0, 0)) (by (with_reducible repeat (first | refine blk_drewN ?_ _ | refine blk_drew ?_ | refine blk_alloc ?_ _)); refine blk_far ?_ NB116_167.out _; (with_reducible repeat (first | refine blk_drewN ?_ _ | refine blk_drew ?_ | refine blk_alloc ?_ _)); exact BK116.out) hb); have n11_ := Aside0.mk (blk_below (g := gb120) (o := .cells #[.slice Ao34 t143.length co34] 26 (0, 0)) (by (with_reducible repeat (first | refine blk_drewN ?_ _ | refine blk_drew ?_ | refine blk_alloc ?_ _)); refine blk_far ?_ NB120_167.out _; (with_reducible repeat (first | refine blk_drewN ?_ _ | refine blk_drew ?_ | refine blk_alloc ?_ _)); exact BK120.out) hb); have n12_ := Aside0.mk (blk_below (g := gb131) (o := .cells #[.slice Ao43 t124.length co43] 26 (0, 0)) (by (with_reducible repeat (first | refine blk_drewN ?_ _ | refine blk_drew ?_ | refine blk_alloc ?_ _)); refine blk_far ?_ NB131_167.out _; (with_reducible repeat (first | refine blk_drewN ?_ _ | refine blk_drew ?_ | refine blk_alloc ?_ _)); exact BK131.out) hb); have n13_ := Aside0.mk (blk_below (g := gb167) (o := .cells #[.slice Ao183 t160.length co183] 26 (0, 0)) (by (with_reducible repeat (first | refine blk_drewN ?_ _ | refine blk_drew ?_ | refine blk_alloc ?_ _)); refine blk_put (cs := #[.slice none 0 0]) ?_ 0 _ rfl; (with_reducible repeat (first | refine blk_drewN ?_ _ | refine blk_drew ?_ | refine blk_alloc ?_ _)); exact BK167.out) hb); have n14_ := Aside0.mk (below_step (gb_ HB.out) hb); clear HO_9 HO_14 HO_117000 HO_121000 HO_132000 HO156 HO159 HO162 HO165 BK101 BK116 BK120 BK131 BK167 HB; have HO_9 := n0_; have HO_14 := n1_; have HO_117000 := n2_; have HO_121000 := n3_; have HO_132000 := n4_; have HO156 := n5_; have HO159 := n6_; have HO162 := n7_; have HO165 := n8_; have BK101 := n9_; have BK116 := n10_; have BK120 := n11_; have BK131 := n12_; have BK167 := n13_; have HB := n14_; clear n0_ n1_ n2_ n3_ n4_ n5_ n6_ n7_ n8_ n9_ n10_ n11_ n12_ n13_ n14_; (try clear hb); (try clear hb2); (try clear hk); (try clear hi); obtain ⟨Ao203, co203, eo203⟩ := Kd.R_slice HO165.out; subst eo203; obtain ⟨Ao204, co204, eo204⟩ := Kd.R_slice HO_9.out; subst eo204) | (go_at_call 15; (with_reducible refine (laws_eqInt64S.calls kj88 _ _ t163 _ _ t112 true _ ?side1 ?side2 ?side3 ?side4 A191.out).mono ?_); (case side1 => repeat (first | exact (Kd.R_reads' HO165.out).2.2 | (with_reducible refine Kd.C_alloc ?_ _) | (with_reducible refine Kd.C_drewN ?_ _) | (with_reducible refine Kd.C_drew ?_))); (case side2 => exact (Kd.R_reads' HO165.out).2.1); (case side3 => repeat (first | exact (Kd.R_reads' HO_9.out).2.2 | (with_reducible refine Kd.C_alloc ?_ _) | (with_reducible refine Kd.C_drewN ?_ _) | (with_reducible refine Kd.C_drew ?_))); (case side4 => exact (Kd.R_reads' HO_9.out).2.1); rintro e w' ⟨rfl, ⟨nd, rfl⟩⟩))
                 go_meet
                 case rel => exact ⟨_, ((t166 != t115)), (by first | rfl | (simp; done) | (simp [*]; done)), H', ⟨by have := HJ16.out; have := HJ88.out; first | omega | exact Nat.le_refl _⟩, ⟨by (try simp only [hl121000_88]); (with_reducible repeat (first | apply Kd.R_alloc | apply Kd.R_drewN | apply Kd.R_drew)); exact Kd.R_mono HO_14.out (fun _ hk => by grind)⟩, ⟨by (try simp only [hl121000_88]); (with_reducible repeat (first | apply Kd.R_alloc | apply Kd.R_drewN | apply Kd.R_drew)); exact Kd.R_mono HO_117000.out (fun _ hk => by grind)⟩, ⟨by (try simp only [hl121000_88]); (with_reducible repeat (first | apply Kd.R_alloc | apply Kd.R_drewN | apply Kd.R_drew)); exact Kd.R_mono HO_121000.out (fun _ hk => by grind)⟩, ⟨by (try simp only [hl121000_88]); (with_reducible repeat (first | apply Kd.R_alloc | apply Kd.R_drewN | apply Kd.R_drew)); exact Kd.R_mono HO_132000.out (fun _ hk => by grind)⟩, ⟨by (try simp only [hl121000_88]); (with_reducible repeat (first | apply Kd.R_alloc | apply Kd.R_drewN | apply Kd.R_drew)); exact Kd.R_mono HO162.out (fun _ hk => by grind)⟩, ⟨by (try simp only [hl121000_88]); (with_reducible repeat (first | refine blk_drewN ?_ _ | refine blk_drew ?_ | refine blk_alloc ?_ _)); exact BK101.out⟩, ⟨by (try simp only [hl121000_88]); (with_reducible repeat (first | refine blk_drewN ?_ _ | refine blk_drew ?_ | refine blk_alloc ?_ _)); exact BK116.out⟩, ⟨by (try simp only [hl121000_88]); (with_reducible repeat (first | refine blk_drewN ?_ _ | refine blk_drew ?_ | refine blk_alloc ?_ _)); exact BK120.out⟩, ⟨by (try simp only [hl121000_88]); (with_reducible repeat (first | refine blk_drewN ?_ _ | refine blk_drew ?_ | refine blk_alloc ?_ _)); exact BK131.out⟩, ⟨by (try simp only [hl121000_88]); (with_reducible repeat (first | refine blk_drewN ?_ _ | refine blk_drew ?_ | refine blk_alloc ?_ _)); exact BK167.out⟩, ⟨gb_ HB.out⟩⟩
                ·replace c192 := Bool.eq_false_iff.mpr c192
                 subst c192
                 have H1 : (laws_FnExactAddSumPlace.j2 kj88 t151 t150 true t149) = some r := by rw [if_neg (show ¬ (false = true) by decide)] at H; exact H
                 clear H
                 have H := H1
                 clear H1
                 have H' := Aside0.mk H
                 clear H
                 have hnb205 := NB167_101.out
                 have hnc205 := NB101_167.out
                 have hnb206 := NB167_116.out
                 have hnc206 := NB116_167.out
                 have hnb207 := NB167_120.out
                 have hnc207 := NB120_167.out
                 have hnb208 := NB167_131.out
                 have hnc208 := NB131_167.out
                 have hcz209_0 : w182.cell? ⟨gb167, 0, none⟩ = some (.slice none 0 0) := (blk_cell BK167.out 0).trans rfl
                 have hfz209_0 := blk_frozen BK167.out 0
                 have hnb210 := NB116_101.out
                 have hnc210 := NB101_116.out
                 have hnb211 := NB116_120.out
                 have hnc211 := NB120_116.out
                 have hnb212 := NB116_131.out
                 have hnc212 := NB131_116.out
                 have hcz213_0 : w182.cell? ⟨gb116, 0, none⟩ = some (.slice Ao28 t109.length co28) := (blk_cell BK116.out 0).trans rfl
                 have hfz213_0 := blk_frozen BK116.out 0
                 go_wp2_with (first | ((with_reducible refine gate_callee (f := 14) rfl ?_); refine goesL_ (some 133) rfl rfl Try.func14 (by kernel_rfl) rfl #[.agg #[.slice Ao183 t160.length co183], .agg #[.slice Ao28 t109.length co28]] rfl (by (try simp only [List.map_toArray, List.map_cons, List.map_nil]); first | done | rfl | (simp only [List.length_drop, List.length_take]; rfl)) ?_; (with_reducible refine (laws_eqSpace.calls kj88 _ _ t160 _ _ t109 true _ ?side1 ?side2 ?side3 ?side4 A189.out).mono ?_); (case side1 => refine (Kd.R_reads' (e := 2) (base := w.heap.size) (ok := fun _ => True) (n := t160.length) (c := co183) ?_).2.2; exact (rb_ (Kd.R_mono (Kd.R_far (p := ⟨gb167, 0, none⟩) (Kd.R_types HO162.out BK167.out (by decide)) (fun _ hk => hk.2) (.slice Ao183 t160.length co183)) (fun _ _ => trivial)))); (case side2 => exact (Kd.R_reads' HO162.out).2.1); (case side3 => refine (Kd.R_reads' (e := 2) (base := w.heap.size) (ok := fun _ => True) (n := t109.length) (c := co28) ?_).2.2; exact (rb_ (Kd.R_mono (Kd.R_far (p := ⟨gb167, 0, none⟩) (Kd.R_types HO_117000.out BK167.out (by decide)) (fun _ hk => hk.2) (.slice Ao183 t160.length co183)) (fun _ _ => trivial)))); (case side4 => exact (Kd.R_reads' HO_117000.out).2.1); rintro e w214 ⟨rfl, hb⟩; refine ⟨_, rfl, ?_⟩; have n0_ := Aside0.mk (Kd.R_below (rb_ (Kd.R_mono (Kd.R_far (p := ⟨gb167, 0, none⟩) (Kd.R_types HO_9.out BK167.out (by decide)) (fun _ hk => hk.2) (.slice Ao183 t160.length co183)) (fun _ h_ => h_.1))) hb); have n1_ := Aside0.mk (Kd.R_below (rb_ (Kd.R_mono (Kd.R_far (p := ⟨gb167, 0, none⟩) (Kd.R_types HO_14.out BK167.out (by decide)) (fun _ hk => hk.2) (.slice Ao183 t160.length co183)) (fun _ h_ => h_.1))) hb); have n2_ := Aside0.mk (Kd.R_below (rb_ (Kd.R_mono (Kd.R_far (p := ⟨gb167, 0, none⟩) (Kd.R_types HO_117000.out BK167.out (by decide)) (fun _ hk => hk.2) (.slice Ao183 t160.length co183)) (fun _ h_ => h_.1))) hb); have n3_ := Aside0.mk (Kd.R_below (rb_ (Kd.R_mono (Kd.R_far (p := ⟨gb167, 0, none⟩) (Kd.R_types HO_121000.out BK167.out (by decide)) (fun _ hk => hk.2) (.slice Ao183 t160.length co183)) (fun _ h_ => h_.1))) hb); have n4_ := Aside0.mk (Kd.R_below (rb_ (Kd.R_mono (Kd.R_far (p := ⟨gb167, 0, none⟩) (Kd.R_types HO_132000.out BK167.out (by decide)) (fun _ hk => hk.2) (.slice Ao183 t160.length co183)) (fun _ h_ => h_.1))) hb); have n5_ := Aside0.mk (Kd.R_below (rb_ (Kd.R_mono (Kd.R_far (p := ⟨gb167, 0, none⟩) (Kd.R_types HO156.out BK167.out (by decide)) (fun _ hk => hk.2) (.slice Ao183 t160.length co183)) (fun _ h_ => h_.1))) hb); have n6_ := Aside0.mk (Kd.R_below (rb_ (Kd.R_mono (Kd.R_far (p := ⟨gb167, 0, none⟩) (Kd.R_types HO159.out BK167.out (by decide)) (fun _ hk => hk.2) (.slice Ao183 t160.length co183)) (fun _ h_ => h_.1))) hb); have n7_ := Aside0.mk (Kd.R_below (rb_ (Kd.R_mono (Kd.R_far (p := ⟨gb167, 0, none⟩) (Kd.R_types HO162.out BK167.out (by decide)) (fun _ hk => hk.2) (.slice Ao183 t160.length co183)) (fun _ h_ => h_.1))) hb); have n8_ := Aside0.mk (Kd.R_below (rb_ (Kd.R_mono (Kd.R_far (p := ⟨gb167, 0, none⟩) (Kd.R_types HO165.out BK167.out (by decide)) (fun _ hk => hk.2) (.slice Ao183 t160.length co183)) (fun _ h_ => h_.1))) hb); have n9_ := Aside0.mk (blk_below (g := gb101) (o := .cells #[.slice A0_0 l0_0.length c0_0] 24 (0, 0)) (by (with_reducible repeat (first | refine blk_drewN ?_ _ | refine blk_drew ?_ | refine blk_alloc ?_ _)); refine blk_far ?_ NB101_167.out _; (with_reducible repeat (first | refine blk_drewN ?_ _ | refine blk_drew ?_ | refine blk_alloc ?_ _)); exact BK101.out) hb); have n10_ := Aside0.mk (blk_below (g := gb116) (o := .cells #[.slice Ao28 t109.length co28] 26 (0, 0)) (by (with_reducible repeat (first | refine blk_drewN ?_ _ | refine blk_drew ?_ | refine blk_alloc ?_ _)); refine blk_far ?_ NB116_167.out _; (with_reducible repeat (first | refine blk_drewN ?_ _ | refine blk_drew ?_ | refine blk_alloc ?_ _)); exact BK116.out) hb); have n11_ := Aside0.mk (blk_below (g := gb120) (o := .cells #[.slice Ao34 t143.length co34] 26 (0, 0)) (by (with_reducible repeat (first | refine blk_drewN ?_ _ | refine blk_drew ?_ | refine blk_alloc ?_ _)); refine blk_far ?_ NB120_167.out _; (with_reducible repeat (first | refine blk_drewN ?_ _ | refine blk_drew ?_ | refine blk_alloc ?_ _)); exact BK120.out) hb); have n12_ := Aside0.mk (blk_below (g := gb131) (o := .cells #[.slice Ao43 t124.length co43] 26 (0, 0)) (by (with_reducible repeat (first | refine blk_drewN ?_ _ | refine blk_drew ?_ | refine blk_alloc ?_ _)); refine blk_far ?_ NB131_167.out _; (with_reducible repeat (first | refine blk_drewN ?_ _ | refine blk_drew ?_ | refine blk_alloc ?_ _)); exact BK131.out) hb); have n13_ := Aside0.mk (blk_below (g := gb167) (o := .cells #[.slice Ao183 t160.length co183] 26 (0, 0)) (by (with_reducible repeat (first | refine blk_drewN ?_ _ | refine blk_drew ?_ | refine blk_alloc ?_ _)); refine blk_put (cs := #[.slice none 0 0]) ?_ 0 _ rfl; (with_reducible repeat (first | refine blk_drewN ?_ _ | refine blk_drew ?_ | refine blk_alloc ?_ _)); exact BK167.out) hb); have n14_ := Aside0.mk (below_step (gb_ HB.out) hb); clear HO_9 HO_14 HO_117000 HO_121000 HO_132000 HO156 HO159 HO162 HO165 BK101 BK116 BK120 BK131 BK167 HB; have HO_9 := n0_; have HO_14 := n1_; have HO_117000 := n2_; have HO_121000 := n3_; have HO_132000 := n4_; have HO156 := n5_; have HO159 := n6_; have HO162 := n7_; have HO165 := n8_; have BK101 := n9_; have BK116 := n10_; have BK120 := n11_; have BK131 := n12_; have BK167 := n13_; have HB := n14_; clear n0_ n1_ n2_ n3_ n4_ n5_ n6_ n7_ n8_ n9_ n10_ n11_ n12_ n13_ n14_; (try clear hb); (try clear hb2); (try clear hk); (try clear hi); obtain ⟨Ao215, co215, eo215⟩ := Kd.R_slice HO165.out; subst eo215; obtain ⟨Ao216, co216, eo216⟩ := Kd.R_slice HO_9.out; subst eo216) | (go_at_call 15; (with_reducible refine (laws_eqInt64S.calls kj88 _ _ t163 _ _ t112 false _ ?side1 ?side2 ?side3 ?side4 A191.out).mono ?_); (case side1 => repeat (first | exact (Kd.R_reads' HO165.out).2.2 | (with_reducible refine Kd.C_alloc ?_ _) | (with_reducible refine Kd.C_drewN ?_ _) | (with_reducible refine Kd.C_drew ?_))); (case side2 => exact (Kd.R_reads' HO165.out).2.1); (case side3 => repeat (first | exact (Kd.R_reads' HO_9.out).2.2 | (with_reducible refine Kd.C_alloc ?_ _) | (with_reducible refine Kd.C_drewN ?_ _) | (with_reducible refine Kd.C_drew ?_))); (case side4 => exact (Kd.R_reads' HO_9.out).2.1); rintro e w' ⟨rfl, ⟨nd, rfl⟩⟩))
                 go_meet
                 case rel => exact ⟨_, (true), (by first | rfl | (simp; done) | (simp [*]; done)), H', ⟨by have := HJ16.out; have := HJ88.out; first | omega | exact Nat.le_refl _⟩, ⟨by (try simp only [hl121000_88]); (with_reducible repeat (first | apply Kd.R_alloc | apply Kd.R_drewN | apply Kd.R_drew)); exact Kd.R_mono HO_14.out (fun _ hk => by grind)⟩, ⟨by (try simp only [hl121000_88]); (with_reducible repeat (first | apply Kd.R_alloc | apply Kd.R_drewN | apply Kd.R_drew)); exact Kd.R_mono HO_117000.out (fun _ hk => by grind)⟩, ⟨by (try simp only [hl121000_88]); (with_reducible repeat (first | apply Kd.R_alloc | apply Kd.R_drewN | apply Kd.R_drew)); exact Kd.R_mono HO_121000.out (fun _ hk => by grind)⟩, ⟨by (try simp only [hl121000_88]); (with_reducible repeat (first | apply Kd.R_alloc | apply Kd.R_drewN | apply Kd.R_drew)); exact Kd.R_mono HO_132000.out (fun _ hk => by grind)⟩, ⟨by (try simp only [hl121000_88]); (with_reducible repeat (first | apply Kd.R_alloc | apply Kd.R_drewN | apply Kd.R_drew)); exact Kd.R_mono HO162.out (fun _ hk => by grind)⟩, ⟨by (try simp only [hl121000_88]); (with_reducible repeat (first | refine blk_drewN ?_ _ | refine blk_drew ?_ | refine blk_alloc ?_ _)); exact BK101.out⟩, ⟨by (try simp only [hl121000_88]); (with_reducible repeat (first | refine blk_drewN ?_ _ | refine blk_drew ?_ | refine blk_alloc ?_ _)); exact BK116.out⟩, ⟨by (try simp only [hl121000_88]); (with_reducible repeat (first | refine blk_drewN ?_ _ | refine blk_drew ?_ | refine blk_alloc ?_ _)); exact BK120.out⟩, ⟨by (try simp only [hl121000_88]); (with_reducible repeat (first | refine blk_drewN ?_ _ | refine blk_drew ?_ | refine blk_alloc ?_ _)); exact BK131.out⟩, ⟨by (try simp only [hl121000_88]); (with_reducible repeat (first | refine blk_drewN ?_ _ | refine blk_drew ?_ | refine blk_alloc ?_ _)); exact BK167.out⟩, ⟨gb_ HB.out⟩⟩
               ·replace c190 := Bool.eq_false_iff.mpr c190
                subst c190
                have H1 : (laws_FnExactAddSumPlace.j2 kj88 t151 t150 true t149) = some r := by rw [if_neg (show ¬ (false = true) by decide)] at H; exact H
                clear H
                have H := H1
                clear H1
                have H' := Aside0.mk H
                clear H
                have hnb217 := NB167_101.out
                have hnc217 := NB101_167.out
                have hnb218 := NB167_116.out
                have hnc218 := NB116_167.out
                have hnb219 := NB167_120.out
                have hnc219 := NB120_167.out
                have hnb220 := NB167_131.out
                have hnc220 := NB131_167.out
                have hcz221_0 : w182.cell? ⟨gb167, 0, none⟩ = some (.slice none 0 0) := (blk_cell BK167.out 0).trans rfl
                have hfz221_0 := blk_frozen BK167.out 0
                have hnb222 := NB116_101.out
                have hnc222 := NB101_116.out
                have hnb223 := NB116_120.out
                have hnc223 := NB120_116.out
                have hnb224 := NB116_131.out
                have hnc224 := NB131_116.out
                have hcz225_0 : w182.cell? ⟨gb116, 0, none⟩ = some (.slice Ao28 t109.length co28) := (blk_cell BK116.out 0).trans rfl
                have hfz225_0 := blk_frozen BK116.out 0
                go_wp2_with (first | ((with_reducible refine gate_callee (f := 14) rfl ?_); refine goesL_ (some 133) rfl rfl Try.func14 (by kernel_rfl) rfl #[.agg #[.slice Ao183 t160.length co183], .agg #[.slice Ao28 t109.length co28]] rfl (by (try simp only [List.map_toArray, List.map_cons, List.map_nil]); first | done | rfl | (simp only [List.length_drop, List.length_take]; rfl)) ?_; (with_reducible refine (laws_eqSpace.calls kj88 _ _ t160 _ _ t109 false _ ?side1 ?side2 ?side3 ?side4 A189.out).mono ?_); (case side1 => refine (Kd.R_reads' (e := 2) (base := w.heap.size) (ok := fun _ => True) (n := t160.length) (c := co183) ?_).2.2; exact (rb_ (Kd.R_mono (Kd.R_far (p := ⟨gb167, 0, none⟩) (Kd.R_types HO162.out BK167.out (by decide)) (fun _ hk => hk.2) (.slice Ao183 t160.length co183)) (fun _ _ => trivial)))); (case side2 => exact (Kd.R_reads' HO162.out).2.1); (case side3 => refine (Kd.R_reads' (e := 2) (base := w.heap.size) (ok := fun _ => True) (n := t109.length) (c := co28) ?_).2.2; exact (rb_ (Kd.R_mono (Kd.R_far (p := ⟨gb167, 0, none⟩) (Kd.R_types HO_117000.out BK167.out (by decide)) (fun _ hk => hk.2) (.slice Ao183 t160.length co183)) (fun _ _ => trivial)))); (case side4 => exact (Kd.R_reads' HO_117000.out).2.1); rintro e w226 ⟨rfl, hb⟩; refine ⟨_, rfl, ?_⟩; have n0_ := Aside0.mk (Kd.R_below (rb_ (Kd.R_mono (Kd.R_far (p := ⟨gb167, 0, none⟩) (Kd.R_types HO_9.out BK167.out (by decide)) (fun _ hk => hk.2) (.slice Ao183 t160.length co183)) (fun _ h_ => h_.1))) hb); have n1_ := Aside0.mk (Kd.R_below (rb_ (Kd.R_mono (Kd.R_far (p := ⟨gb167, 0, none⟩) (Kd.R_types HO_14.out BK167.out (by decide)) (fun _ hk => hk.2) (.slice Ao183 t160.length co183)) (fun _ h_ => h_.1))) hb); have n2_ := Aside0.mk (Kd.R_below (rb_ (Kd.R_mono (Kd.R_far (p := ⟨gb167, 0, none⟩) (Kd.R_types HO_117000.out BK167.out (by decide)) (fun _ hk => hk.2) (.slice Ao183 t160.length co183)) (fun _ h_ => h_.1))) hb); have n3_ := Aside0.mk (Kd.R_below (rb_ (Kd.R_mono (Kd.R_far (p := ⟨gb167, 0, none⟩) (Kd.R_types HO_121000.out BK167.out (by decide)) (fun _ hk => hk.2) (.slice Ao183 t160.length co183)) (fun _ h_ => h_.1))) hb); have n4_ := Aside0.mk (Kd.R_below (rb_ (Kd.R_mono (Kd.R_far (p := ⟨gb167, 0, none⟩) (Kd.R_types HO_132000.out BK167.out (by decide)) (fun _ hk => hk.2) (.slice Ao183 t160.length co183)) (fun _ h_ => h_.1))) hb); have n5_ := Aside0.mk (Kd.R_below (rb_ (Kd.R_mono (Kd.R_far (p := ⟨gb167, 0, none⟩) (Kd.R_types HO156.out BK167.out (by decide)) (fun _ hk => hk.2) (.slice Ao183 t160.length co183)) (fun _ h_ => h_.1))) hb); have n6_ := Aside0.mk (Kd.R_below (rb_ (Kd.R_mono (Kd.R_far (p := ⟨gb167, 0, none⟩) (Kd.R_types HO159.out BK167.out (by decide)) (fun _ hk => hk.2) (.slice Ao183 t160.length co183)) (fun _ h_ => h_.1))) hb); have n7_ := Aside0.mk (Kd.R_below (rb_ (Kd.R_mono (Kd.R_far (p := ⟨gb167, 0, none⟩) (Kd.R_types HO162.out BK167.out (by decide)) (fun _ hk => hk.2) (.slice Ao183 t160.length co183)) (fun _ h_ => h_.1))) hb); have n8_ := Aside0.mk (Kd.R_below (rb_ (Kd.R_mono (Kd.R_far (p := ⟨gb167, 0, none⟩) (Kd.R_types HO165.out BK167.out (by decide)) (fun _ hk => hk.2) (.slice Ao183 t160.length co183)) (fun _ h_ => h_.1))) hb); have n9_ := Aside0.mk (blk_below (g := gb101) (o := .cells #[.slice A0_0 l0_0.length c0_0] 24 (0, 0)) (by (with_reducible repeat (first | refine blk_drewN ?_ _ | refine blk_drew ?_ | refine blk_alloc ?_ _)); refine blk_far ?_ NB101_167.out _; (with_reducible repeat (first | refine blk_drewN ?_ _ | refine blk_drew ?_ | refine blk_alloc ?_ _)); exact BK101.out) hb); have n10_ := Aside0.mk (blk_below (g := gb116) (o := .cells #[.slice Ao28 t109.length co28] 26 (0, 0)) (by (with_reducible repeat (first | refine blk_drewN ?_ _ | refine blk_drew ?_ | refine blk_alloc ?_ _)); refine blk_far ?_ NB116_167.out _; (with_reducible repeat (first | refine blk_drewN ?_ _ | refine blk_drew ?_ | refine blk_alloc ?_ _)); exact BK116.out) hb); have n11_ := Aside0.mk (blk_below (g := gb120) (o := .cells #[.slice Ao34 t143.length co34] 26 (0, 0)) (by (with_reducible repeat (first | refine blk_drewN ?_ _ | refine blk_drew ?_ | refine blk_alloc ?_ _)); refine blk_far ?_ NB120_167.out _; (with_reducible repeat (first | refine blk_drewN ?_ _ | refine blk_drew ?_ | refine blk_alloc ?_ _)); exact BK120.out) hb); have n12_ := Aside0.mk (blk_below (g := gb131) (o := .cells #[.slice Ao43 t124.length co43] 26 (0, 0)) (by (with_reducible repeat (first | refine blk_drewN ?_ _ | refine blk_drew ?_ | refine blk_alloc ?_ _)); refine blk_far ?_ NB131_167.out _; (with_reducible repeat (first | refine blk_drewN ?_ _ | refine blk_drew ?_ | refine blk_alloc ?_ _)); exact BK131.out) hb); have n13_ := Aside0.mk (blk_below (g := gb167) (o := .cells #[.slice Ao183 t160.length co183] 26 (0, 0)) (by (with_reducible repeat (first | refine blk_drewN ?_ _ | refine blk_drew ?_ | refine blk_alloc ?_ _)); refine blk_put (cs := #[.slice none 0 0]) ?_ 0 _ rfl; (with_reducible repeat (first | refine blk_drewN ?_ _ | refine blk_drew ?_ | refine blk_alloc ?_ _)); exact BK167.out) hb); have n14_ := Aside0.mk (below_step (gb_ HB.out) hb); clear HO_9 HO_14 HO_117000 HO_121000 HO_132000 HO156 HO159 HO162 HO165 BK101 BK116 BK120 BK131 BK167 HB; have HO_9 := n0_; have HO_14 := n1_; have HO_117000 := n2_; have HO_121000 := n3_; have HO_132000 := n4_; have HO156 := n5_; have HO159 := n6_; have HO162 := n7_; have HO165 := n8_; have BK101 := n9_; have BK116 := n10_; have BK120 := n11_; have BK131 := n12_; have BK167 := n13_; have HB := n14_; clear n0_ n1_ n2_ n3_ n4_ n5_ n6_ n7_ n8_ n9_ n10_ n11_ n12_ n13_ n14_; (try clear hb); (try clear hb2); (try clear hk); (try clear hi)))
                go_meet
                case rel => exact ⟨_, (true), (by first | rfl | (simp; done) | (simp [*]; done)), H', ⟨by have := HJ16.out; have := HJ88.out; first | omega | exact Nat.le_refl _⟩, ⟨by (try simp only [hl121000_88]); (with_reducible repeat (first | apply Kd.R_alloc | apply Kd.R_drewN | apply Kd.R_drew)); exact Kd.R_mono HO_14.out (fun _ hk => by grind)⟩, ⟨by (try simp only [hl121000_88]); (with_reducible repeat (first | apply Kd.R_alloc | apply Kd.R_drewN | apply Kd.R_drew)); exact Kd.R_mono HO_117000.out (fun _ hk => by grind)⟩, ⟨by (try simp only [hl121000_88]); (with_reducible repeat (first | apply Kd.R_alloc | apply Kd.R_drewN | apply Kd.R_drew)); exact Kd.R_mono HO_121000.out (fun _ hk => by grind)⟩, ⟨by (try simp only [hl121000_88]); (with_reducible repeat (first | apply Kd.R_alloc | apply Kd.R_drewN | apply Kd.R_drew)); exact Kd.R_mono HO_132000.out (fun _ hk => by grind)⟩, ⟨by (try simp only [hl121000_88]); (with_reducible repeat (first | apply Kd.R_alloc | apply Kd.R_drewN | apply Kd.R_drew)); exact Kd.R_mono HO162.out (fun _ hk => by grind)⟩, ⟨by (try simp only [hl121000_88]); (with_reducible repeat (first | refine blk_drewN ?_ _ | refine blk_drew ?_ | refine blk_alloc ?_ _)); exact BK101.out⟩, ⟨by (try simp only [hl121000_88]); (with_reducible repeat (first | refine blk_drewN ?_ _ | refine blk_drew ?_ | refine blk_alloc ?_ _)); exact BK116.out⟩, ⟨by (try simp only [hl121000_88]); (with_reducible repeat (first | refine blk_drewN ?_ _ | refine blk_drew ?_ | refine blk_alloc ?_ _)); exact BK120.out⟩, ⟨by (try simp only [hl121000_88]); (with_reducible repeat (first | refine blk_drewN ?_ _ | refine blk_drew ?_ | refine blk_alloc ?_ _)); exact BK131.out⟩, ⟨by (try simp only [hl121000_88]); (with_reducible repeat (first | refine blk_drewN ?_ _ | refine blk_drew ?_ | refine blk_alloc ?_ _)); exact BK167.out⟩, ⟨gb_ HB.out⟩⟩
              case rest =>
               clear HC164
               try clear c1
               try clear c2
               try clear p2
               try clear c3
               try clear c4
               try clear c4b0
               try clear c4b1
               try clear c5
               try clear c6
               try clear c7
               try clear c7b0
               try clear c8
               try clear c9
               try clear c10
               try clear c11
               try clear c12
               try clear c13
               try clear c14
               try clear c15
               try clear c16
               try clear c17
               try clear c18
               try clear c19
               try clear c20
               try clear c21
               try clear c22
               try clear c29
               try clear c35
               try clear c36
               try clear c44
               try clear c45
               try clear c46
               try clear c49
               try clear c51
               try clear c52
               try clear c53
               try clear c54
               try clear c56
               try clear c57
               try clear c62
               try clear c63
               try clear c64
               try clear c66
               try clear c67
               try clear c72
               try clear c73
               try clear c74
               try clear c76
               try clear c77
               try clear c80
               try clear c83
               try clear c86
               try clear c96
               try clear c97
               try clear c98
               try clear c102
               try clear c102b0
               try clear c104
               try clear c106
               try clear c107
               try clear c108
               try clear c109
               try clear c111
               try clear c112
               try clear c117
               try clear c118
               try clear c119
               try clear c121
               try clear c122
               try clear c127
               try clear c128
               try clear c129
               try clear c131
               try clear c132
               try clear c135
               try clear c139
               try clear c139b0
               try clear c140
               try clear c141
               try clear c142
               try clear c150
               try clear c150b0
               try clear c151
               try clear c152
               try clear c153
               try clear c160
               try clear c160b0
               try clear c160b1
               try clear c165
               try clear c166
               try clear c167
               try clear c174
               try clear c175
               try clear c184
               try clear c185
               try clear c186
               try clear c187
               try clear c190
               try clear c192
               try clear c193
               try clear c194
               try clear c195
               try clear c196
               try clear c198
               try clear c199
               try clear c200
               try clear c205
               try clear c206
               try clear c207
               try clear c208
               try clear c210
               try clear c211
               try clear c212
               try clear c217
               try clear c218
               try clear c219
               try clear c220
               try clear c222
               try clear c223
               try clear c224
               try clear hcz110_0
               try clear hcz113_0
               try clear hcz120_0
               try clear hcz123_0
               try clear hcz130_0
               try clear hcz133_0
               try clear hcz143_0
               try clear hcz147_0
               try clear hcz154_0
               try clear hcz158_0
               try clear hcz168_0
               try clear hcz172_0
               try clear hcz176_0
               try clear hcz188_0
               try clear hcz197_0
               try clear hcz19_0
               try clear hcz201_0
               try clear hcz209_0
               try clear hcz213_0
               try clear hcz21_0
               try clear hcz221_0
               try clear hcz225_0
               try clear hcz30_0
               try clear hcz31_0
               try clear hcz37_0
               try clear hcz39_0
               try clear hcz47_0
               try clear hcz55_0
               try clear hcz58_0
               try clear hcz65_0
               try clear hcz68_0
               try clear hcz75_0
               try clear hcz78_0
               try clear hcz99_0
               try clear hcz9_0
               try clear hfz110_0
               try clear hfz113_0
               try clear hfz120_0
               try clear hfz123_0
               try clear hfz130_0
               try clear hfz133_0
               try clear hfz143_0
               try clear hfz147_0
               try clear hfz154_0
               try clear hfz158_0
               try clear hfz168_0
               try clear hfz172_0
               try clear hfz176_0
               try clear hfz188_0
               try clear hfz197_0
               try clear hfz19_0
               try clear hfz201_0
               try clear hfz209_0
               try clear hfz213_0
               try clear hfz21_0
               try clear hfz221_0
               try clear hfz225_0
               try clear hfz30_0
               try clear hfz31_0
               try clear hfz37_0
               try clear hfz39_0
               try clear hfz47_0
               try clear hfz55_0
               try clear hfz58_0
               try clear hfz65_0
               try clear hfz68_0
               try clear hfz75_0
               try clear hfz78_0
               try clear hfz99_0
               try clear hfz9_0
               try clear p2
               obtain ⟨kq, x145_163, rfl, HA, HJ163, HO_14, HO_117000, HO_121000, HO_132000, HO_168000, BK101, BK116, BK120, BK131, BK167, HB⟩ := hcut
               have hl14_163 := (Kd.R_reads' HO_14.out).1
               rw [hl14_163] at HO_14
               (try simp only [hl14_163])
               (try simp only [hl14_163] at BK101)
               (try simp only [hl14_163] at BK116)
               (try simp only [hl14_163] at BK120)
               (try simp only [hl14_163] at BK131)
               (try simp only [hl14_163] at BK167)
               (try simp only [hl14_163] at HO_117000)
               (try simp only [hl14_163] at HO_121000)
               (try simp only [hl14_163] at HO_132000)
               (try simp only [hl14_163] at HO_168000)
               have hl132000_163 := (Kd.R_reads' HO_132000.out).1
               rw [hl132000_163] at HO_132000
               (try simp only [hl132000_163])
               (try simp only [hl132000_163] at BK101)
               (try simp only [hl132000_163] at BK116)
               (try simp only [hl132000_163] at BK120)
               (try simp only [hl132000_163] at BK131)
               (try simp only [hl132000_163] at BK167)
               (try simp only [hl132000_163] at HO_14)
               (try simp only [hl132000_163] at HO_117000)
               (try simp only [hl132000_163] at HO_121000)
               (try simp only [hl132000_163] at HO_168000)
               cases kq with
               | zero => exact absurd HA.out (by simp [laws_FnExactAddSumPlace.j2])
               | succ kj163 =>
                have H := HA.out
                clear HA
                simp only [laws_FnExactAddSumPlace.j2] at H
                by_cases c227 : x145_163 = true
                ·subst c227
                 have H1 : (some false) = some r := by rw [if_pos rfl] at H; exact H
                 clear H
                 have H := H1
                 clear H1
                 obtain rfl := Option.some.inj H
                 go_wp2
                 go_ret
                 exact ⟨by first | rfl | (simp [errW_none, errW_some] <;> rfl) | (simp [*, errW_none, errW_some] <;> rfl), gb_ HB.out⟩
                ·replace c227 := Bool.eq_false_iff.mpr c227
                 subst c227
                 have H1 : ((laws_heldSpace.f kj163 t149 1).bind fun t170 => (if t170 < 0 then (some false) else ((laws_heldInt64S.f kj163 t151 t170).bind fun t171 => (if t171 < 0 then (some false) else (if t171 = t150 then (some true) else (some false)))))) = some r := by rw [if_neg (show ¬ (false = true) by decide)] at H; exact H
                 clear H
                 have H := H1
                 clear H1
                 replace H := Option.bind_eq_some_iff.mp H
                 obtain ⟨t170, A2280, H⟩ := H
                 replace H : (if t170 < 0 then (some false) else ((laws_heldInt64S.f kj163 t151 t170).bind fun t171 => (if t171 < 0 then (some false) else (if t171 = t150 then (some true) else (some false))))) = some r := H
                 have A228 := Aside0.mk A2280
                 clear A2280
                 by_cases c229 : t170 < 0
                 ·rw [if_pos c229] at H
                  have c229b0 : decide (t170 < 0) = true := decide_eq_true c229
                  clear c229
                  obtain rfl := Option.some.inj H
                  have hnb230 := NB131_101.out
                  have hnc230 := NB101_131.out
                  have hnb231 := NB131_116.out
                  have hnc231 := NB116_131.out
                  have hnb232 := NB131_120.out
                  have hnc232 := NB120_131.out
                  have hnb233 := NB131_167.out
                  have hnc233 := NB167_131.out
                  have hcz234_0 : wc.cell? ⟨gb131, 0, none⟩ = some (.slice Ao43 t149.length co43) := (blk_cell BK131.out 0).trans rfl
                  have hfz234_0 := blk_frozen BK131.out 0
                  go_wp2_with (first | ((with_reducible refine gate_callee (f := 18) rfl ?_); refine goesL_ (some 148) rfl rfl Try.func18 (by kernel_rfl) rfl #[.agg #[.slice Ao43 t149.length co43], .int .i64 1] rfl (by (try simp only [List.map_toArray, List.map_cons, List.map_nil]); first | done | rfl | (simp only [List.length_drop, List.length_take]; rfl)) ?_; (with_reducible refine (laws_heldSpace.calls kj163 _ _ t149 1 t170 _ ?side1 ?side2 A228.out).mono ?_); (case side1 => repeat (first | exact (Kd.R_reads' HO_132000.out).2.2 | (with_reducible refine Kd.C_alloc ?_ _) | (with_reducible refine Kd.C_drewN ?_ _) | (with_reducible refine Kd.C_drew ?_))); (case side2 => exact (Kd.R_reads' HO_132000.out).2.1); rintro e w235 ⟨rfl, hb⟩; refine ⟨_, rfl, ?_⟩; have n0_ := Aside0.mk (Kd.R_below (rb_ HO_14.out) hb); have n1_ := Aside0.mk (Kd.R_below (rb_ HO_117000.out) hb); have n2_ := Aside0.mk (Kd.R_below (rb_ HO_121000.out) hb); have n3_ := Aside0.mk (Kd.R_below (rb_ HO_132000.out) hb); have n4_ := Aside0.mk (Kd.R_below (rb_ HO_168000.out) hb); have n5_ := Aside0.mk (blk_below (g := gb101) (o := .cells #[.slice A0_0 l0_0.length c0_0] 24 (0, 0)) (bb_ BK101.out) hb); have n6_ := Aside0.mk (blk_below (g := gb116) (o := .cells #[.slice Ao28 t109.length co28] 26 (0, 0)) (bb_ BK116.out) hb); have n7_ := Aside0.mk (blk_below (g := gb120) (o := .cells #[.slice Ao34 t143.length co34] 26 (0, 0)) (bb_ BK120.out) hb); have n8_ := Aside0.mk (blk_below (g := gb131) (o := .cells #[.slice Ao43 t149.length co43] 26 (0, 0)) (bb_ BK131.out) hb); have n9_ := Aside0.mk (blk_below (g := gb167) (o := .cells #[.slice Ao183 t160.length co183] 26 (0, 0)) (bb_ BK167.out) hb); have n10_ := Aside0.mk (below_step (gb_ HB.out) hb); clear HO_14 HO_117000 HO_121000 HO_132000 HO_168000 BK101 BK116 BK120 BK131 BK167 HB; have HO_14 := n0_; have HO_117000 := n1_; have HO_121000 := n2_; have HO_132000 := n3_; have HO_168000 := n4_; have BK101 := n5_; have BK116 := n6_; have BK120 := n7_; have BK131 := n8_; have BK167 := n9_; have HB := n10_; clear n0_ n1_ n2_ n3_ n4_ n5_ n6_ n7_ n8_ n9_ n10_; (try clear hb); (try clear hb2); (try clear hk); (try clear hi)))
                  go_ret
                  exact ⟨by first | rfl | (simp [errW_none, errW_some] <;> rfl) | (simp [*, errW_none, errW_some] <;> rfl), gb_ HB.out⟩
                 ·rw [if_neg c229] at H
                  have c229b0 : decide (t170 < 0) = false := decide_eq_false c229
                  clear c229
                  replace H := Option.bind_eq_some_iff.mp H
                  obtain ⟨t171, A2360, H⟩ := H
                  replace H : (if t171 < 0 then (some false) else (if t171 = t150 then (some true) else (some false))) = some r := H
                  have A236 := Aside0.mk A2360
                  clear A2360
                  by_cases c237 : t171 < 0
                  ·rw [if_pos c237] at H
                   have c237b0 : decide (t171 < 0) = true := decide_eq_true c237
                   clear c237
                   obtain rfl := Option.some.inj H
                   have hnb238 := NB131_101.out
                   have hnc238 := NB101_131.out
                   have hnb239 := NB131_116.out
                   have hnc239 := NB116_131.out
                   have hnb240 := NB131_120.out
                   have hnc240 := NB120_131.out
                   have hnb241 := NB131_167.out
                   have hnc241 := NB167_131.out
                   have hcz242_0 : wc.cell? ⟨gb131, 0, none⟩ = some (.slice Ao43 t149.length co43) := (blk_cell BK131.out 0).trans rfl
                   have hfz242_0 := blk_frozen BK131.out 0
                   go_wp2_with (first | ((with_reducible refine gate_callee (f := 18) rfl ?_); refine goesL_ (some 148) rfl rfl Try.func18 (by kernel_rfl) rfl #[.agg #[.slice Ao43 t149.length co43], .int .i64 1] rfl (by (try simp only [List.map_toArray, List.map_cons, List.map_nil]); first | done | rfl | (simp only [List.length_drop, List.length_take]; rfl)) ?_; (with_reducible refine (laws_heldSpace.calls kj163 _ _ t149 1 t170 _ ?side1 ?side2 A228.out).mono ?_); (case side1 => repeat (first | exact (Kd.R_reads' HO_132000.out).2.2 | (with_reducible refine Kd.C_alloc ?_ _) | (with_reducible refine Kd.C_drewN ?_ _) | (with_reducible refine Kd.C_drew ?_))); (case side2 => exact (Kd.R_reads' HO_132000.out).2.1); rintro e w243 ⟨rfl, hb⟩; refine ⟨_, rfl, ?_⟩; have n0_ := Aside0.mk (Kd.R_below (rb_ HO_14.out) hb); have n1_ := Aside0.mk (Kd.R_below (rb_ HO_117000.out) hb); have n2_ := Aside0.mk (Kd.R_below (rb_ HO_121000.out) hb); have n3_ := Aside0.mk (Kd.R_below (rb_ HO_132000.out) hb); have n4_ := Aside0.mk (Kd.R_below (rb_ HO_168000.out) hb); have n5_ := Aside0.mk (blk_below (g := gb101) (o := .cells #[.slice A0_0 l0_0.length c0_0] 24 (0, 0)) (bb_ BK101.out) hb); have n6_ := Aside0.mk (blk_below (g := gb116) (o := .cells #[.slice Ao28 t109.length co28] 26 (0, 0)) (bb_ BK116.out) hb); have n7_ := Aside0.mk (blk_below (g := gb120) (o := .cells #[.slice Ao34 t143.length co34] 26 (0, 0)) (bb_ BK120.out) hb); have n8_ := Aside0.mk (blk_below (g := gb131) (o := .cells #[.slice Ao43 t149.length co43] 26 (0, 0)) (bb_ BK131.out) hb); have n9_ := Aside0.mk (blk_below (g := gb167) (o := .cells #[.slice Ao183 t160.length co183] 26 (0, 0)) (bb_ BK167.out) hb); have n10_ := Aside0.mk (below_step (gb_ HB.out) hb); clear HO_14 HO_117000 HO_121000 HO_132000 HO_168000 BK101 BK116 BK120 BK131 BK167 HB; have HO_14 := n0_; have HO_117000 := n1_; have HO_121000 := n2_; have HO_132000 := n3_; have HO_168000 := n4_; have BK101 := n5_; have BK116 := n6_; have BK120 := n7_; have BK131 := n8_; have BK167 := n9_; have HB := n10_; clear n0_ n1_ n2_ n3_ n4_ n5_ n6_ n7_ n8_ n9_ n10_; (try clear hb); (try clear hb2); (try clear hk); (try clear hi)) | ((with_reducible refine gate_callee (f := 19) rfl ?_); refine goesL_ (some 153) rfl rfl Try.func19 (by kernel_rfl) rfl #[.slice Ao170 t151.length co170, .int .i64 t170] rfl (by (try simp only [List.map_toArray, List.map_cons, List.map_nil]); first | done | rfl | (simp only [List.length_drop, List.length_take]; rfl)) ?_; (with_reducible refine (laws_heldInt64S.calls kj163 _ _ t151 t170 t171 _ ?side1 ?side2 A236.out).mono ?_); (case side1 => repeat (first | exact (Kd.R_reads' HO_14.out).2.2 | (with_reducible refine Kd.C_alloc ?_ _) | (with_reducible refine Kd.C_drewN ?_ _) | (with_reducible refine Kd.C_drew ?_))); (case side2 => exact (Kd.R_reads' HO_14.out).2.1); rintro e w' ⟨rfl, ⟨nd, rfl⟩⟩; refine ⟨_, rfl, ?_⟩))
                   go_ret
                   exact ⟨by first | rfl | (simp [errW_none, errW_some] <;> rfl) | (simp [*, errW_none, errW_some] <;> rfl), gb_ HB.out⟩
                  ·rw [if_neg c237] at H
                   have c237b0 : decide (t171 < 0) = false := decide_eq_false c237
                   clear c237
                   by_cases c244 : t171 = t150
                   ·rw [if_pos c244] at H
                    have c244b0 : (t171 == t150) = true := beq_iff_eq.mpr c244
                    have c244b1 : (t171 != t150) = false := bne_eq_false_iff_eq.mpr c244
                    clear c244
                    obtain rfl := Option.some.inj H
                    have hnb245 := NB131_101.out
                    have hnc245 := NB101_131.out
                    have hnb246 := NB131_116.out
                    have hnc246 := NB116_131.out
                    have hnb247 := NB131_120.out
                    have hnc247 := NB120_131.out
                    have hnb248 := NB131_167.out
                    have hnc248 := NB167_131.out
                    have hcz249_0 : wc.cell? ⟨gb131, 0, none⟩ = some (.slice Ao43 t149.length co43) := (blk_cell BK131.out 0).trans rfl
                    have hfz249_0 := blk_frozen BK131.out 0
                    go_wp2_with (first | ((with_reducible refine gate_callee (f := 18) rfl ?_); refine goesL_ (some 148) rfl rfl Try.func18 (by kernel_rfl) rfl #[.agg #[.slice Ao43 t149.length co43], .int .i64 1] rfl (by (try simp only [List.map_toArray, List.map_cons, List.map_nil]); first | done | rfl | (simp only [List.length_drop, List.length_take]; rfl)) ?_; (with_reducible refine (laws_heldSpace.calls kj163 _ _ t149 1 t170 _ ?side1 ?side2 A228.out).mono ?_); (case side1 => repeat (first | exact (Kd.R_reads' HO_132000.out).2.2 | (with_reducible refine Kd.C_alloc ?_ _) | (with_reducible refine Kd.C_drewN ?_ _) | (with_reducible refine Kd.C_drew ?_))); (case side2 => exact (Kd.R_reads' HO_132000.out).2.1); rintro e w250 ⟨rfl, hb⟩; refine ⟨_, rfl, ?_⟩; have n0_ := Aside0.mk (Kd.R_below (rb_ HO_14.out) hb); have n1_ := Aside0.mk (Kd.R_below (rb_ HO_117000.out) hb); have n2_ := Aside0.mk (Kd.R_below (rb_ HO_121000.out) hb); have n3_ := Aside0.mk (Kd.R_below (rb_ HO_132000.out) hb); have n4_ := Aside0.mk (Kd.R_below (rb_ HO_168000.out) hb); have n5_ := Aside0.mk (blk_below (g := gb101) (o := .cells #[.slice A0_0 l0_0.length c0_0] 24 (0, 0)) (bb_ BK101.out) hb); have n6_ := Aside0.mk (blk_below (g := gb116) (o := .cells #[.slice Ao28 t109.length co28] 26 (0, 0)) (bb_ BK116.out) hb); have n7_ := Aside0.mk (blk_below (g := gb120) (o := .cells #[.slice Ao34 t143.length co34] 26 (0, 0)) (bb_ BK120.out) hb); have n8_ := Aside0.mk (blk_below (g := gb131) (o := .cells #[.slice Ao43 t149.length co43] 26 (0, 0)) (bb_ BK131.out) hb); have n9_ := Aside0.mk (blk_below (g := gb167) (o := .cells #[.slice Ao183 t160.length co183] 26 (0, 0)) (bb_ BK167.out) hb); have n10_ := Aside0.mk (below_step (gb_ HB.out) hb); clear HO_14 HO_117000 HO_121000 HO_132000 HO_168000 BK101 BK116 BK120 BK131 BK167 HB; have HO_14 := n0_; have HO_117000 := n1_; have HO_121000 := n2_; have HO_132000 := n3_; have HO_168000 := n4_; have BK101 := n5_; have BK116 := n6_; have BK120 := n7_; have BK131 := n8_; have BK167 := n9_; have HB := n10_; clear n0_ n1_ n2_ n3_ n4_ n5_ n6_ n7_ n8_ n9_ n10_; (try clear hb); (try clear hb2); (try clear hk); (try clear hi)) | ((with_reducible refine gate_callee (f := 19) rfl ?_); refine goesL_ (some 153) rfl rfl Try.func19 (by kernel_rfl) rfl #[.slice Ao170 t151.length co170, .int .i64 t170] rfl (by (try simp only [List.map_toArray, List.map_cons, List.map_nil]); first | done | rfl | (simp only [List.length_drop, List.length_take]; rfl)) ?_; (with_reducible refine (laws_heldInt64S.calls kj163 _ _ t151 t170 t171 _ ?side1 ?side2 A236.out).mono ?_); (case side1 => repeat (first | exact (Kd.R_reads' HO_14.out).2.2 | (with_reducible refine Kd.C_alloc ?_ _) | (with_reducible refine Kd.C_drewN ?_ _) | (with_reducible refine Kd.C_drew ?_))); (case side2 => exact (Kd.R_reads' HO_14.out).2.1); rintro e w' ⟨rfl, ⟨nd, rfl⟩⟩; refine ⟨_, rfl, ?_⟩))
                    go_ret
                    exact ⟨by first | rfl | (simp [errW_none, errW_some] <;> rfl) | (simp [*, errW_none, errW_some] <;> rfl), gb_ HB.out⟩
                   ·rw [if_neg c244] at H
                    have c244b0 : (t171 == t150) = false := beq_eq_false_iff_ne.mpr c244
                    have c244b1 : (t171 != t150) = true := bne_iff_ne.mpr c244
                    obtain rfl := Option.some.inj H
                    have hnb251 := NB131_101.out
                    have hnc251 := NB101_131.out
                    have hnb252 := NB131_116.out
                    have hnc252 := NB116_131.out
                    have hnb253 := NB131_120.out
                    have hnc253 := NB120_131.out
                    have hnb254 := NB131_167.out
                    have hnc254 := NB167_131.out
                    have hcz255_0 : wc.cell? ⟨gb131, 0, none⟩ = some (.slice Ao43 t149.length co43) := (blk_cell BK131.out 0).trans rfl
                    have hfz255_0 := blk_frozen BK131.out 0
                    go_wp2_with (first | ((with_reducible refine gate_callee (f := 18) rfl ?_); refine goesL_ (some 148) rfl rfl Try.func18 (by kernel_rfl) rfl #[.agg #[.slice Ao43 t149.length co43], .int .i64 1] rfl (by (try simp only [List.map_toArray, List.map_cons, List.map_nil]); first | done | rfl | (simp only [List.length_drop, List.length_take]; rfl)) ?_; (with_reducible refine (laws_heldSpace.calls kj163 _ _ t149 1 t170 _ ?side1 ?side2 A228.out).mono ?_); (case side1 => repeat (first | exact (Kd.R_reads' HO_132000.out).2.2 | (with_reducible refine Kd.C_alloc ?_ _) | (with_reducible refine Kd.C_drewN ?_ _) | (with_reducible refine Kd.C_drew ?_))); (case side2 => exact (Kd.R_reads' HO_132000.out).2.1); rintro e w256 ⟨rfl, hb⟩; refine ⟨_, rfl, ?_⟩; have n0_ := Aside0.mk (Kd.R_below (rb_ HO_14.out) hb); have n1_ := Aside0.mk (Kd.R_below (rb_ HO_117000.out) hb); have n2_ := Aside0.mk (Kd.R_below (rb_ HO_121000.out) hb); have n3_ := Aside0.mk (Kd.R_below (rb_ HO_132000.out) hb); have n4_ := Aside0.mk (Kd.R_below (rb_ HO_168000.out) hb); have n5_ := Aside0.mk (blk_below (g := gb101) (o := .cells #[.slice A0_0 l0_0.length c0_0] 24 (0, 0)) (bb_ BK101.out) hb); have n6_ := Aside0.mk (blk_below (g := gb116) (o := .cells #[.slice Ao28 t109.length co28] 26 (0, 0)) (bb_ BK116.out) hb); have n7_ := Aside0.mk (blk_below (g := gb120) (o := .cells #[.slice Ao34 t143.length co34] 26 (0, 0)) (bb_ BK120.out) hb); have n8_ := Aside0.mk (blk_below (g := gb131) (o := .cells #[.slice Ao43 t149.length co43] 26 (0, 0)) (bb_ BK131.out) hb); have n9_ := Aside0.mk (blk_below (g := gb167) (o := .cells #[.slice Ao183 t160.length co183] 26 (0, 0)) (bb_ BK167.out) hb); have n10_ := Aside0.mk (below_step (gb_ HB.out) hb); clear HO_14 HO_117000 HO_121000 HO_132000 HO_168000 BK101 BK116 BK120 BK131 BK167 HB; have HO_14 := n0_; have HO_117000 := n1_; have HO_121000 := n2_; have HO_132000 := n3_; have HO_168000 := n4_; have BK101 := n5_; have BK116 := n6_; have BK120 := n7_; have BK131 := n8_; have BK167 := n9_; have HB := n10_; clear n0_ n1_ n2_ n3_ n4_ n5_ n6_ n7_ n8_ n9_ n10_; (try clear hb); (try clear hb2); (try clear hk); (try clear hi)) | ((with_reducible refine gate_callee (f := 19) rfl ?_); refine goesL_ (some 153) rfl rfl Try.func19 (by kernel_rfl) rfl #[.slice Ao170 t151.length co170, .int .i64 t170] rfl (by (try simp only [List.map_toArray, List.map_cons, List.map_nil]); first | done | rfl | (simp only [List.length_drop, List.length_take]; rfl)) ?_; (with_reducible refine (laws_heldInt64S.calls kj163 _ _ t151 t170 t171 _ ?side1 ?side2 A236.out).mono ?_); (case side1 => repeat (first | exact (Kd.R_reads' HO_14.out).2.2 | (with_reducible refine Kd.C_alloc ?_ _) | (with_reducible refine Kd.C_drewN ?_ _) | (with_reducible refine Kd.C_drew ?_))); (case side2 => exact (Kd.R_reads' HO_14.out).2.1); rintro e w' ⟨rfl, ⟨nd, rfl⟩⟩; refine ⟨_, rfl, ?_⟩))
                    go_ret
                    exact ⟨by first | rfl | (simp [errW_none, errW_some] <;> rfl) | (simp [*, errW_none, errW_some] <;> rfl), gb_ HB.out⟩
             ·rw [if_neg c160] at H
              have c160b0 : (t153 == t150) = false := beq_eq_false_iff_ne.mpr c160
              have c160b1 : (t153 != t150) = true := bne_iff_ne.mpr c160
              obtain rfl := Option.some.inj H
              have hnb257 := NB131_101.out
              have hnc257 := NB101_131.out
              have hnb258 := NB131_116.out
              have hnc258 := NB116_131.out
              have hnb259 := NB131_120.out
              have hnc259 := NB120_131.out
              have hcz260_0 : wc.cell? ⟨gb131, 0, none⟩ = some (.slice Ao43 t124.length co43) := (blk_cell BK131.out 0).trans rfl
              have hfz260_0 := blk_frozen BK131.out 0
              go_wp2_with (first | ((with_reducible refine gate_callee (f := 16) rfl ?_); refine goesL_ (some 104) rfl rfl Try.func16 (by kernel_rfl) rfl #[.agg #[.slice Ao43 t124.length co43], .int .i64 1] rfl (by (try simp only [List.map_toArray, List.map_cons, List.map_nil]); first | done | rfl | (simp only [List.length_drop, List.length_take]; rfl)) ?_; (with_reducible refine (laws_markSpace.calls kj88 (fun k_ => some k_ = (.slice Ao43 t124.length co43 : Value).ownBlock) (.slice Ao43 t124.length co43) t124 1 t148 t149 w _ ?side1 ?side2 A136.out).mono ?_); (case side1 => repeat (first | (with_reducible first | exact HB.out | apply below_alloc | apply pw_below_drewN | apply below_drew1 | refine below_set ?_ GE101.out | refine below_set ?_ GE116.out | refine below_set ?_ GE120.out | refine below_set ?_ GE131.out) | exact HB.out)); (case side2 => exact Kd.R_tight rfl HO_132000.out); rintro e w261 ⟨rfl, hy0, hb, hkp⟩; refine ⟨_, rfl, ?_⟩; have n0_ := Aside0.mk (Kd.R_mono (ok' := fun k_ => OB_ k_ v128 ∧ OB_ k_ (.slice Ao28 t109.length co28) ∧ OB_ k_ (.slice Ao34 t143.length co34) ∧ OB_ k_ (.slice Ao43 t124.length co43)) (Kd.R_keptB (HO_9.out) hkp (fun k_ hk_ hs_ => (hk_.2.2.2) hs_)) (fun k_ hk_ => ⟨hk_.1.1, hk_.1.2.1, hk_.1.2.2.1, hk_.1.2.2.2⟩)); have n1_ := Aside0.mk (Kd.R_mono (ok' := fun k_ => OB_ k_ v113 ∧ OB_ k_ (.slice Ao28 t109.length co28) ∧ OB_ k_ (.slice Ao34 t143.length co34) ∧ OB_ k_ (.slice Ao43 t124.length co43)) (Kd.R_keptB (HO_14.out) hkp (fun k_ hk_ hs_ => (hk_.2.2.2) hs_)) (fun k_ hk_ => ⟨hk_.1.1, hk_.1.2.1, hk_.1.2.2.1, hk_.1.2.2.2⟩)); have n2_ := Aside0.mk (Kd.R_mono (ok' := fun k_ => OB_ k_ v113 ∧ OB_ k_ v128 ∧ OB_ k_ (.slice Ao34 t143.length co34) ∧ OB_ k_ (.slice Ao43 t124.length co43)) (Kd.R_keptB (HO_117000.out) hkp (fun k_ hk_ hs_ => (hk_.2.2.2) hs_)) (fun k_ hk_ => ⟨hk_.1.1, hk_.1.2.1, hk_.1.2.2.1, hk_.1.2.2.2⟩)); have n3_ := Aside0.mk (Kd.R_mono (ok' := fun k_ => OB_ k_ v113 ∧ OB_ k_ v128 ∧ OB_ k_ (.slice Ao28 t109.length co28) ∧ OB_ k_ (.slice Ao43 t124.length co43)) (Kd.R_keptB (HO_121000.out) hkp (fun k_ hk_ hs_ => (hk_.2.2.2) hs_)) (fun k_ hk_ => ⟨hk_.1.1, hk_.1.2.1, hk_.1.2.2.1, hk_.1.2.2.2⟩)); have n4_ := Aside0.mk (Kd.R_reok rfl hy0 (fun k_ e_ => HO_132000.out.1 k_ e_)); have n5_ := Aside0.mk (blk_kept (bb_ BK101.out) hkp (fun hs_ => (fun e_ => (Kd.R_ne HO_132000.out BK101.out (by decide)) e_) hs_)); have n6_ := Aside0.mk (blk_kept (bb_ BK116.out) hkp (fun hs_ => (fun e_ => (Kd.R_ne HO_132000.out BK116.out (by decide)) e_) hs_)); have n7_ := Aside0.mk (blk_kept (bb_ BK120.out) hkp (fun hs_ => (fun e_ => (Kd.R_ne HO_132000.out BK120.out (by decide)) e_) hs_)); have n8_ := Aside0.mk (blk_kept (bb_ BK131.out) hkp (fun hs_ => (fun e_ => (Kd.R_ne HO_132000.out BK131.out (by decide)) e_) hs_)); have n9_ := Aside0.mk (hb); clear HO_9 HO_14 HO_117000 HO_121000 HO_132000 BK101 BK116 BK120 BK131 HB; have HO_9 := n0_; have HO_14 := n1_; have HO_117000 := n2_; have HO_121000 := n3_; have HO_132000 := n4_; have BK101 := n5_; have BK116 := n6_; have BK120 := n7_; have BK131 := n8_; have HB := n9_; clear n0_ n1_ n2_ n3_ n4_ n5_ n6_ n7_ n8_ n9_; (try clear hb); (try clear hkp); (try clear hy0); obtain ⟨Ao262, co262, eo262⟩ := Kd.R_slice HO_14.out; subst eo262) | ((with_reducible refine gate_callee (f := 17) rfl ?_); refine goesL_ (some 107) rfl rfl Try.func17 (by kernel_rfl) rfl #[.slice Ao262 t127.length co262, .int .i64 t148] rfl (by (try simp only [List.map_toArray, List.map_cons, List.map_nil]); first | done | rfl | (simp only [List.length_drop, List.length_take]; rfl)) ?_; (with_reducible refine (laws_markInt64S.calls kj88 (fun k_ => some k_ = (.slice Ao262 t127.length co262 : Value).ownBlock) (.slice Ao262 t127.length co262) t127 t148 t150 t151 w _ ?side1 ?side2 A137.out).mono ?_); (case side1 => repeat (first | (with_reducible first | exact HB.out | apply below_alloc | apply pw_below_drewN | apply below_drew1 | refine below_set ?_ GE101.out | refine below_set ?_ GE116.out | refine below_set ?_ GE120.out | refine below_set ?_ GE131.out) | exact HB.out)); (case side2 => exact Kd.R_tight rfl HO_14.out); rintro e w263 ⟨rfl, hy0, hb, hkp⟩; refine ⟨_, rfl, ?_⟩; have n0_ := Aside0.mk (Kd.R_mono (ok' := fun k_ => OB_ k_ (.slice Ao262 t127.length co262) ∧ OB_ k_ (.slice Ao28 t109.length co28) ∧ OB_ k_ (.slice Ao34 t143.length co34) ∧ OB_ k_ (.slice Ao43 t124.length co43)) (Kd.R_keptB (HO_9.out) hkp (fun k_ hk_ hs_ => (hk_.1) hs_)) (fun k_ hk_ => ⟨hk_.1.1, hk_.1.2.1, hk_.1.2.2.1, hk_.1.2.2.2⟩)); have n1_ := Aside0.mk (Kd.R_reok rfl hy0 (fun k_ e_ => HO_14.out.1 k_ e_)); have n2_ := Aside0.mk (Kd.R_mono (ok' := fun k_ => OB_ k_ v113 ∧ OB_ k_ (.slice Ao262 t127.length co262) ∧ OB_ k_ (.slice Ao34 t143.length co34) ∧ OB_ k_ (.slice Ao43 t124.length co43)) (Kd.R_keptB (HO_117000.out) hkp (fun k_ hk_ hs_ => (hk_.2.1) hs_)) (fun k_ hk_ => ⟨hk_.1.1, hk_.1.2.1, hk_.1.2.2.1, hk_.1.2.2.2⟩)); have n3_ := Aside0.mk (Kd.R_mono (ok' := fun k_ => OB_ k_ v113 ∧ OB_ k_ (.slice Ao262 t127.length co262) ∧ OB_ k_ (.slice Ao28 t109.length co28) ∧ OB_ k_ (.slice Ao43 t124.length co43)) (Kd.R_keptB (HO_121000.out) hkp (fun k_ hk_ hs_ => (hk_.2.1) hs_)) (fun k_ hk_ => ⟨hk_.1.1, hk_.1.2.1, hk_.1.2.2.1, hk_.1.2.2.2⟩)); have n4_ := Aside0.mk (Kd.R_mono (ok' := fun k_ => OB_ k_ v113 ∧ OB_ k_ (.slice Ao262 t127.length co262) ∧ OB_ k_ (.slice Ao28 t109.length co28) ∧ OB_ k_ (.slice Ao34 t143.length co34)) (Kd.R_keptB (HO_132000.out) hkp (fun k_ hk_ hs_ => (hk_.2.1) hs_)) (fun k_ hk_ => ⟨hk_.1.1, hk_.1.2.1, hk_.1.2.2.1, hk_.1.2.2.2⟩)); have n5_ := Aside0.mk (blk_kept (bb_ BK101.out) hkp (fun hs_ => (fun e_ => (Kd.R_ne HO_14.out BK101.out (by decide)) e_) hs_)); have n6_ := Aside0.mk (blk_kept (bb_ BK116.out) hkp (fun hs_ => (fun e_ => (Kd.R_ne HO_14.out BK116.out (by decide)) e_) hs_)); have n7_ := Aside0.mk (blk_kept (bb_ BK120.out) hkp (fun hs_ => (fun e_ => (Kd.R_ne HO_14.out BK120.out (by decide)) e_) hs_)); have n8_ := Aside0.mk (blk_kept (bb_ BK131.out) hkp (fun hs_ => (fun e_ => (Kd.R_ne HO_14.out BK131.out (by decide)) e_) hs_)); have n9_ := Aside0.mk (hb); clear HO_9 HO_14 HO_117000 HO_121000 HO_132000 BK101 BK116 BK120 BK131 HB; have HO_9 := n0_; have HO_14 := n1_; have HO_117000 := n2_; have HO_121000 := n3_; have HO_132000 := n4_; have BK101 := n5_; have BK116 := n6_; have BK120 := n7_; have BK131 := n8_; have HB := n9_; clear n0_ n1_ n2_ n3_ n4_ n5_ n6_ n7_ n8_ n9_; (try clear hb); (try clear hkp); (try clear hy0); have hcz264_0 : w263.cell? ⟨gb131, 0, none⟩ = some (.slice Ao43 t124.length co43) := (blk_cell BK131.out 0).trans rfl; have hfz264_0 := blk_frozen BK131.out 0) | ((with_reducible refine gate_callee (f := 18) rfl ?_); refine goesL_ (some 110) rfl rfl Try.func18 (by kernel_rfl) rfl #[.agg #[.slice Ao43 t149.length co43], .int .i64 1] rfl (by (try simp only [List.map_toArray, List.map_cons, List.map_nil]); first | done | (rw [show t149.length = t124.length from (Kd.R_reads' HO_132000.out).1.symm] <;> rfl) | rfl | (simp only [List.length_drop, List.length_take]; rfl)) ?_; (with_reducible refine (laws_heldSpace.calls kj88 _ _ t149 1 t152 _ ?side1 ?side2 A138.out).mono ?_); (case side1 => repeat (first | exact (Kd.R_reads' HO_132000.out).2.2 | (with_reducible refine Kd.C_alloc ?_ _) | (with_reducible refine Kd.C_drewN ?_ _) | (with_reducible refine Kd.C_drew ?_))); (case side2 => rw [show t149.length = t124.length from (Kd.R_reads' HO_132000.out).1.symm]; exact (Kd.R_reads' HO_132000.out).2.1); rintro e w265 ⟨rfl, hb⟩; refine ⟨_, rfl, ?_⟩; have n0_ := Aside0.mk (Kd.R_below (rb_ HO_9.out) hb); have n1_ := Aside0.mk (Kd.R_below (rb_ HO_14.out) hb); have n2_ := Aside0.mk (Kd.R_below (rb_ HO_117000.out) hb); have n3_ := Aside0.mk (Kd.R_below (rb_ HO_121000.out) hb); have n4_ := Aside0.mk (Kd.R_below (rb_ HO_132000.out) hb); have n5_ := Aside0.mk (blk_below (g := gb101) (o := .cells #[.slice A0_0 l0_0.length c0_0] 24 (0, 0)) (bb_ BK101.out) hb); have n6_ := Aside0.mk (blk_below (g := gb116) (o := .cells #[.slice Ao28 t109.length co28] 26 (0, 0)) (bb_ BK116.out) hb); have n7_ := Aside0.mk (blk_below (g := gb120) (o := .cells #[.slice Ao34 t143.length co34] 26 (0, 0)) (bb_ BK120.out) hb); have n8_ := Aside0.mk (blk_below (g := gb131) (o := .cells #[.slice Ao43 t124.length co43] 26 (0, 0)) (bb_ BK131.out) hb); have n9_ := Aside0.mk (below_step (gb_ HB.out) hb); clear HO_9 HO_14 HO_117000 HO_121000 HO_132000 BK101 BK116 BK120 BK131 HB; have HO_9 := n0_; have HO_14 := n1_; have HO_117000 := n2_; have HO_121000 := n3_; have HO_132000 := n4_; have BK101 := n5_; have BK116 := n6_; have BK120 := n7_; have BK131 := n8_; have HB := n9_; clear n0_ n1_ n2_ n3_ n4_ n5_ n6_ n7_ n8_ n9_; (try clear hb); (try clear hb2); (try clear hk); (try clear hi)) | ((with_reducible refine gate_callee (f := 19) rfl ?_); refine goesL_ (some 115) rfl rfl Try.func19 (by kernel_rfl) rfl #[.slice Ao262 t151.length co262, .int .i64 t152] rfl (by (try simp only [List.map_toArray, List.map_cons, List.map_nil]); first | done | (rw [show t151.length = t127.length from (Kd.R_reads' HO_14.out).1.symm] <;> rfl) | rfl | (simp only [List.length_drop, List.length_take]; rfl)) ?_; (with_reducible refine (laws_heldInt64S.calls kj88 _ _ t151 t152 t153 _ ?side1 ?side2 A149.out).mono ?_); (case side1 => repeat (first | exact (Kd.R_reads' HO_14.out).2.2 | (with_reducible refine Kd.C_alloc ?_ _) | (with_reducible refine Kd.C_drewN ?_ _) | (with_reducible refine Kd.C_drew ?_))); (case side2 => rw [show t151.length = t127.length from (Kd.R_reads' HO_14.out).1.symm]; exact (Kd.R_reads' HO_14.out).2.1); rintro e w' ⟨rfl, ⟨nd, rfl⟩⟩; refine ⟨_, rfl, ?_⟩))
              go_ret
              exact ⟨by first | rfl | (simp [errW_none, errW_some] <;> rfl) | (simp [*, errW_none, errW_some] <;> rfl), gb_ HB.out⟩
       ·replace c86 := Bool.eq_false_iff.mpr c86
        subst c86
        have H1 : (some false) = some r := by rw [if_neg (show ¬ (false = true) by decide)] at H; exact H
        clear H
        have H := H1
        clear H1
        obtain rfl := Option.some.inj H
        try go_wp2
        have n0_ := Aside0.mk (Kd.R_drew HO_9.out)
        have n1_ := Aside0.mk (Kd.R_drew HO_12.out)
        have n2_ := Aside0.mk (Kd.R_drew HO_14.out)
        have n3_ := Aside0.mk (Kd.R_drew HO_117000.out)
        have n4_ := Aside0.mk (Kd.R_drew HO_121000.out)
        have n5_ := Aside0.mk (Kd.R_drew HO_132000.out)
        have n6_ := Aside0.mk (blk_drew BK101.out)
        have n7_ := Aside0.mk (blk_drew BK116.out)
        have n8_ := Aside0.mk (blk_drew BK120.out)
        have n9_ := Aside0.mk (blk_drew BK131.out)
        have n10_ := Aside0.mk (below_drew1 HB.out)
        clear HO_9 HO_12 HO_14 HO_117000 HO_121000 HO_132000 BK101 BK116 BK120 BK131 HB
        have HO_9 := n0_
        have HO_12 := n1_
        have HO_14 := n2_
        have HO_117000 := n3_
        have HO_121000 := n4_
        have HO_132000 := n5_
        have BK101 := n6_
        have BK116 := n7_
        have BK120 := n8_
        have BK131 := n9_
        have HB := n10_
        clear n0_ n1_ n2_ n3_ n4_ n5_ n6_ n7_ n8_ n9_ n10_
        refine start_ (n := 5) (S := fun w' => w'.cell? ⟨gb120, 0, none⟩ = some (.slice Ao34 t117.length co34) ∧ w'.cell? ⟨gb101, 0, none⟩ = some (.slice A0_0 l0_0.length c0_0)) (ds := []) #[false, false, false, false, false] (by kernel_rfl) rfl rfl ⟨(blk_cell BK120.out 0).trans rfl, (blk_cell BK101.out 0).trans rfl⟩ (fun hHeld => ?_)
        generalize wc.drew = w266 at HO_9 HO_12 HO_14 HO_117000 HO_121000 HO_132000 BK101 BK116 BK120 BK131 HB hHeld ⊢
        refine take_ (i := 0) (N := some 67) (v := ?_) (a' := ?_) #[true, false, false, false, false] rfl rfl (by kernel_rfl) (fun _ _ _ h => h) (Or.inl ⟨by rfl, ?_⟩) hHeld ?_ ?_
        rotate_left
        ·rintro w' ⟨s0, s1⟩
         go_simp
         with_reducible rfl
        rotate_left
        ·simp only [Act.put, List.setIfInBounds_toArray, List.set_cons_zero, List.set_cons_succ, i64_w, i32_w]
         rfl
        refine take_ (i := 1) (N := some 68) (v := ?_) (a' := ?_) #[true, true, false, false, false] rfl rfl (by kernel_rfl) (fun _ _ _ h => h) (Or.inl ⟨by rfl, ?_⟩) hHeld ?_ ?_
        rotate_left
        ·rintro w' ⟨s0, s1⟩
         go_simp
         with_reducible rfl
        rotate_left
        ·simp only [Act.put, List.setIfInBounds_toArray, List.set_cons_zero, List.set_cons_succ, i64_w, i32_w]
         rfl
        refine one_ (i := 2) (N := some 69) #[true, true, true, false, false] rfl rfl (by kernel_rfl) (by decide) (fun K hK => ?_)
        refine goes_ Try.func11 (by kernel_rfl) rfl #[.agg #[.slice A0_0 l0_0.length c0_0]] (by rfl) rfl rfl (by (try simp only [List.map_toArray, List.map_cons, List.map_nil]); first | done | rfl | (simp only [List.length_drop, List.length_take]; rfl)) ?_
        with_reducible refine (laws_toSpace.calls kj16 _ _ l0_0 t134 _ ?side1 ?side2 A81.out).mono ?_
        (case side1 => repeat (first | exact (Kd.C_below HR0_0.out HB.out) | (with_reducible refine Kd.C_alloc ?_ _) | (with_reducible refine Kd.C_drewN ?_ _) | (with_reducible refine Kd.C_drew ?_)))
        (case side2 => exact HC0_0.out)
        rintro e w267 ⟨v135, rfl, ho0, hb⟩
        refine ⟨_, rfl, ?_⟩
        have n0_ := Aside0.mk (Kd.R_elder' (rb_ HO_9.out) (Kd.R_base ho0) hb)
        have n1_ := Aside0.mk (Kd.R_elder' (rb_ HO_12.out) (Kd.R_base ho0) hb)
        have n2_ := Aside0.mk (Kd.R_elder' (rb_ HO_14.out) (Kd.R_base ho0) hb)
        have n3_ := Aside0.mk (Kd.R_elder' (rb_ HO_117000.out) (Kd.R_base ho0) hb)
        have n4_ := Aside0.mk (Kd.R_elder' (rb_ HO_121000.out) (Kd.R_base ho0) hb)
        have n5_ := Aside0.mk (Kd.R_elder' (rb_ HO_132000.out) (Kd.R_base ho0) hb)
        have n6_ := Aside0.mk (Kd.R_lower (Kd.R_new' (Kd.R_new' (Kd.R_new' (Kd.R_new' (Kd.R_new' (Kd.R_new' ho0 (Kd.R_lt (rb_ HO_9.out))) (Kd.R_lt (rb_ HO_12.out))) (Kd.R_lt (rb_ HO_14.out))) (Kd.R_lt (rb_ HO_117000.out))) (Kd.R_lt (rb_ HO_121000.out))) (Kd.R_lt (rb_ HO_132000.out))) (below_size (gb_ HB.out)))
        have n7_ := Aside0.mk (blk_below (g := gb101) (o := .cells #[.slice A0_0 l0_0.length c0_0] 24 (0, 0)) (bb_ BK101.out) hb)
        have n8_ := Aside0.mk (blk_below (g := gb116) (o := .cells #[.slice Ao28 t109.length co28] 26 (0, 0)) (bb_ BK116.out) hb)
        have n9_ := Aside0.mk (blk_below (g := gb120) (o := .cells #[.slice Ao34 t117.length co34] 26 (0, 0)) (bb_ BK120.out) hb)
        have n10_ := Aside0.mk (blk_below (g := gb131) (o := .cells #[.slice Ao43 t124.length co43] 26 (0, 0)) (bb_ BK131.out) hb)
        have n11_ := Aside0.mk (below_step (gb_ HB.out) hb)
        clear HO_9 HO_12 HO_14 HO_117000 HO_121000 HO_132000 BK101 BK116 BK120 BK131 HB
        have HO_9 := n0_
        have HO_12 := n1_
        have HO_14 := n2_
        have HO_117000 := n3_
        have HO_121000 := n4_
        have HO_132000 := n5_
        have HO136 := n6_
        have BK101 := n7_
        have BK116 := n8_
        have BK120 := n9_
        have BK131 := n10_
        have HB := n11_
        clear n0_ n1_ n2_ n3_ n4_ n5_ n6_ n7_ n8_ n9_ n10_ n11_
        (try clear hb)
        (try clear hb2)
        (try clear hk)
        (try clear hi)
        (try clear ho0)
        obtain ⟨Ao268, co268, eo268⟩ := Kd.R_slice HO136.out
        (first | subst eo268 | (injection eo268 with f1_ f2_ f3_; have f4_ := f1_.symm; have f5_ := f3_.symm; clear f1_ f2_ f3_; subst f4_; subst f5_))
        refine hK.out _ _ ⟨(blk_cell BK120.out 0).trans rfl, (blk_cell BK101.out 0).trans rfl⟩ (fun hHeld => ?_)
        clear hK K
        refine norm_ (a' := ?_) ?_ ?_
        rotate_left
        ·show Act.put _ (some 69) _ = _
         simp only [Act.put, List.setIfInBounds_toArray, List.set_cons_zero, List.set_cons_succ, i64_w, i32_w]
         rfl
        refine one_ (i := 3) (N := some 70) #[true, true, true, true, false] rfl rfl (by kernel_rfl) (by decide) (fun K hK => ?_)
        refine goes_ Try.func14 (by kernel_rfl) rfl #[.agg #[.slice Ao34 t117.length co34], .agg #[.slice Ao268 t134.length co268]] (by rfl) rfl rfl (by (try simp only [List.map_toArray, List.map_cons, List.map_nil]); first | done | rfl | (simp only [List.length_drop, List.length_take]; rfl)) ?_
        with_reducible refine (laws_eqSpace.calls kj16 _ _ t117 _ _ t134 true _ ?side1 ?side2 ?side3 ?side4 A82.out).mono ?_
        (case side1 => repeat (first | exact (Kd.R_reads' HO_121000.out).2.2 | (with_reducible refine Kd.C_alloc ?_ _) | (with_reducible refine Kd.C_drewN ?_ _) | (with_reducible refine Kd.C_drew ?_)))
        (case side2 => exact (Kd.R_reads' HO_121000.out).2.1)
        (case side3 => repeat (first | exact (Kd.R_reads' HO136.out).2.2 | (with_reducible refine Kd.C_alloc ?_ _) | (with_reducible refine Kd.C_drewN ?_ _) | (with_reducible refine Kd.C_drew ?_)))
        (case side4 => exact (Kd.R_reads' HO136.out).2.1)
        rintro e w269 ⟨rfl, hb⟩
        refine ⟨_, rfl, ?_⟩
        have n0_ := Aside0.mk (Kd.R_below (rb_ HO_9.out) hb)
        have n1_ := Aside0.mk (Kd.R_below (rb_ HO_12.out) hb)
        have n2_ := Aside0.mk (Kd.R_below (rb_ HO_14.out) hb)
        have n3_ := Aside0.mk (Kd.R_below (rb_ HO_117000.out) hb)
        have n4_ := Aside0.mk (Kd.R_below (rb_ HO_121000.out) hb)
        have n5_ := Aside0.mk (Kd.R_below (rb_ HO_132000.out) hb)
        have n6_ := Aside0.mk (Kd.R_below (rb_ HO136.out) hb)
        have n7_ := Aside0.mk (blk_below (g := gb101) (o := .cells #[.slice A0_0 l0_0.length c0_0] 24 (0, 0)) (bb_ BK101.out) hb)
        have n8_ := Aside0.mk (blk_below (g := gb116) (o := .cells #[.slice Ao28 t109.length co28] 26 (0, 0)) (bb_ BK116.out) hb)
        have n9_ := Aside0.mk (blk_below (g := gb120) (o := .cells #[.slice Ao34 t117.length co34] 26 (0, 0)) (bb_ BK120.out) hb)
        have n10_ := Aside0.mk (blk_below (g := gb131) (o := .cells #[.slice Ao43 t124.length co43] 26 (0, 0)) (bb_ BK131.out) hb)
        have n11_ := Aside0.mk (below_step (gb_ HB.out) hb)
        clear HO_9 HO_12 HO_14 HO_117000 HO_121000 HO_132000 HO136 BK101 BK116 BK120 BK131 HB
        have HO_9 := n0_
        have HO_12 := n1_
        have HO_14 := n2_
        have HO_117000 := n3_
        have HO_121000 := n4_
        have HO_132000 := n5_
        have HO136 := n6_
        have BK101 := n7_
        have BK116 := n8_
        have BK120 := n9_
        have BK131 := n10_
        have HB := n11_
        clear n0_ n1_ n2_ n3_ n4_ n5_ n6_ n7_ n8_ n9_ n10_ n11_
        (try clear hb)
        (try clear hb2)
        (try clear hk)
        (try clear hi)
        refine hK.out _ _ ⟨(blk_cell BK120.out 0).trans rfl, (blk_cell BK101.out 0).trans rfl⟩ (fun hHeld => ?_)
        clear hK K
        refine norm_ (a' := ?_) ?_ ?_
        rotate_left
        ·show Act.put _ (some 70) _ = _
         simp only [Act.put, List.setIfInBounds_toArray, List.set_cons_zero, List.set_cons_succ, i64_w, i32_w]
         rfl
        refine pure_ (i := 4) (N := some 71) (v := ?_) (a' := ?_) #[true, true, true, true, true] rfl rfl (by kernel_rfl) (fun _ _ _ h => h) (Or.inl ⟨by rfl, ?_⟩) ?_ ?_
        rotate_left
        ·intro w'
         go_simp
         with_reducible rfl
        rotate_left
        ·simp only [Act.put, List.setIfInBounds_toArray, List.set_cons_zero, List.set_cons_succ, i64_w, i32_w]
         rfl
        refine done_ (by kernel_rfl) ?_
        try go_wp2_with (first | ((with_reducible refine gate_callee (f := 12) rfl ?_); refine goesL_ (some 74) rfl rfl Try.func12 (by kernel_rfl) rfl #[.slice A1 l1.length c1] rfl (by (try simp only [List.map_toArray, List.map_cons, List.map_nil]); first | done | rfl | (simp only [List.length_drop, List.length_take]; rfl)) ?_; (with_reducible refine (laws_toInt64S.calls kj16 _ _ l1 t138 _ ?side1 ?side2 A84.out).mono ?_); (case side1 => repeat (first | exact (Kd.C_below HR1.out HB.out) | (with_reducible refine Kd.C_alloc ?_ _) | (with_reducible refine Kd.C_drewN ?_ _) | (with_reducible refine Kd.C_drew ?_))); (case side2 => exact HC1.out); rintro e w270 ⟨v139, rfl, ho0, hb⟩; refine ⟨_, rfl, ?_⟩; have n0_ := Aside0.mk (Kd.R_elder' (rb_ HO_9.out) (Kd.R_base ho0) hb); have n1_ := Aside0.mk (Kd.R_elder' (rb_ HO_12.out) (Kd.R_base ho0) hb); have n2_ := Aside0.mk (Kd.R_elder' (rb_ HO_14.out) (Kd.R_base ho0) hb); have n3_ := Aside0.mk (Kd.R_elder' (rb_ HO_117000.out) (Kd.R_base ho0) hb); have n4_ := Aside0.mk (Kd.R_elder' (rb_ HO_121000.out) (Kd.R_base ho0) hb); have n5_ := Aside0.mk (Kd.R_elder' (rb_ HO_132000.out) (Kd.R_base ho0) hb); have n6_ := Aside0.mk (Kd.R_elder' (rb_ HO136.out) (Kd.R_base ho0) hb); have n7_ := Aside0.mk (Kd.R_lower (Kd.R_new' (Kd.R_new' (Kd.R_new' (Kd.R_new' (Kd.R_new' (Kd.R_new' (Kd.R_new' ho0 (Kd.R_lt (rb_ HO_9.out))) (Kd.R_lt (rb_ HO_12.out))) (Kd.R_lt (rb_ HO_14.out))) (Kd.R_lt (rb_ HO_117000.out))) (Kd.R_lt (rb_ HO_121000.out))) (Kd.R_lt (rb_ HO_132000.out))) (Kd.R_lt (rb_ HO136.out))) (below_size (gb_ HB.out))); have n8_ := Aside0.mk (blk_below (g := gb101) (o := .cells #[.slice A0_0 l0_0.length c0_0] 24 (0, 0)) (bb_ BK101.out) hb); have n9_ := Aside0.mk (blk_below (g := gb116) (o := .cells #[.slice Ao28 t109.length co28] 26 (0, 0)) (bb_ BK116.out) hb); have n10_ := Aside0.mk (blk_below (g := gb120) (o := .cells #[.slice Ao34 t117.length co34] 26 (0, 0)) (bb_ BK120.out) hb); have n11_ := Aside0.mk (blk_below (g := gb131) (o := .cells #[.slice Ao43 t124.length co43] 26 (0, 0)) (bb_ BK131.out) hb); have n12_ := Aside0.mk (below_step (gb_ HB.out) hb); clear HO_9 HO_12 HO_14 HO_117000 HO_121000 HO_132000 HO136 BK101 BK116 BK120 BK131 HB; have HO_9 := n0_; have HO_12 := n1_; have HO_14 := n2_; have HO_117000 := n3_; have HO_121000 := n4_; have HO_132000 := n5_; have HO136 := n6_; have HO140 := n7_; have BK101 := n8_; have BK116 := n9_; have BK120 := n10_; have BK131 := n11_; have HB := n12_; clear n0_ n1_ n2_ n3_ n4_ n5_ n6_ n7_ n8_ n9_ n10_ n11_ n12_; (try clear hb); (try clear hb2); (try clear hk); (try clear hi); (try clear ho0); obtain ⟨Ao271, co271, eo271⟩ := Kd.R_slice HO140.out; subst eo271) | ((with_reducible refine gate_callee (f := 15) rfl ?_); refine goesL_ (some 75) rfl rfl Try.func15 (by kernel_rfl) rfl #[.slice Ao40 t121.length co40, .slice Ao271 t138.length co271] rfl (by (try simp only [List.map_toArray, List.map_cons, List.map_nil]); first | done | rfl | (simp only [List.length_drop, List.length_take]; rfl)) ?_; (with_reducible refine (laws_eqInt64S.calls kj16 _ _ t121 _ _ t138 false _ ?side1 ?side2 ?side3 ?side4 A85.out).mono ?_); (case side1 => repeat (first | exact (Kd.R_reads' HO_12.out).2.2 | (with_reducible refine Kd.C_alloc ?_ _) | (with_reducible refine Kd.C_drewN ?_ _) | (with_reducible refine Kd.C_drew ?_))); (case side2 => exact (Kd.R_reads' HO_12.out).2.1); (case side3 => repeat (first | exact (Kd.R_reads' HO140.out).2.2 | (with_reducible refine Kd.C_alloc ?_ _) | (with_reducible refine Kd.C_drewN ?_ _) | (with_reducible refine Kd.C_drew ?_))); (case side4 => exact (Kd.R_reads' HO140.out).2.1); rintro e w' ⟨rfl, ⟨nd, rfl⟩⟩; refine ⟨_, rfl, ?_⟩))
        go_ret
        exact ⟨by first | rfl | (simp [errW_none, errW_some] <;> rfl) | (simp [*, errW_none, errW_some] <;> rfl), gb_ HB.out⟩
      ·replace c83 := Bool.eq_false_iff.mpr c83
       subst c83
       have H1 : (some false) = some r := by rw [if_neg (show ¬ (false = true) by decide)] at H; exact H
       clear H
       have H := H1
       clear H1
       obtain rfl := Option.some.inj H
       try go_wp2
       have n0_ := Aside0.mk (Kd.R_drew HO_9.out)
       have n1_ := Aside0.mk (Kd.R_drew HO_12.out)
       have n2_ := Aside0.mk (Kd.R_drew HO_14.out)
       have n3_ := Aside0.mk (Kd.R_drew HO_117000.out)
       have n4_ := Aside0.mk (Kd.R_drew HO_121000.out)
       have n5_ := Aside0.mk (Kd.R_drew HO_132000.out)
       have n6_ := Aside0.mk (blk_drew BK101.out)
       have n7_ := Aside0.mk (blk_drew BK116.out)
       have n8_ := Aside0.mk (blk_drew BK120.out)
       have n9_ := Aside0.mk (blk_drew BK131.out)
       have n10_ := Aside0.mk (below_drew1 HB.out)
       clear HO_9 HO_12 HO_14 HO_117000 HO_121000 HO_132000 BK101 BK116 BK120 BK131 HB
       have HO_9 := n0_
       have HO_12 := n1_
       have HO_14 := n2_
       have HO_117000 := n3_
       have HO_121000 := n4_
       have HO_132000 := n5_
       have BK101 := n6_
       have BK116 := n7_
       have BK120 := n8_
       have BK131 := n9_
       have HB := n10_
       clear n0_ n1_ n2_ n3_ n4_ n5_ n6_ n7_ n8_ n9_ n10_
       refine start_ (n := 5) (S := fun w' => w'.cell? ⟨gb120, 0, none⟩ = some (.slice Ao34 t117.length co34) ∧ w'.cell? ⟨gb101, 0, none⟩ = some (.slice A0_0 l0_0.length c0_0)) (ds := []) #[false, false, false, false, false] (by kernel_rfl) rfl rfl ⟨(blk_cell BK120.out 0).trans rfl, (blk_cell BK101.out 0).trans rfl⟩ (fun hHeld => ?_)
       generalize wc.drew = w272 at HO_9 HO_12 HO_14 HO_117000 HO_121000 HO_132000 BK101 BK116 BK120 BK131 HB hHeld ⊢
       refine take_ (i := 0) (N := some 67) (v := ?_) (a' := ?_) #[true, false, false, false, false] rfl rfl (by kernel_rfl) (fun _ _ _ h => h) (Or.inl ⟨by rfl, ?_⟩) hHeld ?_ ?_
       rotate_left
       ·rintro w' ⟨s0, s1⟩
        go_simp
        with_reducible rfl
       rotate_left
       ·simp only [Act.put, List.setIfInBounds_toArray, List.set_cons_zero, List.set_cons_succ, i64_w, i32_w]
        rfl
       refine take_ (i := 1) (N := some 68) (v := ?_) (a' := ?_) #[true, true, false, false, false] rfl rfl (by kernel_rfl) (fun _ _ _ h => h) (Or.inl ⟨by rfl, ?_⟩) hHeld ?_ ?_
       rotate_left
       ·rintro w' ⟨s0, s1⟩
        go_simp
        with_reducible rfl
       rotate_left
       ·simp only [Act.put, List.setIfInBounds_toArray, List.set_cons_zero, List.set_cons_succ, i64_w, i32_w]
        rfl
       refine one_ (i := 2) (N := some 69) #[true, true, true, false, false] rfl rfl (by kernel_rfl) (by decide) (fun K hK => ?_)
       refine goes_ Try.func11 (by kernel_rfl) rfl #[.agg #[.slice A0_0 l0_0.length c0_0]] (by rfl) rfl rfl (by (try simp only [List.map_toArray, List.map_cons, List.map_nil]); first | done | rfl | (simp only [List.length_drop, List.length_take]; rfl)) ?_
       with_reducible refine (laws_toSpace.calls kj16 _ _ l0_0 t134 _ ?side1 ?side2 A81.out).mono ?_
       (case side1 => repeat (first | exact (Kd.C_below HR0_0.out HB.out) | (with_reducible refine Kd.C_alloc ?_ _) | (with_reducible refine Kd.C_drewN ?_ _) | (with_reducible refine Kd.C_drew ?_)))
       (case side2 => exact HC0_0.out)
       rintro e w273 ⟨v135, rfl, ho0, hb⟩
       refine ⟨_, rfl, ?_⟩
       have n0_ := Aside0.mk (Kd.R_elder' (rb_ HO_9.out) (Kd.R_base ho0) hb)
       have n1_ := Aside0.mk (Kd.R_elder' (rb_ HO_12.out) (Kd.R_base ho0) hb)
       have n2_ := Aside0.mk (Kd.R_elder' (rb_ HO_14.out) (Kd.R_base ho0) hb)
       have n3_ := Aside0.mk (Kd.R_elder' (rb_ HO_117000.out) (Kd.R_base ho0) hb)
       have n4_ := Aside0.mk (Kd.R_elder' (rb_ HO_121000.out) (Kd.R_base ho0) hb)
       have n5_ := Aside0.mk (Kd.R_elder' (rb_ HO_132000.out) (Kd.R_base ho0) hb)
       have n6_ := Aside0.mk (Kd.R_lower (Kd.R_new' (Kd.R_new' (Kd.R_new' (Kd.R_new' (Kd.R_new' (Kd.R_new' ho0 (Kd.R_lt (rb_ HO_9.out))) (Kd.R_lt (rb_ HO_12.out))) (Kd.R_lt (rb_ HO_14.out))) (Kd.R_lt (rb_ HO_117000.out))) (Kd.R_lt (rb_ HO_121000.out))) (Kd.R_lt (rb_ HO_132000.out))) (below_size (gb_ HB.out)))
       have n7_ := Aside0.mk (blk_below (g := gb101) (o := .cells #[.slice A0_0 l0_0.length c0_0] 24 (0, 0)) (bb_ BK101.out) hb)
       have n8_ := Aside0.mk (blk_below (g := gb116) (o := .cells #[.slice Ao28 t109.length co28] 26 (0, 0)) (bb_ BK116.out) hb)
       have n9_ := Aside0.mk (blk_below (g := gb120) (o := .cells #[.slice Ao34 t117.length co34] 26 (0, 0)) (bb_ BK120.out) hb)
       have n10_ := Aside0.mk (blk_below (g := gb131) (o := .cells #[.slice Ao43 t124.length co43] 26 (0, 0)) (bb_ BK131.out) hb)
       have n11_ := Aside0.mk (below_step (gb_ HB.out) hb)
       clear HO_9 HO_12 HO_14 HO_117000 HO_121000 HO_132000 BK101 BK116 BK120 BK131 HB
       have HO_9 := n0_
       have HO_12 := n1_
       have HO_14 := n2_
       have HO_117000 := n3_
       have HO_121000 := n4_
       have HO_132000 := n5_
       have HO136 := n6_
       have BK101 := n7_
       have BK116 := n8_
       have BK120 := n9_
       have BK131 := n10_
       have HB := n11_
       clear n0_ n1_ n2_ n3_ n4_ n5_ n6_ n7_ n8_ n9_ n10_ n11_
       (try clear hb)
       (try clear hb2)
       (try clear hk)
       (try clear hi)
       (try clear ho0)
       obtain ⟨Ao274, co274, eo274⟩ := Kd.R_slice HO136.out
       (first | subst eo274 | (injection eo274 with f1_ f2_ f3_; have f4_ := f1_.symm; have f5_ := f3_.symm; clear f1_ f2_ f3_; subst f4_; subst f5_))
       refine hK.out _ _ ⟨(blk_cell BK120.out 0).trans rfl, (blk_cell BK101.out 0).trans rfl⟩ (fun hHeld => ?_)
       clear hK K
       refine norm_ (a' := ?_) ?_ ?_
       rotate_left
       ·show Act.put _ (some 69) _ = _
        simp only [Act.put, List.setIfInBounds_toArray, List.set_cons_zero, List.set_cons_succ, i64_w, i32_w]
        rfl
       refine one_ (i := 3) (N := some 70) #[true, true, true, true, false] rfl rfl (by kernel_rfl) (by decide) (fun K hK => ?_)
       refine goes_ Try.func14 (by kernel_rfl) rfl #[.agg #[.slice Ao34 t117.length co34], .agg #[.slice Ao274 t134.length co274]] (by rfl) rfl rfl (by (try simp only [List.map_toArray, List.map_cons, List.map_nil]); first | done | rfl | (simp only [List.length_drop, List.length_take]; rfl)) ?_
       with_reducible refine (laws_eqSpace.calls kj16 _ _ t117 _ _ t134 false _ ?side1 ?side2 ?side3 ?side4 A82.out).mono ?_
       (case side1 => repeat (first | exact (Kd.R_reads' HO_121000.out).2.2 | (with_reducible refine Kd.C_alloc ?_ _) | (with_reducible refine Kd.C_drewN ?_ _) | (with_reducible refine Kd.C_drew ?_)))
       (case side2 => exact (Kd.R_reads' HO_121000.out).2.1)
       (case side3 => repeat (first | exact (Kd.R_reads' HO136.out).2.2 | (with_reducible refine Kd.C_alloc ?_ _) | (with_reducible refine Kd.C_drewN ?_ _) | (with_reducible refine Kd.C_drew ?_)))
       (case side4 => exact (Kd.R_reads' HO136.out).2.1)
       rintro e w275 ⟨rfl, hb⟩
       refine ⟨_, rfl, ?_⟩
       have n0_ := Aside0.mk (Kd.R_below (rb_ HO_9.out) hb)
       have n1_ := Aside0.mk (Kd.R_below (rb_ HO_12.out) hb)
       have n2_ := Aside0.mk (Kd.R_below (rb_ HO_14.out) hb)
       have n3_ := Aside0.mk (Kd.R_below (rb_ HO_117000.out) hb)
       have n4_ := Aside0.mk (Kd.R_below (rb_ HO_121000.out) hb)
       have n5_ := Aside0.mk (Kd.R_below (rb_ HO_132000.out) hb)
       have n6_ := Aside0.mk (Kd.R_below (rb_ HO136.out) hb)
       have n7_ := Aside0.mk (blk_below (g := gb101) (o := .cells #[.slice A0_0 l0_0.length c0_0] 24 (0, 0)) (bb_ BK101.out) hb)
       have n8_ := Aside0.mk (blk_below (g := gb116) (o := .cells #[.slice Ao28 t109.length co28] 26 (0, 0)) (bb_ BK116.out) hb)
       have n9_ := Aside0.mk (blk_below (g := gb120) (o := .cells #[.slice Ao34 t117.length co34] 26 (0, 0)) (bb_ BK120.out) hb)
       have n10_ := Aside0.mk (blk_below (g := gb131) (o := .cells #[.slice Ao43 t124.length co43] 26 (0, 0)) (bb_ BK131.out) hb)
       have n11_ := Aside0.mk (below_step (gb_ HB.out) hb)
       clear HO_9 HO_12 HO_14 HO_117000 HO_121000 HO_132000 HO136 BK101 BK116 BK120 BK131 HB
       have HO_9 := n0_
       have HO_12 := n1_
       have HO_14 := n2_
       have HO_117000 := n3_
       have HO_121000 := n4_
       have HO_132000 := n5_
       have HO136 := n6_
       have BK101 := n7_
       have BK116 := n8_
       have BK120 := n9_
       have BK131 := n10_
       have HB := n11_
       clear n0_ n1_ n2_ n3_ n4_ n5_ n6_ n7_ n8_ n9_ n10_ n11_
       (try clear hb)
       (try clear hb2)
       (try clear hk)
       (try clear hi)
       refine hK.out _ _ ⟨(blk_cell BK120.out 0).trans rfl, (blk_cell BK101.out 0).trans rfl⟩ (fun hHeld => ?_)
       clear hK K
       refine norm_ (a' := ?_) ?_ ?_
       rotate_left
       ·show Act.put _ (some 70) _ = _
        simp only [Act.put, List.setIfInBounds_toArray, List.set_cons_zero, List.set_cons_succ, i64_w, i32_w]
        rfl
       refine pure_ (i := 4) (N := some 71) (v := ?_) (a' := ?_) #[true, true, true, true, true] rfl rfl (by kernel_rfl) (fun _ _ _ h => h) (Or.inl ⟨by rfl, ?_⟩) ?_ ?_
       rotate_left
       ·intro w'
        go_simp
        with_reducible rfl
       rotate_left
       ·simp only [Act.put, List.setIfInBounds_toArray, List.set_cons_zero, List.set_cons_succ, i64_w, i32_w]
        rfl
       refine done_ (by kernel_rfl) ?_
       try go_wp2
       go_ret
       exact ⟨by first | rfl | (simp [errW_none, errW_some] <;> rfl) | (simp [*, errW_none, errW_some] <;> rfl), gb_ HB.out⟩

end Go.Proofs.Ytbhgnphdhkmliaa.P
