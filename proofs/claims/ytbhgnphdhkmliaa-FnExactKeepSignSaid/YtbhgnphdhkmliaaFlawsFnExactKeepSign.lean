/- Walks of Go functions, printed for this seat by this session's driver with the kit's print program: each says that a call returns what the plain Lean function beside it says. -/
import Derived.Test.YtbhgnphdhkmliaaF0
import Derived.Test.YtbhgnphdhkmliaaFBase
import Derived.Test.YtbhgnphdhkmliaaFspecKeepSign
import Derived.Test.YtbhgnphdhkmliaaHKeep
namespace Go.Proofs.Ytbhgnphdhkmliaa.P
open Go.RowKit Go.Proofs.YtbhgnphdhkmliaaW.PrintWords Go.Proofs.YtbhgnphdhkmliaaW.PrintLast Go.Proofs.YtbhgnphdhkmliaaW.PrintMore
attribute [local go_sem] max2_int min2_int max_two min_two max_three min_three max_four min_four
set_option linter.unusedVariables false
set_option linter.unusedSimpArgs false

/-! ### laws_FnExactKeepSign: function 8 -/
mutual
def laws_FnExactKeepSign.j0 : Nat → List Int → Int → Int → List Int → Int → List Int → List Int → Int → Bool → List Int → List Int → List Int → List Int → Option (Bool)
  | 0, _, _, _, _, _, _, _, _, _, _, _, _, _ => none
  | k + 1, x1, x2, x3, x11, x12, x14, x16, x17, x70, x102000, x117000, x121000, x132000 => if x70 = true then (some false) else ((laws_toSpace.f k x102000).bind fun t134 => ((laws_eqSpace.f k x121000 t134).bind fun t137 => (if t137 = true then ((laws_toInt64S.f k x1).bind fun t138 => ((laws_eqInt64S.f k x14 t138).bind fun t141 => (if t141 = true then ((laws_markSpace.f k x121000 1).bind fun bt142 => ((laws_markInt64S.f k x14 bt142.1).bind fun bt144 => (if bt144.1 < 0 then (laws_FnExactKeepSign.j1 k x1 x2 x3 x11 x12 x16 true x102000 x117000 x132000) else ((laws_eqSpace.f k x132000 x117000).bind fun t146 => (if t146 = true then ((laws_eqInt64S.f k x16 x11).bind fun t147 => (if t147 = true then (laws_FnExactKeepSign.j1 k x1 x2 x3 x11 x12 x16 (x17 != x12) x102000 x117000 x132000) else (laws_FnExactKeepSign.j1 k x1 x2 x3 x11 x12 x16 true x102000 x117000 x132000))) else (laws_FnExactKeepSign.j1 k x1 x2 x3 x11 x12 x16 true x102000 x117000 x132000)))))) else (some false)))) else (some false))))
def laws_FnExactKeepSign.j1 : Nat → List Int → Int → Int → List Int → Int → List Int → Bool → List Int → List Int → List Int → Option (Bool)
  | 0, _, _, _, _, _, _, _, _, _, _ => none
  | k + 1, x1, x2, x3, x11, x12, x16, x105, x102000, x117000, x132000 => if x105 = true then (some false) else ((laws_markSpace.f k x132000 1).bind fun bt148 => ((laws_markInt64S.f k x16 bt148.1).bind fun bt150 => ((laws_heldSpace.f k bt148.2 1).bind fun t152 => (if t152 < 0 then (some false) else ((laws_heldInt64S.f k bt150.2 t152).bind fun t153 => (if t153 < 0 then (some false) else (if t153 = bt150.1 then ((laws_toSpace.f k x102000).bind fun t154 => ((laws_toInt64S.f k x1).bind fun t157 => ((impl_KeepSign.f t154 t157 x2 x3).bind fun bt160 => ((laws_eqSpace.f k bt160.1 x117000).bind fun t168 => (if t168 = true then ((laws_eqInt64S.f k bt160.2.1 x11).bind fun t169 => (if t169 = true then (laws_FnExactKeepSign.j2 k bt150.2 bt150.1 (bt160.2.2 != x12) bt148.2) else (laws_FnExactKeepSign.j2 k bt150.2 bt150.1 true bt148.2))) else (laws_FnExactKeepSign.j2 k bt150.2 bt150.1 true bt148.2)))))) else (some false))))))))
def laws_FnExactKeepSign.j2 : Nat → List Int → Int → Bool → List Int → Option (Bool)
  | 0, _, _, _, _ => none
  | k + 1, x16, x19, x150, x132000 => if x150 = true then (some false) else ((laws_heldSpace.f k x132000 1).bind fun t170 => (if t170 < 0 then (some false) else ((laws_heldInt64S.f k x16 t170).bind fun t171 => (if t171 < 0 then (some false) else (if t171 = x19 then (some true) else (some false))))))
end
def laws_FnExactKeepSign.f (k : Nat) (l0_0 : List Int) (l1 : List Int) (a2 : Int) (a3 : Int) : Option (Bool) := if (l1.length : Int) > 1048576 then (some true) else ((laws_szSpace.f l0_0 1048576).bind fun t102 => (if t102 < 0 then (some true) else ((laws_toSpace.f k l0_0).bind fun t103 => ((laws_toInt64S.f k l1).bind fun t106 => ((spec_KeepSign.f k t103 t106 a2 a3).bind fun bt109 => ((laws_toSpace.f k l0_0).bind fun t117 => ((laws_toInt64S.f k l1).bind fun t121 => ((impl_KeepSign.f t117 t121 a2 a3).bind fun bt124 => ((laws_eqSpace.f k bt124.1 bt109.1).bind fun t132 => (if t132 = true then ((laws_eqInt64S.f k bt124.2.1 bt109.2.1).bind fun t133 => (if t133 = true then (laws_FnExactKeepSign.j0 k l1 a2 a3 bt109.2.1 bt109.2.2 t121 bt124.2.1 bt124.2.2 (bt124.2.2 != bt109.2.2) l0_0 bt109.1 t117 bt124.1) else (laws_FnExactKeepSign.j0 k l1 a2 a3 bt109.2.1 bt109.2.2 t121 bt124.2.1 bt124.2.2 true l0_0 bt109.1 t117 bt124.1))) else (laws_FnExactKeepSign.j0 k l1 a2 a3 bt109.2.1 bt109.2.2 t121 bt124.2.1 bt124.2.2 true l0_0 bt109.1 t117 bt124.1)))))))))))
theorem laws_FnExactKeepSign.mono_l : ∀ k, (∀ y0 y1 y2 y3 y4 y5 y6 y7 y8 y9 y10 y11 y12, LeO (laws_FnExactKeepSign.j0 k y0 y1 y2 y3 y4 y5 y6 y7 y8 y9 y10 y11 y12) (laws_FnExactKeepSign.j0 (k + 1) y0 y1 y2 y3 y4 y5 y6 y7 y8 y9 y10 y11 y12)) ∧ (∀ y0 y1 y2 y3 y4 y5 y6 y7 y8 y9, LeO (laws_FnExactKeepSign.j1 k y0 y1 y2 y3 y4 y5 y6 y7 y8 y9) (laws_FnExactKeepSign.j1 (k + 1) y0 y1 y2 y3 y4 y5 y6 y7 y8 y9)) ∧ (∀ y0 y1 y2 y3, LeO (laws_FnExactKeepSign.j2 k y0 y1 y2 y3) (laws_FnExactKeepSign.j2 (k + 1) y0 y1 y2 y3))
  | 0 => ⟨fun _ _ _ _ _ _ _ _ _ _ _ _ _ r h => by simp [laws_FnExactKeepSign.j0] at h, fun _ _ _ _ _ _ _ _ _ _ r h => by simp [laws_FnExactKeepSign.j1] at h, fun _ _ _ _ r h => by simp [laws_FnExactKeepSign.j2] at h⟩
  | k + 1 => by
    obtain ⟨ih0, ih1, ih2⟩ := laws_FnExactKeepSign.mono_l k
    refine ⟨?_, ?_, ?_⟩
    · intro y0 y1 y2 y3 y4 y5 y6 y7 y8 y9 y10 y11 y12
      unfold laws_FnExactKeepSign.j0
      repeat' first
      | (with_reducible exact ih0 _ _ _ _ _ _ _ _ _ _ _ _ _)
      | (with_reducible exact ih1 _ _ _ _ _ _ _ _ _ _)
      | (with_reducible exact ih2 _ _ _ _)
      | (with_reducible exact laws_eqInt64S.mono _ _ _)
      | (with_reducible exact laws_eqSpace.mono _ _ _)
      | (with_reducible exact laws_heldInt64S.mono _ _ _)
      | (with_reducible exact laws_heldSpace.mono _ _ _)
      | (with_reducible exact laws_markInt64S.mono _ _ _)
      | (with_reducible exact laws_markSpace.mono _ _ _)
      | (with_reducible exact laws_toInt64S.mono _ _)
      | (with_reducible exact laws_toSpace.mono _ _)
      | (with_reducible exact spec_KeepSign.mono _ _ _ _ _)
      | (with_reducible exact LeO.refl _)
      | (with_reducible exact LeO.none _)
      | (with_reducible refine LeO.ite ?_ ?_)
      | (with_reducible refine LeO.bind ?_ (fun _ => ?_))
      | exact ih0 _ _ _ _ _ _ _ _ _ _ _ _ _
      | exact ih1 _ _ _ _ _ _ _ _ _ _
      | exact ih2 _ _ _ _
      | exact laws_eqInt64S.mono _ _ _
      | exact laws_eqSpace.mono _ _ _
      | exact laws_heldInt64S.mono _ _ _
      | exact laws_heldSpace.mono _ _ _
      | exact laws_markInt64S.mono _ _ _
      | exact laws_markSpace.mono _ _ _
      | exact laws_toInt64S.mono _ _
      | exact laws_toSpace.mono _ _
      | exact spec_KeepSign.mono _ _ _ _ _
      | exact LeO.none _
      | refine LeO.ite ?_ ?_
      | refine LeO.bind ?_ (fun _ => ?_)
    · intro y0 y1 y2 y3 y4 y5 y6 y7 y8 y9
      unfold laws_FnExactKeepSign.j1
      repeat' first
      | (with_reducible exact ih0 _ _ _ _ _ _ _ _ _ _ _ _ _)
      | (with_reducible exact ih1 _ _ _ _ _ _ _ _ _ _)
      | (with_reducible exact ih2 _ _ _ _)
      | (with_reducible exact laws_eqInt64S.mono _ _ _)
      | (with_reducible exact laws_eqSpace.mono _ _ _)
      | (with_reducible exact laws_heldInt64S.mono _ _ _)
      | (with_reducible exact laws_heldSpace.mono _ _ _)
      | (with_reducible exact laws_markInt64S.mono _ _ _)
      | (with_reducible exact laws_markSpace.mono _ _ _)
      | (with_reducible exact laws_toInt64S.mono _ _)
      | (with_reducible exact laws_toSpace.mono _ _)
      | (with_reducible exact spec_KeepSign.mono _ _ _ _ _)
      | (with_reducible exact LeO.refl _)
      | (with_reducible exact LeO.none _)
      | (with_reducible refine LeO.ite ?_ ?_)
      | (with_reducible refine LeO.bind ?_ (fun _ => ?_))
      | exact ih0 _ _ _ _ _ _ _ _ _ _ _ _ _
      | exact ih1 _ _ _ _ _ _ _ _ _ _
      | exact ih2 _ _ _ _
      | exact laws_eqInt64S.mono _ _ _
      | exact laws_eqSpace.mono _ _ _
      | exact laws_heldInt64S.mono _ _ _
      | exact laws_heldSpace.mono _ _ _
      | exact laws_markInt64S.mono _ _ _
      | exact laws_markSpace.mono _ _ _
      | exact laws_toInt64S.mono _ _
      | exact laws_toSpace.mono _ _
      | exact spec_KeepSign.mono _ _ _ _ _
      | exact LeO.none _
      | refine LeO.ite ?_ ?_
      | refine LeO.bind ?_ (fun _ => ?_)
    · intro y0 y1 y2 y3
      unfold laws_FnExactKeepSign.j2
      repeat' first
      | (with_reducible exact ih0 _ _ _ _ _ _ _ _ _ _ _ _ _)
      | (with_reducible exact ih1 _ _ _ _ _ _ _ _ _ _)
      | (with_reducible exact ih2 _ _ _ _)
      | (with_reducible exact laws_eqInt64S.mono _ _ _)
      | (with_reducible exact laws_eqSpace.mono _ _ _)
      | (with_reducible exact laws_heldInt64S.mono _ _ _)
      | (with_reducible exact laws_heldSpace.mono _ _ _)
      | (with_reducible exact laws_markInt64S.mono _ _ _)
      | (with_reducible exact laws_markSpace.mono _ _ _)
      | (with_reducible exact laws_toInt64S.mono _ _)
      | (with_reducible exact laws_toSpace.mono _ _)
      | (with_reducible exact spec_KeepSign.mono _ _ _ _ _)
      | (with_reducible exact LeO.refl _)
      | (with_reducible exact LeO.none _)
      | (with_reducible refine LeO.ite ?_ ?_)
      | (with_reducible refine LeO.bind ?_ (fun _ => ?_))
      | exact ih0 _ _ _ _ _ _ _ _ _ _ _ _ _
      | exact ih1 _ _ _ _ _ _ _ _ _ _
      | exact ih2 _ _ _ _
      | exact laws_eqInt64S.mono _ _ _
      | exact laws_eqSpace.mono _ _ _
      | exact laws_heldInt64S.mono _ _ _
      | exact laws_heldSpace.mono _ _ _
      | exact laws_markInt64S.mono _ _ _
      | exact laws_markSpace.mono _ _ _
      | exact laws_toInt64S.mono _ _
      | exact laws_toSpace.mono _ _
      | exact spec_KeepSign.mono _ _ _ _ _
      | exact LeO.none _
      | refine LeO.ite ?_ ?_
      | refine LeO.bind ?_ (fun _ => ?_)
theorem laws_FnExactKeepSign.mono : ∀ a0 a1 a2 a3 k, LeO (laws_FnExactKeepSign.f k a0 a1 a2 a3) (laws_FnExactKeepSign.f (k + 1) a0 a1 a2 a3) := by
  intro a0 a1 a2 a3 k
  obtain ⟨ih0, ih1, ih2⟩ := laws_FnExactKeepSign.mono_l k
  unfold laws_FnExactKeepSign.f
  repeat' first
      | (with_reducible exact ih0 _ _ _ _ _ _ _ _ _ _ _ _ _)
      | (with_reducible exact ih1 _ _ _ _ _ _ _ _ _ _)
      | (with_reducible exact ih2 _ _ _ _)
      | (with_reducible exact laws_eqInt64S.mono _ _ _)
      | (with_reducible exact laws_eqSpace.mono _ _ _)
      | (with_reducible exact laws_heldInt64S.mono _ _ _)
      | (with_reducible exact laws_heldSpace.mono _ _ _)
      | (with_reducible exact laws_markInt64S.mono _ _ _)
      | (with_reducible exact laws_markSpace.mono _ _ _)
      | (with_reducible exact laws_toInt64S.mono _ _)
      | (with_reducible exact laws_toSpace.mono _ _)
      | (with_reducible exact spec_KeepSign.mono _ _ _ _ _)
      | (with_reducible exact LeO.refl _)
      | (with_reducible exact LeO.none _)
      | (with_reducible refine LeO.ite ?_ ?_)
      | (with_reducible refine LeO.bind ?_ (fun _ => ?_))
      | exact ih0 _ _ _ _ _ _ _ _ _ _ _ _ _
      | exact ih1 _ _ _ _ _ _ _ _ _ _
      | exact ih2 _ _ _ _
      | exact laws_eqInt64S.mono _ _ _
      | exact laws_eqSpace.mono _ _ _
      | exact laws_heldInt64S.mono _ _ _
      | exact laws_heldSpace.mono _ _ _
      | exact laws_markInt64S.mono _ _ _
      | exact laws_markSpace.mono _ _ _
      | exact laws_toInt64S.mono _ _
      | exact laws_toSpace.mono _ _
      | exact spec_KeepSign.mono _ _ _ _ _
      | exact LeO.none _
      | refine LeO.ite ?_ ?_
      | refine LeO.bind ?_ (fun _ => ?_)
set_option maxHeartbeats 8000000 in
set_option maxRecDepth 100000 in
theorem laws_FnExactKeepSign.calls (k : Nat) (A0_0 : Option Addr) (c0_0 : Nat) (l0_0 : List Int) (A1 : Option Addr) (c1 : Nat) (l1 : List Int) (a2 : Int) (a3 : Int) (r : Bool) (w : World) (hr0_0 : Kd.C (Kd.int .i64) w A0_0 l0_0.length l0_0) (hc0_0 : l0_0.length ≤ c0_0) (hr1 : Kd.C (Kd.int .i64) w A1 l1.length l1) (hc1 : l1.length ≤ c1) (h : laws_FnExactKeepSign.f k l0_0 l1 a2 a3 = some r) :
  Calls Try.prog 8 #[.agg #[.slice A0_0 l0_0.length c0_0], .slice A1 l1.length c1, .int .i64 a2, .int .i64 a3] w fun e w' => e = .returned (.bool r) ∧ Below w.heap.size w w' := by
 have hu24 := Try.underlying24
 have hu26 := Try.underlying26
 have HR0_0 := Aside0.mk hr0_0
 have HC0_0 := Aside0.mk hc0_0
 clear hr0_0 hc0_0
 have HR1 := Aside0.mk hr1
 have HC1 := Aside0.mk hc1
 clear hr1 hc1
 have HB := Aside0.mk (Below.refl w.heap.size w)
 have H : (if (l1.length : Int) > 1048576 then (some true) else ((laws_szSpace.f l0_0 1048576).bind fun t102 => (if t102 < 0 then (some true) else ((laws_toSpace.f k l0_0).bind fun t103 => ((laws_toInt64S.f k l1).bind fun t106 => ((spec_KeepSign.f k t103 t106 a2 a3).bind fun bt109 => ((laws_toSpace.f k l0_0).bind fun t117 => ((laws_toInt64S.f k l1).bind fun t121 => ((impl_KeepSign.f t117 t121 a2 a3).bind fun bt124 => ((laws_eqSpace.f k bt124.1 bt109.1).bind fun t132 => (if t132 = true then ((laws_eqInt64S.f k bt124.2.1 bt109.2.1).bind fun t133 => (if t133 = true then (laws_FnExactKeepSign.j0 k l1 a2 a3 bt109.2.1 bt109.2.2 t121 bt124.2.1 bt124.2.2 (bt124.2.2 != bt109.2.2) l0_0 bt109.1 t117 bt124.1) else (laws_FnExactKeepSign.j0 k l1 a2 a3 bt109.2.1 bt109.2.2 t121 bt124.2.1 bt124.2.2 true l0_0 bt109.1 t117 bt124.1))) else (laws_FnExactKeepSign.j0 k l1 a2 a3 bt109.2.1 bt109.2.2 t121 bt124.2.1 bt124.2.2 true l0_0 bt109.1 t117 bt124.1)))))))))))) = some r := h
 clear h
 by_cases c5 : (l1.length : Int) > 1048576
 ·rw [if_pos c5] at H
  have c5b0 : decide (1048576 < (l1.length : Int)) = true := decide_eq_true c5
  have c5b1 : decide (1048576 < l1.length) = true := decide_eq_true (by omega)
  clear c5
  obtain rfl := Option.some.inj H
  go_enter Try.func8, Try.ntmps8
  go_wp2_with (first | ((with_reducible refine gate_dst (N := 4) rfl ?_); refine box_event ?hg (N := 4) ?hd (cs := #[.slice A0_0 l0_0.length c0_0]) (t := 24) ?hr ?_; (case hd => rfl); (case hg => rfl); (case hr => first | (go_simp; done) | (go_simp; rfl)); intro gb101 hg w6 hbox hb; have n0_ := Aside0.mk (below_step (gb_ HB.out) hb); have n1_ := Aside0.mk (hbox); have n2_ := Aside0.mk ((by rw [hg]; exact (below_size (gb_ HB.out)) : w.heap.size ≤ gb101)); have n3_ := Aside0.mk ((by rw [hg]; exact (below_size (gb_ HB.out)) : w.heap.size ≤ gb101)); clear HB; have HB := n0_; have BK101 := n1_; have GW101 := n2_; have GE101 := n3_; clear n0_ n1_ n2_ n3_ hb hbox hg))
  go_ret
  exact ⟨by first | rfl | (simp [errW_none, errW_some] <;> rfl) | (simp [*, errW_none, errW_some] <;> rfl), gb_ HB.out⟩
 ·rw [if_neg c5] at H
  have c5b0 : decide (1048576 < (l1.length : Int)) = false := decide_eq_false c5
  have c5b1 : decide (1048576 < l1.length) = false := decide_eq_false (by omega)
  clear c5
  replace H := Option.bind_eq_some_iff.mp H
  obtain ⟨t102, A70, H⟩ := H
  replace H : (if t102 < 0 then (some true) else ((laws_toSpace.f k l0_0).bind fun t103 => ((laws_toInt64S.f k l1).bind fun t106 => ((spec_KeepSign.f k t103 t106 a2 a3).bind fun bt109 => ((laws_toSpace.f k l0_0).bind fun t117 => ((laws_toInt64S.f k l1).bind fun t121 => ((impl_KeepSign.f t117 t121 a2 a3).bind fun bt124 => ((laws_eqSpace.f k bt124.1 bt109.1).bind fun t132 => (if t132 = true then ((laws_eqInt64S.f k bt124.2.1 bt109.2.1).bind fun t133 => (if t133 = true then (laws_FnExactKeepSign.j0 k l1 a2 a3 bt109.2.1 bt109.2.2 t121 bt124.2.1 bt124.2.2 (bt124.2.2 != bt109.2.2) l0_0 bt109.1 t117 bt124.1) else (laws_FnExactKeepSign.j0 k l1 a2 a3 bt109.2.1 bt109.2.2 t121 bt124.2.1 bt124.2.2 true l0_0 bt109.1 t117 bt124.1))) else (laws_FnExactKeepSign.j0 k l1 a2 a3 bt109.2.1 bt109.2.2 t121 bt124.2.1 bt124.2.2 true l0_0 bt109.1 t117 bt124.1)))))))))) = some r := H
  have A7 := Aside0.mk A70
  clear A70
  by_cases c8 : t102 < 0
  ·rw [if_pos c8] at H
   have c8b0 : decide (t102 < 0) = true := decide_eq_true c8
   clear c8
   obtain rfl := Option.some.inj H
   go_enter Try.func8, Try.ntmps8
   go_wp2_with (first | ((with_reducible refine gate_dst (N := 4) rfl ?_); refine box_event ?hg (N := 4) ?hd (cs := #[.slice A0_0 l0_0.length c0_0]) (t := 24) ?hr ?_; (case hd => rfl); (case hg => rfl); (case hr => first | (go_simp; done) | (go_simp; rfl)); intro gb101 hg w9 hbox hb; have n0_ := Aside0.mk (below_step (gb_ HB.out) hb); have n1_ := Aside0.mk (hbox); have n2_ := Aside0.mk ((by rw [hg]; exact (below_size (gb_ HB.out)) : w.heap.size ≤ gb101)); have n3_ := Aside0.mk ((by rw [hg]; exact (below_size (gb_ HB.out)) : w.heap.size ≤ gb101)); clear HB; have HB := n0_; have BK101 := n1_; have GW101 := n2_; have GE101 := n3_; clear n0_ n1_ n2_ n3_ hb hbox hg; have hcz10_0 : w9.cell? ⟨gb101, 0, none⟩ = some (.slice A0_0 l0_0.length c0_0) := (blk_cell BK101.out 0).trans rfl; have hfz10_0 := blk_frozen BK101.out 0) | ((with_reducible refine gate_callee (f := 9) rfl ?_); refine goesL_ (some 29) rfl rfl Try.func9 (by kernel_rfl) rfl #[.agg #[.slice A0_0 l0_0.length c0_0], .int .i64 1048576] rfl (by (try simp only [List.map_toArray, List.map_cons, List.map_nil]); first | done | rfl | (simp only [List.length_drop, List.length_take]; rfl)) ?_; (with_reducible refine (laws_szSpace.calls _ _ l0_0 1048576 t102 _ ?side1 ?side2 A7.out).mono ?_); (case side1 => exact c2_ HR0_0 HB); (case side2 => exact HC0_0.out); rintro e w11 ⟨rfl, hb⟩; refine ⟨_, rfl, ?_⟩; replace BK101 := a2_ BK101 hb; replace HB := Aside0.mk (below_step (gb_ HB.out) hb); (try clear hb); (try clear hb2); (try clear hk); (try clear hi)))
   go_ret
   exact ⟨by first | rfl | (simp [errW_none, errW_some] <;> rfl) | (simp [*, errW_none, errW_some] <;> rfl), gb_ HB.out⟩
  ·rw [if_neg c8] at H
   have c8b0 : decide (t102 < 0) = false := decide_eq_false c8
   clear c8
   replace H := Option.bind_eq_some_iff.mp H
   obtain ⟨t103, A120, H⟩ := H
   replace H : ((laws_toInt64S.f k l1).bind fun t106 => ((spec_KeepSign.f k t103 t106 a2 a3).bind fun bt109 => ((laws_toSpace.f k l0_0).bind fun t117 => ((laws_toInt64S.f k l1).bind fun t121 => ((impl_KeepSign.f t117 t121 a2 a3).bind fun bt124 => ((laws_eqSpace.f k bt124.1 bt109.1).bind fun t132 => (if t132 = true then ((laws_eqInt64S.f k bt124.2.1 bt109.2.1).bind fun t133 => (if t133 = true then (laws_FnExactKeepSign.j0 k l1 a2 a3 bt109.2.1 bt109.2.2 t121 bt124.2.1 bt124.2.2 (bt124.2.2 != bt109.2.2) l0_0 bt109.1 t117 bt124.1) else (laws_FnExactKeepSign.j0 k l1 a2 a3 bt109.2.1 bt109.2.2 t121 bt124.2.1 bt124.2.2 true l0_0 bt109.1 t117 bt124.1))) else (laws_FnExactKeepSign.j0 k l1 a2 a3 bt109.2.1 bt109.2.2 t121 bt124.2.1 bt124.2.2 true l0_0 bt109.1 t117 bt124.1)))))))) = some r := H
   have A12 := Aside0.mk A120
   clear A120
   replace H := Option.bind_eq_some_iff.mp H
   obtain ⟨t106, A130, H⟩ := H
   replace H : ((spec_KeepSign.f k t103 t106 a2 a3).bind fun bt109 => ((laws_toSpace.f k l0_0).bind fun t117 => ((laws_toInt64S.f k l1).bind fun t121 => ((impl_KeepSign.f t117 t121 a2 a3).bind fun bt124 => ((laws_eqSpace.f k bt124.1 bt109.1).bind fun t132 => (if t132 = true then ((laws_eqInt64S.f k bt124.2.1 bt109.2.1).bind fun t133 => (if t133 = true then (laws_FnExactKeepSign.j0 k l1 a2 a3 bt109.2.1 bt109.2.2 t121 bt124.2.1 bt124.2.2 (bt124.2.2 != bt109.2.2) l0_0 bt109.1 t117 bt124.1) else (laws_FnExactKeepSign.j0 k l1 a2 a3 bt109.2.1 bt109.2.2 t121 bt124.2.1 bt124.2.2 true l0_0 bt109.1 t117 bt124.1))) else (laws_FnExactKeepSign.j0 k l1 a2 a3 bt109.2.1 bt109.2.2 t121 bt124.2.1 bt124.2.2 true l0_0 bt109.1 t117 bt124.1))))))) = some r := H
   have A13 := Aside0.mk A130
   clear A130
   replace H := Option.bind_eq_some_iff.mp H
   obtain ⟨⟨t109, t112, t115⟩, A140, H⟩ := H
   replace H : ((laws_toSpace.f k l0_0).bind fun t117 => ((laws_toInt64S.f k l1).bind fun t121 => ((impl_KeepSign.f t117 t121 a2 a3).bind fun bt124 => ((laws_eqSpace.f k bt124.1 t109).bind fun t132 => (if t132 = true then ((laws_eqInt64S.f k bt124.2.1 t112).bind fun t133 => (if t133 = true then (laws_FnExactKeepSign.j0 k l1 a2 a3 t112 t115 t121 bt124.2.1 bt124.2.2 (bt124.2.2 != t115) l0_0 t109 t117 bt124.1) else (laws_FnExactKeepSign.j0 k l1 a2 a3 t112 t115 t121 bt124.2.1 bt124.2.2 true l0_0 t109 t117 bt124.1))) else (laws_FnExactKeepSign.j0 k l1 a2 a3 t112 t115 t121 bt124.2.1 bt124.2.2 true l0_0 t109 t117 bt124.1)))))) = some r := H
   have A14 := Aside0.mk A140
   clear A140
   replace H := Option.bind_eq_some_iff.mp H
   obtain ⟨t117, A150, H⟩ := H
   replace H : ((laws_toInt64S.f k l1).bind fun t121 => ((impl_KeepSign.f t117 t121 a2 a3).bind fun bt124 => ((laws_eqSpace.f k bt124.1 t109).bind fun t132 => (if t132 = true then ((laws_eqInt64S.f k bt124.2.1 t112).bind fun t133 => (if t133 = true then (laws_FnExactKeepSign.j0 k l1 a2 a3 t112 t115 t121 bt124.2.1 bt124.2.2 (bt124.2.2 != t115) l0_0 t109 t117 bt124.1) else (laws_FnExactKeepSign.j0 k l1 a2 a3 t112 t115 t121 bt124.2.1 bt124.2.2 true l0_0 t109 t117 bt124.1))) else (laws_FnExactKeepSign.j0 k l1 a2 a3 t112 t115 t121 bt124.2.1 bt124.2.2 true l0_0 t109 t117 bt124.1))))) = some r := H
   have A15 := Aside0.mk A150
   clear A150
   replace H := Option.bind_eq_some_iff.mp H
   obtain ⟨t121, A160, H⟩ := H
   replace H : ((impl_KeepSign.f t117 t121 a2 a3).bind fun bt124 => ((laws_eqSpace.f k bt124.1 t109).bind fun t132 => (if t132 = true then ((laws_eqInt64S.f k bt124.2.1 t112).bind fun t133 => (if t133 = true then (laws_FnExactKeepSign.j0 k l1 a2 a3 t112 t115 t121 bt124.2.1 bt124.2.2 (bt124.2.2 != t115) l0_0 t109 t117 bt124.1) else (laws_FnExactKeepSign.j0 k l1 a2 a3 t112 t115 t121 bt124.2.1 bt124.2.2 true l0_0 t109 t117 bt124.1))) else (laws_FnExactKeepSign.j0 k l1 a2 a3 t112 t115 t121 bt124.2.1 bt124.2.2 true l0_0 t109 t117 bt124.1)))) = some r := H
   have A16 := Aside0.mk A160
   clear A160
   replace H := Option.bind_eq_some_iff.mp H
   obtain ⟨⟨t124, t127, t130⟩, A170, H⟩ := H
   replace H : ((laws_eqSpace.f k t124 t109).bind fun t132 => (if t132 = true then ((laws_eqInt64S.f k t127 t112).bind fun t133 => (if t133 = true then (laws_FnExactKeepSign.j0 k l1 a2 a3 t112 t115 t121 t127 t130 (t130 != t115) l0_0 t109 t117 t124) else (laws_FnExactKeepSign.j0 k l1 a2 a3 t112 t115 t121 t127 t130 true l0_0 t109 t117 t124))) else (laws_FnExactKeepSign.j0 k l1 a2 a3 t112 t115 t121 t127 t130 true l0_0 t109 t117 t124))) = some r := H
   have A17 := Aside0.mk A170
   clear A170
   have HC18 := Aside0.mk H
   clear H
   go_enter Try.func8, Try.ntmps8
   go_upto_region 11 with (first | ((with_reducible refine gate_dst (N := 4) rfl ?_); refine box_event ?hg (N := 4) ?hd (cs := #[.slice A0_0 l0_0.length c0_0]) (t := 24) ?hr ?_; (case hd => rfl); (case hg => rfl); (case hr => first | (go_simp; done) | (go_simp; rfl)); intro gb101 hg w19 hbox hb; have n0_ := Aside0.mk (below_step (gb_ HB.out) hb); have n1_ := Aside0.mk (hbox); have n2_ := Aside0.mk ((by rw [hg]; exact (below_size (gb_ HB.out)) : w.heap.size ≤ gb101)); have n3_ := Aside0.mk ((by rw [hg]; exact (below_size (gb_ HB.out)) : w.heap.size ≤ gb101)); clear HB; have HB := n0_; have BK101 := n1_; have GW101 := n2_; have GE101 := n3_; clear n0_ n1_ n2_ n3_ hb hbox hg; have hcz20_0 : w19.cell? ⟨gb101, 0, none⟩ = some (.slice A0_0 l0_0.length c0_0) := (blk_cell BK101.out 0).trans rfl; have hfz20_0 := blk_frozen BK101.out 0) | ((with_reducible refine gate_callee (f := 9) rfl ?_); refine goesL_ (some 29) rfl rfl Try.func9 (by kernel_rfl) rfl #[.agg #[.slice A0_0 l0_0.length c0_0], .int .i64 1048576] rfl (by (try simp only [List.map_toArray, List.map_cons, List.map_nil]); first | done | rfl | (simp only [List.length_drop, List.length_take]; rfl)) ?_; (with_reducible refine (laws_szSpace.calls _ _ l0_0 1048576 t102 _ ?side1 ?side2 A7.out).mono ?_); (case side1 => exact c2_ HR0_0 HB); (case side2 => exact HC0_0.out); rintro e w21 ⟨rfl, hb⟩; refine ⟨_, rfl, ?_⟩; replace BK101 := a2_ BK101 hb; replace HB := Aside0.mk (below_step (gb_ HB.out) hb); (try clear hb); (try clear hb2); (try clear hk); (try clear hi); have hcz22_0 : w21.cell? ⟨gb101, 0, none⟩ = some (.slice A0_0 l0_0.length c0_0) := (blk_cell BK101.out 0).trans rfl; have hfz22_0 := blk_frozen BK101.out 0) | ((with_reducible refine gate_callee (f := 11) rfl ?_); refine goesL_ (some 34) rfl rfl Try.func11 (by kernel_rfl) rfl #[.agg #[.slice A0_0 l0_0.length c0_0]] rfl (by (try simp only [List.map_toArray, List.map_cons, List.map_nil]); first | done | rfl | (simp only [List.length_drop, List.length_take]; rfl)) ?_; (with_reducible refine (laws_toSpace.calls k _ _ l0_0 t103 _ ?side1 ?side2 A12.out).mono ?_); (case side1 => exact c2_ HR0_0 HB); (case side2 => exact HC0_0.out); rintro e w23 ⟨v104, rfl, ho0, hb⟩; refine ⟨_, rfl, ?_⟩; have HO105 := Aside0.mk (Kd.R_lower ho0 (below_size (gb_ HB.out))); replace BK101 := a2_ BK101 hb; replace HB := Aside0.mk (below_step (gb_ HB.out) hb); (try clear hb); (try clear hb2); (try clear hk); (try clear hi); (try clear ho0)) | ((with_reducible refine gate_callee (f := 12) rfl ?_); refine goesL_ (some 36) rfl rfl Try.func12 (by kernel_rfl) rfl #[.slice A1 l1.length c1] rfl (by (try simp only [List.map_toArray, List.map_cons, List.map_nil]); first | done | rfl | (simp only [List.length_drop, List.length_take]; rfl)) ?_; (with_reducible refine (laws_toInt64S.calls k _ _ l1 t106 _ ?side1 ?side2 A13.out).mono ?_); (case side1 => exact c2_ HR1 HB); (case side2 => exact HC1.out); rintro e w24 ⟨v107, rfl, ho0, hb⟩; refine ⟨_, rfl, ?_⟩; have HO108 := Aside0.mk (Kd.R_lower (Kd.R_new' ho0 (Kd.R_lt (rb_ HO105.out))) (below_size (gb_ HB.out))); replace HO105 := a5_ HO105 ho0 hb; replace BK101 := a2_ BK101 hb; replace HB := Aside0.mk (below_step (gb_ HB.out) hb); (try clear hb); (try clear hb2); (try clear hk); (try clear hi); (try clear ho0); obtain ⟨Ao25, co25, eo25⟩ := Kd.R_slice HO105.out; subst eo25; obtain ⟨Ao26, co26, eo26⟩ := Kd.R_slice HO108.out; subst eo26) | ((with_reducible refine gate_callee (f := 28) rfl ?_); refine goesL_ (some 39) rfl rfl Try.func28 (by kernel_rfl) rfl #[.agg #[.slice Ao25 t103.length co25], .slice Ao26 t106.length co26, .int .i64 a2, .int .i64 a3] rfl (by (try simp only [List.map_toArray, List.map_cons, List.map_nil]); first | done | rfl | (simp only [List.length_drop, List.length_take]; rfl)) ?_; (with_reducible refine (spec_KeepSign.calls k _ _ t103 _ _ t106 a2 a3 t109 t112 t115 _ ?side1 ?side2 ?side3 ?side4 A14.out).mono ?_); (case side1 => exact c1_ HO105); (case side2 => exact (Kd.R_reads' HO105.out).2.1); (case side3 => exact c1_ HO108); (case side4 => exact (Kd.R_reads' HO108.out).2.1); rintro e w27 ⟨v110, v113, rfl, ho0, ho1, hb⟩; refine ⟨_, rfl, ?_⟩; have HO111 := Aside0.mk (Kd.R_lower (Kd.R_new' (Kd.R_new' ho0 (Kd.R_lt (rb_ HO105.out))) (Kd.R_lt (rb_ HO108.out))) (below_size (gb_ HB.out))); have HO114 := Aside0.mk (Kd.R_lower (Kd.R_new' (Kd.R_new' ho1 (Kd.R_lt (rb_ HO105.out))) (Kd.R_lt (rb_ HO108.out))) (below_size (gb_ HB.out))); replace HO105 := Aside0.mk (Kd.R_mono (Kd.R_told (Kd.R_told (Kd.R_old (rb_ HO105.out) hb) (Kd.R_base ho0)) (Kd.R_base ho1)) (fun _ h_ => h_.1)); replace HO108 := Aside0.mk (Kd.R_mono (Kd.R_told (Kd.R_told (Kd.R_old (rb_ HO108.out) hb) (Kd.R_base ho0)) (Kd.R_base ho1)) (fun _ h_ => h_.1)); replace BK101 := a2_ BK101 hb; replace HB := Aside0.mk (below_step (gb_ HB.out) hb); (try clear hb); (try clear hb2); (try clear hk); (try clear hi); (try clear ho0); (try clear ho1)) | ((with_reducible refine gate_dst (N := 10) rfl ?_); refine box_event ?hg (N := 10) ?hd (cs := #[.slice none 0 0]) (t := 26) ?hr ?_; (case hd => rfl); (case hg => rfl); (case hr => first | (go_simp; done) | (go_simp; rfl)); intro gb116 hg w28 hbox hb; have n0_ := a1_ HO105 hb; have n1_ := a1_ HO108 hb; have n2_ := a1_ HO111 hb; have n3_ := a1_ HO114 hb; have n4_ := a2_ BK101 hb; have n5_ := Aside0.mk (below_step (gb_ HB.out) hb); have n6_ := Aside0.mk (hbox); have n7_ := Aside0.mk ((by rw [hg]; exact (below_size (gb_ HB.out)) : w.heap.size ≤ gb116)); have n8_ := Aside0.mk ((by rw [hg]; exact (below_size (gb_ HB.out)) : w.heap.size ≤ gb116)); have n9_ := Aside0.mk ((by rw [hg]; exact Nat.ne_of_lt (blk_lt (g := gb101) (o := .cells #[.slice A0_0 l0_0.length c0_0] 24 (0, 0)) (bb_ BK101.out)) : gb101 ≠ gb116)); have n10_ := Aside0.mk ((by rw [hg]; exact Nat.ne_of_gt (blk_lt (g := gb101) (o := .cells #[.slice A0_0 l0_0.length c0_0] 24 (0, 0)) (bb_ BK101.out)) : gb116 ≠ gb101)); clear HO105 HO108 HO111 HO114 BK101 HB; have HO105 := n0_; have HO108 := n1_; have HO111 := n2_; have HO114 := n3_; have BK101 := n4_; have HB := n5_; have BK116 := n6_; have GW116 := n7_; have GE116 := n8_; have NB101_116 := n9_; have NB116_101 := n10_; clear n0_ n1_ n2_ n3_ n4_ n5_ n6_ n7_ n8_ n9_ n10_ hb hbox hg; obtain ⟨Ao29, co29, eo29⟩ := Kd.R_slice HO111.out; subst eo29; have hnb30 := NB116_101.out; have hnc30 := NB101_116.out; have hcz31_0 : w28.cell? ⟨gb116, 0, none⟩ = some (.slice none 0 0) := (blk_cell BK116.out 0).trans rfl; have hfz31_0 := blk_frozen BK116.out 0; have hcz32_0 : w28.cell? ⟨gb101, 0, none⟩ = some (.slice A0_0 l0_0.length c0_0) := (blk_cell BK101.out 0).trans rfl; have hfz32_0 := blk_frozen BK101.out 0) | ((with_reducible refine gate_callee (f := 11) rfl ?_); refine goesL_ (some 44) rfl rfl Try.func11 (by kernel_rfl) rfl #[.agg #[.slice A0_0 l0_0.length c0_0]] rfl (by (try simp only [List.map_toArray, List.map_cons, List.map_nil]); first | done | rfl | (simp only [List.length_drop, List.length_take]; rfl)) ?_; (with_reducible refine (laws_toSpace.calls k _ _ l0_0 t117 _ ?side1 ?side2 A15.out).mono ?_); (case side1 => exact Kd.C_below HR0_0.out (gb_ HB.out)); (case side2 => exact HC0_0.out); rintro e w33 ⟨v118, rfl, ho0, hb⟩; refine ⟨_, rfl, ?_⟩; have HO119 := Aside0.mk (Kd.R_lower (Kd.R_new' (Kd.R_new' (Kd.R_new' (Kd.R_new' ho0 (Kd.R_lt (rb_ (Kd.R_mono (Kd.R_far (p := ⟨gb116, 0, none⟩) (Kd.R_types HO105.out BK116.out (by decide)) (fun _ hk => hk.2) (.slice Ao29 t109.length co29)) (fun _ h_ => h_.1))))) (Kd.R_lt (rb_ (Kd.R_mono (Kd.R_far (p := ⟨gb116, 0, none⟩) (Kd.R_types HO108.out BK116.out (by decide)) (fun _ hk => hk.2) (.slice Ao29 t109.length co29)) (fun _ h_ => h_.1))))) (Kd.R_lt (rb_ (Kd.R_mono (Kd.R_far (p := ⟨gb116, 0, none⟩) (Kd.R_types HO111.out BK116.out (by decide)) (fun _ hk => hk.2) (.slice Ao29 t109.length co29)) (fun _ h_ => h_.1))))) (Kd.R_lt (rb_ (Kd.R_mono (Kd.R_far (p := ⟨gb116, 0, none⟩) (Kd.R_types HO114.out BK116.out (by decide)) (fun _ hk => hk.2) (.slice Ao29 t109.length co29)) (fun _ h_ => h_.1))))) (below_size (gb_ HB.out))); replace HO105 := a8_ HO105 BK116 ho0 hb; replace HO108 := a8_ HO108 BK116 ho0 hb; replace HO111 := a8_ HO111 BK116 ho0 hb; replace HO114 := a8_ HO114 BK116 ho0 hb; replace BK101 := a3_ BK101 NB101_116 hb; replace BK116 := Aside0.mk (blk_below (g := gb116) (o := .cells #[.slice Ao29 t109.length co29] 26 (0, 0)) (by (with_reducible repeat (first | refine blk_drewN ?_ _ | refine blk_drew ?_ | refine blk_alloc ?_ _)); refine blk_put (cs := #[.slice none 0 0]) ?_ 0 _ rfl; (with_reducible repeat (first | refine blk_drewN ?_ _ | refine blk_drew ?_ | refine blk_alloc ?_ _)); exact BK116.out) hb); replace HB := Aside0.mk (below_step (gb_ HB.out) hb); (try clear hb); (try clear hb2); (try clear hk); (try clear hi); (try clear ho0)) | ((with_reducible refine gate_dst (N := 13) rfl ?_); refine box_event ?hg (N := 13) ?hd (cs := #[.slice none 0 0]) (t := 26) ?hr ?_; (case hd => rfl); (case hg => rfl); (case hr => first | (go_simp; done) | (go_simp; rfl)); intro gb120 hg w34 hbox hb; have n0_ := a1_ HO105 hb; have n1_ := a1_ HO108 hb; have n2_ := a1_ HO111 hb; have n3_ := a1_ HO114 hb; have n4_ := a1_ HO119 hb; have n5_ := a2_ BK101 hb; have n6_ := a2_ BK116 hb; have n7_ := Aside0.mk (below_step (gb_ HB.out) hb); have n8_ := Aside0.mk (hbox); have n9_ := Aside0.mk ((by rw [hg]; exact (below_size (gb_ HB.out)) : w.heap.size ≤ gb120)); have n10_ := Aside0.mk ((by rw [hg]; exact (below_size (gb_ HB.out)) : w.heap.size ≤ gb120)); have n11_ := Aside0.mk ((by rw [hg]; exact Nat.ne_of_lt (blk_lt (g := gb101) (o := .cells #[.slice A0_0 l0_0.length c0_0] 24 (0, 0)) (bb_ BK101.out)) : gb101 ≠ gb120)); have n12_ := Aside0.mk ((by rw [hg]; exact Nat.ne_of_gt (blk_lt (g := gb101) (o := .cells #[.slice A0_0 l0_0.length c0_0] 24 (0, 0)) (bb_ BK101.out)) : gb120 ≠ gb101)); have n13_ := Aside0.mk ((by rw [hg]; exact Nat.ne_of_lt (blk_lt (g := gb116) (o := .cells #[.slice Ao29 t109.length co29] 26 (0, 0)) (bb_ BK116.out)) : gb116 ≠ gb120)); have n14_ := Aside0.mk ((by rw [hg]; exact Nat.ne_of_gt (blk_lt (g := gb116) (o := .cells #[.slice Ao29 t109.length co29] 26 (0, 0)) (bb_ BK116.out)) : gb120 ≠ gb116)); clear HO105 HO108 HO111 HO114 HO119 BK101 BK116 HB; have HO105 := n0_; have HO108 := n1_; have HO111 := n2_; have HO114 := n3_; have HO119 := n4_; have BK101 := n5_; have BK116 := n6_; have HB := n7_; have BK120 := n8_; have GW120 := n9_; have GE120 := n10_; have NB101_120 := n11_; have NB120_101 := n12_; have NB116_120 := n13_; have NB120_116 := n14_; clear n0_ n1_ n2_ n3_ n4_ n5_ n6_ n7_ n8_ n9_ n10_ n11_ n12_ n13_ n14_ hb hbox hg; obtain ⟨Ao35, co35, eo35⟩ := Kd.R_slice HO119.out; subst eo35; have hnb36 := NB120_101.out; have hnc36 := NB101_120.out; have hnb37 := NB120_116.out; have hnc37 := NB116_120.out; have hcz38_0 : w34.cell? ⟨gb120, 0, none⟩ = some (.slice none 0 0) := (blk_cell BK120.out 0).trans rfl; have hfz38_0 := blk_frozen BK120.out 0) | ((with_reducible refine gate_callee (f := 12) rfl ?_); refine goesL_ (some 46) rfl rfl Try.func12 (by kernel_rfl) rfl #[.slice A1 l1.length c1] rfl (by (try simp only [List.map_toArray, List.map_cons, List.map_nil]); first | done | rfl | (simp only [List.length_drop, List.length_take]; rfl)) ?_; (with_reducible refine (laws_toInt64S.calls k _ _ l1 t121 _ ?side1 ?side2 A16.out).mono ?_); (case side1 => exact Kd.C_below HR1.out (gb_ HB.out)); (case side2 => exact HC1.out); rintro e w39 ⟨v122, rfl, ho0, hb⟩; refine ⟨_, rfl, ?_⟩; have HO123 := Aside0.mk (Kd.R_lower (Kd.R_new' (Kd.R_new' (Kd.R_new' (Kd.R_new' (Kd.R_new' ho0 (Kd.R_lt (rb_ (Kd.R_mono (Kd.R_far (p := ⟨gb120, 0, none⟩) (Kd.R_types HO105.out BK120.out (by decide)) (fun _ hk => hk.2) (.slice Ao35 t117.length co35)) (fun _ h_ => h_.1))))) (Kd.R_lt (rb_ (Kd.R_mono (Kd.R_far (p := ⟨gb120, 0, none⟩) (Kd.R_types HO108.out BK120.out (by decide)) (fun _ hk => hk.2) (.slice Ao35 t117.length co35)) (fun _ h_ => h_.1))))) (Kd.R_lt (rb_ (Kd.R_mono (Kd.R_far (p := ⟨gb120, 0, none⟩) (Kd.R_types HO111.out BK120.out (by decide)) (fun _ hk => hk.2) (.slice Ao35 t117.length co35)) (fun _ h_ => h_.1))))) (Kd.R_lt (rb_ (Kd.R_mono (Kd.R_far (p := ⟨gb120, 0, none⟩) (Kd.R_types HO114.out BK120.out (by decide)) (fun _ hk => hk.2) (.slice Ao35 t117.length co35)) (fun _ h_ => h_.1))))) (Kd.R_lt (rb_ (Kd.R_mono (Kd.R_far (p := ⟨gb120, 0, none⟩) (Kd.R_types HO119.out BK120.out (by decide)) (fun _ hk => hk.2) (.slice Ao35 t117.length co35)) (fun _ h_ => h_.1))))) (below_size (gb_ HB.out))); replace HO105 := a8_ HO105 BK120 ho0 hb; replace HO108 := a8_ HO108 BK120 ho0 hb; replace HO111 := a8_ HO111 BK120 ho0 hb; replace HO114 := a8_ HO114 BK120 ho0 hb; replace HO119 := a8_ HO119 BK120 ho0 hb; replace BK101 := a3_ BK101 NB101_120 hb; replace BK116 := a3_ BK116 NB116_120 hb; replace BK120 := Aside0.mk (blk_below (g := gb120) (o := .cells #[.slice Ao35 t117.length co35] 26 (0, 0)) (by (with_reducible repeat (first | refine blk_drewN ?_ _ | refine blk_drew ?_ | refine blk_alloc ?_ _)); refine blk_put (cs := #[.slice none 0 0]) ?_ 0 _ rfl; (with_reducible repeat (first | refine blk_drewN ?_ _ | refine blk_drew ?_ | refine blk_alloc ?_ _)); exact BK120.out) hb); replace HB := Aside0.mk (below_step (gb_ HB.out) hb); (try clear hb); (try clear hb2); (try clear hk); (try clear hi); (try clear ho0); have hcz40_0 : w39.cell? ⟨gb120, 0, none⟩ = some (.slice Ao35 t117.length co35) := (blk_cell BK120.out 0).trans rfl; have hfz40_0 := blk_frozen BK120.out 0; obtain ⟨Ao41, co41, eo41⟩ := Kd.R_slice HO123.out; subst eo41) | ((with_reducible refine gate_callee (f := 29) rfl ?_); refine goesL_ (some 52) rfl rfl Try.func29 (by kernel_rfl) rfl #[.agg #[.slice Ao35 t117.length co35], .slice Ao41 t121.length co41, .int .i64 a2, .int .i64 a3] rfl (by (try simp only [List.map_toArray, List.map_cons, List.map_nil]); first | done | rfl | (simp only [List.length_drop, List.length_take]; rfl)) ?_; (with_reducible refine (impl_KeepSign.calls _ _ t117 _ _ t121 a2 a3 t124 t127 t130 _ ?side1 ?side2 ?side3 ?side4 A17.out).mono ?_); (case side1 => exact c1_ HO119); (case side2 => exact (Kd.R_reads' HO119.out).2.1); (case side3 => exact c1_ HO123); (case side4 => exact (Kd.R_reads' HO123.out).2.1); rintro e w42 ⟨v125, v128, rfl, ho0, ho1, hb⟩; refine ⟨_, rfl, ?_⟩; have HO126 := Aside0.mk (Kd.R_lower (Kd.R_new' (Kd.R_new' (Kd.R_new' (Kd.R_new' (Kd.R_new' (Kd.R_new' ho0 (Kd.R_lt (rb_ HO105.out))) (Kd.R_lt (rb_ HO108.out))) (Kd.R_lt (rb_ HO111.out))) (Kd.R_lt (rb_ HO114.out))) (Kd.R_lt (rb_ HO119.out))) (Kd.R_lt (rb_ HO123.out))) (below_size (gb_ HB.out))); have HO129 := Aside0.mk (Kd.R_lower (Kd.R_new' (Kd.R_new' (Kd.R_new' (Kd.R_new' (Kd.R_new' (Kd.R_new' ho1 (Kd.R_lt (rb_ HO105.out))) (Kd.R_lt (rb_ HO108.out))) (Kd.R_lt (rb_ HO111.out))) (Kd.R_lt (rb_ HO114.out))) (Kd.R_lt (rb_ HO119.out))) (Kd.R_lt (rb_ HO123.out))) (below_size (gb_ HB.out))); replace HO105 := Aside0.mk (Kd.R_mono (Kd.R_told (Kd.R_told (Kd.R_old (rb_ HO105.out) hb) (Kd.R_base ho0)) (Kd.R_base ho1)) (fun _ h_ => h_.1)); replace HO108 := Aside0.mk (Kd.R_mono (Kd.R_told (Kd.R_told (Kd.R_old (rb_ HO108.out) hb) (Kd.R_base ho0)) (Kd.R_base ho1)) (fun _ h_ => h_.1)); replace HO111 := Aside0.mk (Kd.R_mono (Kd.R_told (Kd.R_told (Kd.R_old (rb_ HO111.out) hb) (Kd.R_base ho0)) (Kd.R_base ho1)) (fun _ h_ => h_.1)); replace HO114 := Aside0.mk (Kd.R_mono (Kd.R_told (Kd.R_told (Kd.R_old (rb_ HO114.out) hb) (Kd.R_base ho0)) (Kd.R_base ho1)) (fun _ h_ => h_.1)); replace HO119 := Aside0.mk (Kd.R_mono (Kd.R_told (Kd.R_told (Kd.R_old (rb_ HO119.out) hb) (Kd.R_base ho0)) (Kd.R_base ho1)) (fun _ h_ => h_.1)); replace HO123 := Aside0.mk (Kd.R_mono (Kd.R_told (Kd.R_told (Kd.R_old (rb_ HO123.out) hb) (Kd.R_base ho0)) (Kd.R_base ho1)) (fun _ h_ => h_.1)); replace BK101 := a2_ BK101 hb; replace BK116 := a2_ BK116 hb; replace BK120 := a2_ BK120 hb; replace HB := Aside0.mk (below_step (gb_ HB.out) hb); (try clear hb); (try clear hb2); (try clear hk); (try clear hi); (try clear ho0); (try clear ho1)) | ((with_reducible refine gate_dst (N := 15) rfl ?_); refine box_event ?hg (N := 15) ?hd (cs := #[.slice none 0 0]) (t := 26) ?hr ?_; (case hd => rfl); (case hg => rfl); (case hr => first | (go_simp; done) | (go_simp; rfl)); intro gb131 hg w43 hbox hb; have n0_ := a1_ HO105 hb; have n1_ := a1_ HO108 hb; have n2_ := a1_ HO111 hb; have n3_ := a1_ HO114 hb; have n4_ := a1_ HO119 hb; have n5_ := a1_ HO123 hb; have n6_ := a1_ HO126 hb; have n7_ := a1_ HO129 hb; have n8_ := a2_ BK101 hb; have n9_ := a2_ BK116 hb; have n10_ := a2_ BK120 hb; have n11_ := Aside0.mk (below_step (gb_ HB.out) hb); have n12_ := Aside0.mk (hbox); have n13_ := Aside0.mk ((by rw [hg]; exact (below_size (gb_ HB.out)) : w.heap.size ≤ gb131)); have n14_ := Aside0.mk ((by rw [hg]; exact (below_size (gb_ HB.out)) : w.heap.size ≤ gb131)); have n15_ := Aside0.mk ((by rw [hg]; exact Nat.ne_of_lt (blk_lt (g := gb101) (o := .cells #[.slice A0_0 l0_0.length c0_0] 24 (0, 0)) (bb_ BK101.out)) : gb101 ≠ gb131)); have n16_ := Aside0.mk ((by rw [hg]; exact Nat.ne_of_gt (blk_lt (g := gb101) (o := .cells #[.slice A0_0 l0_0.length c0_0] 24 (0, 0)) (bb_ BK101.out)) : gb131 ≠ gb101)); have n17_ := Aside0.mk ((by rw [hg]; exact Nat.ne_of_lt (blk_lt (g := gb116) (o := .cells #[.slice Ao29 t109.length co29] 26 (0, 0)) (bb_ BK116.out)) : gb116 ≠ gb131)); have n18_ := Aside0.mk ((by rw [hg]; exact Nat.ne_of_gt (blk_lt (g := gb116) (o := .cells #[.slice Ao29 t109.length co29] 26 (0, 0)) (bb_ BK116.out)) : gb131 ≠ gb116)); have n19_ := Aside0.mk ((by rw [hg]; exact Nat.ne_of_lt (blk_lt (g := gb120) (o := .cells #[.slice Ao35 t117.length co35] 26 (0, 0)) (bb_ BK120.out)) : gb120 ≠ gb131)); have n20_ := Aside0.mk ((by rw [hg]; exact Nat.ne_of_gt (blk_lt (g := gb120) (o := .cells #[.slice Ao35 t117.length co35] 26 (0, 0)) (bb_ BK120.out)) : gb131 ≠ gb120)); clear HO105 HO108 HO111 HO114 HO119 HO123 HO126 HO129 BK101 BK116 BK120 HB; have HO105 := n0_; have HO108 := n1_; have HO111 := n2_; have HO114 := n3_; have HO119 := n4_; have HO123 := n5_; have HO126 := n6_; have HO129 := n7_; have BK101 := n8_; have BK116 := n9_; have BK120 := n10_; have HB := n11_; have BK131 := n12_; have GW131 := n13_; have GE131 := n14_; have NB101_131 := n15_; have NB131_101 := n16_; have NB116_131 := n17_; have NB131_116 := n18_; have NB120_131 := n19_; have NB131_120 := n20_; clear n0_ n1_ n2_ n3_ n4_ n5_ n6_ n7_ n8_ n9_ n10_ n11_ n12_ n13_ n14_ n15_ n16_ n17_ n18_ n19_ n20_ hb hbox hg; obtain ⟨Ao44, co44, eo44⟩ := Kd.R_slice HO126.out; subst eo44; have hnb45 := NB131_101.out; have hnc45 := NB101_131.out; have hnb46 := NB131_116.out; have hnc46 := NB116_131.out; have hnb47 := NB131_120.out; have hnc47 := NB120_131.out; have hcz48_0 : w43.cell? ⟨gb131, 0, none⟩ = some (.slice none 0 0) := (blk_cell BK131.out 0).trans rfl; have hfz48_0 := blk_frozen BK131.out 0))
   (try simp only [Act.put, List.setIfInBounds_toArray, List.set_cons_zero, List.set_cons_succ])
   go_cut [70] (fun v70 wc => ∃ (kq : Nat) (x70_17 : Bool), v70 = .bool x70_17 ∧ Aside0 (laws_FnExactKeepSign.j0 kq l1 a2 a3 t112 t115 t121 t127 t130 x70_17 l0_0 t109 t117 t124 = some r) ∧ Aside0 (kq ≤ k) ∧ Aside0 (Kd.R (Kd.int .i64) 2 wc w.heap.size (fun k_ => OB_ k_ (.slice Ao41 t121.length co41) ∧ OB_ k_ v128 ∧ OB_ k_ (.slice Ao29 t109.length co29) ∧ OB_ k_ (.slice Ao35 t117.length co35) ∧ OB_ k_ (.slice Ao44 t124.length co44)) v113 t112) ∧ Aside0 (Kd.R (Kd.int .i64) 2 wc w.heap.size (fun k_ => OB_ k_ v113 ∧ OB_ k_ v128 ∧ OB_ k_ (.slice Ao29 t109.length co29) ∧ OB_ k_ (.slice Ao35 t117.length co35) ∧ OB_ k_ (.slice Ao44 t124.length co44)) (.slice Ao41 t121.length co41) t121) ∧ Aside0 (Kd.R (Kd.int .i64) 2 wc w.heap.size (fun k_ => OB_ k_ v113 ∧ OB_ k_ (.slice Ao41 t121.length co41) ∧ OB_ k_ (.slice Ao29 t109.length co29) ∧ OB_ k_ (.slice Ao35 t117.length co35) ∧ OB_ k_ (.slice Ao44 t124.length co44)) v128 t127) ∧ Aside0 (Kd.R (Kd.int .i64) 2 wc w.heap.size (fun k_ => OB_ k_ v113 ∧ OB_ k_ (.slice Ao41 t121.length co41) ∧ OB_ k_ v128 ∧ OB_ k_ (.slice Ao35 t117.length co35) ∧ OB_ k_ (.slice Ao44 t124.length co44)) (.slice Ao29 t109.length co29) t109) ∧ Aside0 (Kd.R (Kd.int .i64) 2 wc w.heap.size (fun k_ => OB_ k_ v113 ∧ OB_ k_ (.slice Ao41 t121.length co41) ∧ OB_ k_ v128 ∧ OB_ k_ (.slice Ao29 t109.length co29) ∧ OB_ k_ (.slice Ao44 t124.length co44)) (.slice Ao35 t117.length co35) t117) ∧ Aside0 (Kd.R (Kd.int .i64) 2 wc w.heap.size (fun k_ => OB_ k_ v113 ∧ OB_ k_ (.slice Ao41 t121.length co41) ∧ OB_ k_ v128 ∧ OB_ k_ (.slice Ao29 t109.length co29) ∧ OB_ k_ (.slice Ao35 t117.length co35)) (.slice Ao44 t124.length co44) t124) ∧ Aside0 (wc.heap[gb101]? = some (.cells #[(.slice A0_0 l0_0.length c0_0)] 24 (0, 0))) ∧ Aside0 (wc.heap[gb116]? = some (.cells #[(.slice Ao29 t109.length co29)] 26 (0, 0))) ∧ Aside0 (wc.heap[gb120]? = some (.cells #[(.slice Ao35 t117.length co35)] 26 (0, 0))) ∧ Aside0 (wc.heap[gb131]? = some (.cells #[(.slice Ao44 t124.length co44)] 26 (0, 0))) ∧ Aside0 (Below w.heap.size w wc))
   case first =>
    have H := HC18.out
    clear HC18
    replace H := Option.bind_eq_some_iff.mp H
    obtain ⟨t132, A490, H⟩ := H
    replace H : (if t132 = true then ((laws_eqInt64S.f k t127 t112).bind fun t133 => (if t133 = true then (laws_FnExactKeepSign.j0 k l1 a2 a3 t112 t115 t121 t127 t130 (t130 != t115) l0_0 t109 t117 t124) else (laws_FnExactKeepSign.j0 k l1 a2 a3 t112 t115 t121 t127 t130 true l0_0 t109 t117 t124))) else (laws_FnExactKeepSign.j0 k l1 a2 a3 t112 t115 t121 t127 t130 true l0_0 t109 t117 t124)) = some r := H
    have A49 := Aside0.mk A490
    clear A490
    by_cases c50 : t132 = true
    ·subst c50
     have H1 : ((laws_eqInt64S.f k t127 t112).bind fun t133 => (if t133 = true then (laws_FnExactKeepSign.j0 k l1 a2 a3 t112 t115 t121 t127 t130 (t130 != t115) l0_0 t109 t117 t124) else (laws_FnExactKeepSign.j0 k l1 a2 a3 t112 t115 t121 t127 t130 true l0_0 t109 t117 t124))) = some r := by rw [if_pos rfl] at H; exact H
     clear H
     have H := H1
     clear H1
     replace H := Option.bind_eq_some_iff.mp H
     obtain ⟨t133, A510, H⟩ := H
     replace H : (if t133 = true then (laws_FnExactKeepSign.j0 k l1 a2 a3 t112 t115 t121 t127 t130 (t130 != t115) l0_0 t109 t117 t124) else (laws_FnExactKeepSign.j0 k l1 a2 a3 t112 t115 t121 t127 t130 true l0_0 t109 t117 t124)) = some r := H
     have A51 := Aside0.mk A510
     clear A510
     by_cases c52 : t133 = true
     ·subst c52
      have H1 : (laws_FnExactKeepSign.j0 k l1 a2 a3 t112 t115 t121 t127 t130 (t130 != t115) l0_0 t109 t117 t124) = some r := by rw [if_pos rfl] at H; exact H
      clear H
      have H := H1
      clear H1
      have H' := Aside0.mk H
      clear H
      have hnb53 := NB131_101.out
      have hnc53 := NB101_131.out
      have hnb54 := NB131_116.out
      have hnc54 := NB116_131.out
      have hnb55 := NB131_120.out
      have hnc55 := NB120_131.out
      have hcz56_0 : w43.cell? ⟨gb131, 0, none⟩ = some (.slice none 0 0) := (blk_cell BK131.out 0).trans rfl
      have hfz56_0 := blk_frozen BK131.out 0
      have hnb57 := NB116_101.out
      have hnc57 := NB101_116.out
      have hnb58 := NB116_120.out
      have hnc58 := NB120_116.out
      have hcz59_0 : w43.cell? ⟨gb116, 0, none⟩ = some (.slice Ao29 t109.length co29) := (blk_cell BK116.out 0).trans rfl
      have hfz59_0 := blk_frozen BK116.out 0
      go_wp2_with (first | ((with_reducible refine gate_callee (f := 14) rfl ?_); refine goesL_ (some 58) rfl rfl Try.func14 (by kernel_rfl) rfl #[.agg #[.slice Ao44 t124.length co44], .agg #[.slice Ao29 t109.length co29]] rfl (by (try simp only [List.map_toArray, List.map_cons, List.map_nil]); first | done | rfl | (simp only [List.length_drop, List.length_take]; rfl)) ?_; (with_reducible refine (laws_eqSpace.calls k _ _ t124 _ _ t109 true _ ?side1 ?side2 ?side3 ?side4 A49.out).mono ?_); (case side1 => refine (Kd.R_reads' (e := 2) (base := w.heap.size) (ok := fun _ => True) (n := t124.length) (c := co44) ?_).2.2; exact (rb_ (Kd.R_mono (Kd.R_far (p := ⟨gb131, 0, none⟩) (Kd.R_types HO126.out BK131.out (by decide)) (fun _ hk => hk.2) (.slice Ao44 t124.length co44)) (fun _ _ => trivial)))); (case side2 => exact (Kd.R_reads' HO126.out).2.1); (case side3 => refine (Kd.R_reads' (e := 2) (base := w.heap.size) (ok := fun _ => True) (n := t109.length) (c := co29) ?_).2.2; exact (rb_ (Kd.R_mono (Kd.R_far (p := ⟨gb131, 0, none⟩) (Kd.R_types HO111.out BK131.out (by decide)) (fun _ hk => hk.2) (.slice Ao44 t124.length co44)) (fun _ _ => trivial)))); (case side4 => exact (Kd.R_reads' HO111.out).2.1); rintro e w60 ⟨rfl, hb⟩; refine ⟨_, rfl, ?_⟩; replace HO105 := a4_ HO105 BK131 hb; replace HO108 := a4_ HO108 BK131 hb; replace HO111 := a4_ HO111 BK131 hb; replace HO114 := a4_ HO114 BK131 hb; replace HO119 := a4_ HO119 BK131 hb; replace HO123 := a4_ HO123 BK131 hb; replace HO126 := a4_ HO126 BK131 hb; replace HO129 := a4_ HO129 BK131 hb; replace BK101 := a3_ BK101 NB101_131 hb; replace BK116 := a3_ BK116 NB116_131 hb; replace BK120 := a3_ BK120 NB120_131 hb; replace BK131 := Aside0.mk (blk_below (g := gb131) (o := .cells #[.slice Ao44 t124.length co44] 26 (0, 0)) (by (with_reducible repeat (first | refine blk_drewN ?_ _ | refine blk_drew ?_ | refine blk_alloc ?_ _)); refine blk_put (cs := #[.slice none 0 0]) ?_ 0 _ rfl; (with_reducible repeat (first | refine blk_drewN ?_ _ | refine blk_drew ?_ | refine blk_alloc ?_ _)); exact BK131.out) hb); replace HB := Aside0.mk (below_step (gb_ HB.out) hb); (try clear hb); (try clear hb2); (try clear hk); (try clear hi); obtain ⟨Ao61, co61, eo61⟩ := Kd.R_slice HO129.out; subst eo61; obtain ⟨Ao62, co62, eo62⟩ := Kd.R_slice HO114.out; subst eo62) | (go_at_call 15; (with_reducible refine (laws_eqInt64S.calls k _ _ t127 _ _ t112 true _ ?side1 ?side2 ?side3 ?side4 A51.out).mono ?_); (case side1 => exact c1_ HO129); (case side2 => exact (Kd.R_reads' HO129.out).2.1); (case side3 => exact c1_ HO114); (case side4 => exact (Kd.R_reads' HO114.out).2.1); rintro e w' ⟨rfl, ⟨nd, rfl⟩⟩))
      go_meet
      case rel => exact ⟨_, ((t130 != t115)), (by first | rfl | (simp; done) | (simp [*]; done)), H', ⟨by first | omega | exact Nat.le_refl _⟩, ⟨by (with_reducible repeat (first | apply Kd.R_alloc | apply Kd.R_drewN | apply Kd.R_drew)); exact Kd.R_mono HO114.out (fun _ hk => by grind)⟩, ⟨by (with_reducible repeat (first | apply Kd.R_alloc | apply Kd.R_drewN | apply Kd.R_drew)); exact Kd.R_mono HO123.out (fun _ hk => by grind)⟩, ⟨by (with_reducible repeat (first | apply Kd.R_alloc | apply Kd.R_drewN | apply Kd.R_drew)); exact Kd.R_mono HO129.out (fun _ hk => by grind)⟩, ⟨by (with_reducible repeat (first | apply Kd.R_alloc | apply Kd.R_drewN | apply Kd.R_drew)); exact Kd.R_mono HO111.out (fun _ hk => by grind)⟩, ⟨by (with_reducible repeat (first | apply Kd.R_alloc | apply Kd.R_drewN | apply Kd.R_drew)); exact Kd.R_mono HO119.out (fun _ hk => by grind)⟩, ⟨by (with_reducible repeat (first | apply Kd.R_alloc | apply Kd.R_drewN | apply Kd.R_drew)); exact Kd.R_mono HO126.out (fun _ hk => by grind)⟩, ⟨by (with_reducible repeat (first | refine blk_drewN ?_ _ | refine blk_drew ?_ | refine blk_alloc ?_ _)); exact BK101.out⟩, ⟨by (with_reducible repeat (first | refine blk_drewN ?_ _ | refine blk_drew ?_ | refine blk_alloc ?_ _)); exact BK116.out⟩, ⟨by (with_reducible repeat (first | refine blk_drewN ?_ _ | refine blk_drew ?_ | refine blk_alloc ?_ _)); exact BK120.out⟩, ⟨by (with_reducible repeat (first | refine blk_drewN ?_ _ | refine blk_drew ?_ | refine blk_alloc ?_ _)); exact BK131.out⟩, ⟨gb_ HB.out⟩⟩
     ·replace c52 := Bool.eq_false_iff.mpr c52
      subst c52
      have H1 : (laws_FnExactKeepSign.j0 k l1 a2 a3 t112 t115 t121 t127 t130 true l0_0 t109 t117 t124) = some r := by rw [if_neg (show ¬ (false = true) by decide)] at H; exact H
      clear H
      have H := H1
      clear H1
      have H' := Aside0.mk H
      clear H
      have hnb63 := NB131_101.out
      have hnc63 := NB101_131.out
      have hnb64 := NB131_116.out
      have hnc64 := NB116_131.out
      have hnb65 := NB131_120.out
      have hnc65 := NB120_131.out
      have hcz66_0 : w43.cell? ⟨gb131, 0, none⟩ = some (.slice none 0 0) := (blk_cell BK131.out 0).trans rfl
      have hfz66_0 := blk_frozen BK131.out 0
      have hnb67 := NB116_101.out
      have hnc67 := NB101_116.out
      have hnb68 := NB116_120.out
      have hnc68 := NB120_116.out
      have hcz69_0 : w43.cell? ⟨gb116, 0, none⟩ = some (.slice Ao29 t109.length co29) := (blk_cell BK116.out 0).trans rfl
      have hfz69_0 := blk_frozen BK116.out 0
      go_wp2_with (first | ((with_reducible refine gate_callee (f := 14) rfl ?_); refine goesL_ (some 58) rfl rfl Try.func14 (by kernel_rfl) rfl #[.agg #[.slice Ao44 t124.length co44], .agg #[.slice Ao29 t109.length co29]] rfl (by (try simp only [List.map_toArray, List.map_cons, List.map_nil]); first | done | rfl | (simp only [List.length_drop, List.length_take]; rfl)) ?_; (with_reducible refine (laws_eqSpace.calls k _ _ t124 _ _ t109 true _ ?side1 ?side2 ?side3 ?side4 A49.out).mono ?_); (case side1 => refine (Kd.R_reads' (e := 2) (base := w.heap.size) (ok := fun _ => True) (n := t124.length) (c := co44) ?_).2.2; exact (rb_ (Kd.R_mono (Kd.R_far (p := ⟨gb131, 0, none⟩) (Kd.R_types HO126.out BK131.out (by decide)) (fun _ hk => hk.2) (.slice Ao44 t124.length co44)) (fun _ _ => trivial)))); (case side2 => exact (Kd.R_reads' HO126.out).2.1); (case side3 => refine (Kd.R_reads' (e := 2) (base := w.heap.size) (ok := fun _ => True) (n := t109.length) (c := co29) ?_).2.2; exact (rb_ (Kd.R_mono (Kd.R_far (p := ⟨gb131, 0, none⟩) (Kd.R_types HO111.out BK131.out (by decide)) (fun _ hk => hk.2) (.slice Ao44 t124.length co44)) (fun _ _ => trivial)))); (case side4 => exact (Kd.R_reads' HO111.out).2.1); rintro e w70 ⟨rfl, hb⟩; refine ⟨_, rfl, ?_⟩; replace HO105 := a4_ HO105 BK131 hb; replace HO108 := a4_ HO108 BK131 hb; replace HO111 := a4_ HO111 BK131 hb; replace HO114 := a4_ HO114 BK131 hb; replace HO119 := a4_ HO119 BK131 hb; replace HO123 := a4_ HO123 BK131 hb; replace HO126 := a4_ HO126 BK131 hb; replace HO129 := a4_ HO129 BK131 hb; replace BK101 := a3_ BK101 NB101_131 hb; replace BK116 := a3_ BK116 NB116_131 hb; replace BK120 := a3_ BK120 NB120_131 hb; replace BK131 := Aside0.mk (blk_below (g := gb131) (o := .cells #[.slice Ao44 t124.length co44] 26 (0, 0)) (by (with_reducible repeat (first | refine blk_drewN ?_ _ | refine blk_drew ?_ | refine blk_alloc ?_ _)); refine blk_put (cs := #[.slice none 0 0]) ?_ 0 _ rfl; (with_reducible repeat (first | refine blk_drewN ?_ _ | refine blk_drew ?_ | refine blk_alloc ?_ _)); exact BK131.out) hb); replace HB := Aside0.mk (below_step (gb_ HB.out) hb); (try clear hb); (try clear hb2); (try clear hk); (try clear hi); obtain ⟨Ao71, co71, eo71⟩ := Kd.R_slice HO129.out; subst eo71; obtain ⟨Ao72, co72, eo72⟩ := Kd.R_slice HO114.out; subst eo72) | (go_at_call 15; (with_reducible refine (laws_eqInt64S.calls k _ _ t127 _ _ t112 false _ ?side1 ?side2 ?side3 ?side4 A51.out).mono ?_); (case side1 => exact c1_ HO129); (case side2 => exact (Kd.R_reads' HO129.out).2.1); (case side3 => exact c1_ HO114); (case side4 => exact (Kd.R_reads' HO114.out).2.1); rintro e w' ⟨rfl, ⟨nd, rfl⟩⟩))
      go_meet
      case rel => exact ⟨_, (true), (by first | rfl | (simp; done) | (simp [*]; done)), H', ⟨by first | omega | exact Nat.le_refl _⟩, ⟨by (with_reducible repeat (first | apply Kd.R_alloc | apply Kd.R_drewN | apply Kd.R_drew)); exact Kd.R_mono HO114.out (fun _ hk => by grind)⟩, ⟨by (with_reducible repeat (first | apply Kd.R_alloc | apply Kd.R_drewN | apply Kd.R_drew)); exact Kd.R_mono HO123.out (fun _ hk => by grind)⟩, ⟨by (with_reducible repeat (first | apply Kd.R_alloc | apply Kd.R_drewN | apply Kd.R_drew)); exact Kd.R_mono HO129.out (fun _ hk => by grind)⟩, ⟨by (with_reducible repeat (first | apply Kd.R_alloc | apply Kd.R_drewN | apply Kd.R_drew)); exact Kd.R_mono HO111.out (fun _ hk => by grind)⟩, ⟨by (with_reducible repeat (first | apply Kd.R_alloc | apply Kd.R_drewN | apply Kd.R_drew)); exact Kd.R_mono HO119.out (fun _ hk => by grind)⟩, ⟨by (with_reducible repeat (first | apply Kd.R_alloc | apply Kd.R_drewN | apply Kd.R_drew)); exact Kd.R_mono HO126.out (fun _ hk => by grind)⟩, ⟨by (with_reducible repeat (first | refine blk_drewN ?_ _ | refine blk_drew ?_ | refine blk_alloc ?_ _)); exact BK101.out⟩, ⟨by (with_reducible repeat (first | refine blk_drewN ?_ _ | refine blk_drew ?_ | refine blk_alloc ?_ _)); exact BK116.out⟩, ⟨by (with_reducible repeat (first | refine blk_drewN ?_ _ | refine blk_drew ?_ | refine blk_alloc ?_ _)); exact BK120.out⟩, ⟨by (with_reducible repeat (first | refine blk_drewN ?_ _ | refine blk_drew ?_ | refine blk_alloc ?_ _)); exact BK131.out⟩, ⟨gb_ HB.out⟩⟩
    ·replace c50 := Bool.eq_false_iff.mpr c50
     subst c50
     have H1 : (laws_FnExactKeepSign.j0 k l1 a2 a3 t112 t115 t121 t127 t130 true l0_0 t109 t117 t124) = some r := by rw [if_neg (show ¬ (false = true) by decide)] at H; exact H
     clear H
     have H := H1
     clear H1
     have H' := Aside0.mk H
     clear H
     have hnb73 := NB131_101.out
     have hnc73 := NB101_131.out
     have hnb74 := NB131_116.out
     have hnc74 := NB116_131.out
     have hnb75 := NB131_120.out
     have hnc75 := NB120_131.out
     have hcz76_0 : w43.cell? ⟨gb131, 0, none⟩ = some (.slice none 0 0) := (blk_cell BK131.out 0).trans rfl
     have hfz76_0 := blk_frozen BK131.out 0
     have hnb77 := NB116_101.out
     have hnc77 := NB101_116.out
     have hnb78 := NB116_120.out
     have hnc78 := NB120_116.out
     have hcz79_0 : w43.cell? ⟨gb116, 0, none⟩ = some (.slice Ao29 t109.length co29) := (blk_cell BK116.out 0).trans rfl
     have hfz79_0 := blk_frozen BK116.out 0
     go_wp2_with (first | ((with_reducible refine gate_callee (f := 14) rfl ?_); refine goesL_ (some 58) rfl rfl Try.func14 (by kernel_rfl) rfl #[.agg #[.slice Ao44 t124.length co44], .agg #[.slice Ao29 t109.length co29]] rfl (by (try simp only [List.map_toArray, List.map_cons, List.map_nil]); first | done | rfl | (simp only [List.length_drop, List.length_take]; rfl)) ?_; (with_reducible refine (laws_eqSpace.calls k _ _ t124 _ _ t109 false _ ?side1 ?side2 ?side3 ?side4 A49.out).mono ?_); (case side1 => refine (Kd.R_reads' (e := 2) (base := w.heap.size) (ok := fun _ => True) (n := t124.length) (c := co44) ?_).2.2; exact (rb_ (Kd.R_mono (Kd.R_far (p := ⟨gb131, 0, none⟩) (Kd.R_types HO126.out BK131.out (by decide)) (fun _ hk => hk.2) (.slice Ao44 t124.length co44)) (fun _ _ => trivial)))); (case side2 => exact (Kd.R_reads' HO126.out).2.1); (case side3 => refine (Kd.R_reads' (e := 2) (base := w.heap.size) (ok := fun _ => True) (n := t109.length) (c := co29) ?_).2.2; exact (rb_ (Kd.R_mono (Kd.R_far (p := ⟨gb131, 0, none⟩) (Kd.R_types HO111.out BK131.out (by decide)) (fun _ hk => hk.2) (.slice Ao44 t124.length co44)) (fun _ _ => trivial)))); (case side4 => exact (Kd.R_reads' HO111.out).2.1); rintro e w80 ⟨rfl, hb⟩; refine ⟨_, rfl, ?_⟩; replace HO105 := a4_ HO105 BK131 hb; replace HO108 := a4_ HO108 BK131 hb; replace HO111 := a4_ HO111 BK131 hb; replace HO114 := a4_ HO114 BK131 hb; replace HO119 := a4_ HO119 BK131 hb; replace HO123 := a4_ HO123 BK131 hb; replace HO126 := a4_ HO126 BK131 hb; replace HO129 := a4_ HO129 BK131 hb; replace BK101 := a3_ BK101 NB101_131 hb; replace BK116 := a3_ BK116 NB116_131 hb; replace BK120 := a3_ BK120 NB120_131 hb; replace BK131 := Aside0.mk (blk_below (g := gb131) (o := .cells #[.slice Ao44 t124.length co44] 26 (0, 0)) (by (with_reducible repeat (first | refine blk_drewN ?_ _ | refine blk_drew ?_ | refine blk_alloc ?_ _)); refine blk_put (cs := #[.slice none 0 0]) ?_ 0 _ rfl; (with_reducible repeat (first | refine blk_drewN ?_ _ | refine blk_drew ?_ | refine blk_alloc ?_ _)); exact BK131.out) hb); replace HB := Aside0.mk (below_step (gb_ HB.out) hb); (try clear hb); (try clear hb2); (try clear hk); (try clear hi)))
     go_meet
     case rel => exact ⟨_, (true), (by first | rfl | (simp; done) | (simp [*]; done)), H', ⟨by first | omega | exact Nat.le_refl _⟩, ⟨by (with_reducible repeat (first | apply Kd.R_alloc | apply Kd.R_drewN | apply Kd.R_drew)); exact Kd.R_mono HO114.out (fun _ hk => by grind)⟩, ⟨by (with_reducible repeat (first | apply Kd.R_alloc | apply Kd.R_drewN | apply Kd.R_drew)); exact Kd.R_mono HO123.out (fun _ hk => by grind)⟩, ⟨by (with_reducible repeat (first | apply Kd.R_alloc | apply Kd.R_drewN | apply Kd.R_drew)); exact Kd.R_mono HO129.out (fun _ hk => by grind)⟩, ⟨by (with_reducible repeat (first | apply Kd.R_alloc | apply Kd.R_drewN | apply Kd.R_drew)); exact Kd.R_mono HO111.out (fun _ hk => by grind)⟩, ⟨by (with_reducible repeat (first | apply Kd.R_alloc | apply Kd.R_drewN | apply Kd.R_drew)); exact Kd.R_mono HO119.out (fun _ hk => by grind)⟩, ⟨by (with_reducible repeat (first | apply Kd.R_alloc | apply Kd.R_drewN | apply Kd.R_drew)); exact Kd.R_mono HO126.out (fun _ hk => by grind)⟩, ⟨by (with_reducible repeat (first | refine blk_drewN ?_ _ | refine blk_drew ?_ | refine blk_alloc ?_ _)); exact BK101.out⟩, ⟨by (with_reducible repeat (first | refine blk_drewN ?_ _ | refine blk_drew ?_ | refine blk_alloc ?_ _)); exact BK116.out⟩, ⟨by (with_reducible repeat (first | refine blk_drewN ?_ _ | refine blk_drew ?_ | refine blk_alloc ?_ _)); exact BK120.out⟩, ⟨by (with_reducible repeat (first | refine blk_drewN ?_ _ | refine blk_drew ?_ | refine blk_alloc ?_ _)); exact BK131.out⟩, ⟨gb_ HB.out⟩⟩
   case rest =>
    clear HC18
    try clear c1
    try clear c2
    try clear p2
    try clear c3
    try clear c4
    try clear c5
    try clear c5b0
    try clear c5b1
    try clear c6
    try clear c7
    try clear c8
    try clear c8b0
    try clear c9
    try clear c11
    try clear c12
    try clear c14
    try clear c28
    try clear c29
    try clear c30
    try clear c36
    try clear c37
    try clear c45
    try clear c46
    try clear c47
    try clear c50
    try clear c52
    try clear c53
    try clear c54
    try clear c55
    try clear c57
    try clear c58
    try clear c63
    try clear c64
    try clear c65
    try clear c67
    try clear c68
    try clear c73
    try clear c74
    try clear c75
    try clear c77
    try clear c78
    try clear hcz10_0
    try clear hcz20_0
    try clear hcz22_0
    try clear hcz31_0
    try clear hcz32_0
    try clear hcz38_0
    try clear hcz40_0
    try clear hcz48_0
    try clear hcz56_0
    try clear hcz59_0
    try clear hcz66_0
    try clear hcz69_0
    try clear hcz76_0
    try clear hcz79_0
    try clear hfz10_0
    try clear hfz20_0
    try clear hfz22_0
    try clear hfz31_0
    try clear hfz32_0
    try clear hfz38_0
    try clear hfz40_0
    try clear hfz48_0
    try clear hfz56_0
    try clear hfz59_0
    try clear hfz66_0
    try clear hfz69_0
    try clear hfz76_0
    try clear hfz79_0
    obtain ⟨kq, x70_17, rfl, HA, HJ17, HO_11, HO_14, HO_16, HO_117000, HO_121000, HO_132000, BK101, BK116, BK120, BK131, HB⟩ := hcut
    cases kq with
    | zero => exact absurd HA.out (by simp [laws_FnExactKeepSign.j0])
    | succ kj17 =>
     have H := HA.out
     clear HA
     simp only [laws_FnExactKeepSign.j0] at H
     by_cases c81 : x70_17 = true
     ·subst c81
      have H1 : (some false) = some r := by rw [if_pos rfl] at H; exact H
      clear H
      have H := H1
      clear H1
      obtain rfl := Option.some.inj H
      go_wp2
      go_ret
      exact ⟨by first | rfl | (simp [errW_none, errW_some] <;> rfl) | (simp [*, errW_none, errW_some] <;> rfl), gb_ HB.out⟩
     ·replace c81 := Bool.eq_false_iff.mpr c81
      subst c81
      have H1 : ((laws_toSpace.f kj17 l0_0).bind fun t134 => ((laws_eqSpace.f kj17 t117 t134).bind fun t137 => (if t137 = true then ((laws_toInt64S.f kj17 l1).bind fun t138 => ((laws_eqInt64S.f kj17 t121 t138).bind fun t141 => (if t141 = true then ((laws_markSpace.f kj17 t117 1).bind fun bt142 => ((laws_markInt64S.f kj17 t121 bt142.1).bind fun bt144 => (if bt144.1 < 0 then (laws_FnExactKeepSign.j1 kj17 l1 a2 a3 t112 t115 t127 true l0_0 t109 t124) else ((laws_eqSpace.f kj17 t124 t109).bind fun t146 => (if t146 = true then ((laws_eqInt64S.f kj17 t127 t112).bind fun t147 => (if t147 = true then (laws_FnExactKeepSign.j1 kj17 l1 a2 a3 t112 t115 t127 (t130 != t115) l0_0 t109 t124) else (laws_FnExactKeepSign.j1 kj17 l1 a2 a3 t112 t115 t127 true l0_0 t109 t124))) else (laws_FnExactKeepSign.j1 kj17 l1 a2 a3 t112 t115 t127 true l0_0 t109 t124)))))) else (some false)))) else (some false)))) = some r := by rw [if_neg (show ¬ (false = true) by decide)] at H; exact H
      clear H
      have H := H1
      clear H1
      replace H := Option.bind_eq_some_iff.mp H
      obtain ⟨t134, A820, H⟩ := H
      replace H : ((laws_eqSpace.f kj17 t117 t134).bind fun t137 => (if t137 = true then ((laws_toInt64S.f kj17 l1).bind fun t138 => ((laws_eqInt64S.f kj17 t121 t138).bind fun t141 => (if t141 = true then ((laws_markSpace.f kj17 t117 1).bind fun bt142 => ((laws_markInt64S.f kj17 t121 bt142.1).bind fun bt144 => (if bt144.1 < 0 then (laws_FnExactKeepSign.j1 kj17 l1 a2 a3 t112 t115 t127 true l0_0 t109 t124) else ((laws_eqSpace.f kj17 t124 t109).bind fun t146 => (if t146 = true then ((laws_eqInt64S.f kj17 t127 t112).bind fun t147 => (if t147 = true then (laws_FnExactKeepSign.j1 kj17 l1 a2 a3 t112 t115 t127 (t130 != t115) l0_0 t109 t124) else (laws_FnExactKeepSign.j1 kj17 l1 a2 a3 t112 t115 t127 true l0_0 t109 t124))) else (laws_FnExactKeepSign.j1 kj17 l1 a2 a3 t112 t115 t127 true l0_0 t109 t124)))))) else (some false)))) else (some false))) = some r := H
      have A82 := Aside0.mk A820
      clear A820
      replace H := Option.bind_eq_some_iff.mp H
      obtain ⟨t137, A830, H⟩ := H
      replace H : (if t137 = true then ((laws_toInt64S.f kj17 l1).bind fun t138 => ((laws_eqInt64S.f kj17 t121 t138).bind fun t141 => (if t141 = true then ((laws_markSpace.f kj17 t117 1).bind fun bt142 => ((laws_markInt64S.f kj17 t121 bt142.1).bind fun bt144 => (if bt144.1 < 0 then (laws_FnExactKeepSign.j1 kj17 l1 a2 a3 t112 t115 t127 true l0_0 t109 t124) else ((laws_eqSpace.f kj17 t124 t109).bind fun t146 => (if t146 = true then ((laws_eqInt64S.f kj17 t127 t112).bind fun t147 => (if t147 = true then (laws_FnExactKeepSign.j1 kj17 l1 a2 a3 t112 t115 t127 (t130 != t115) l0_0 t109 t124) else (laws_FnExactKeepSign.j1 kj17 l1 a2 a3 t112 t115 t127 true l0_0 t109 t124))) else (laws_FnExactKeepSign.j1 kj17 l1 a2 a3 t112 t115 t127 true l0_0 t109 t124)))))) else (some false)))) else (some false)) = some r := H
      have A83 := Aside0.mk A830
      clear A830
      by_cases c84 : t137 = true
      ·subst c84
       have H1 : ((laws_toInt64S.f kj17 l1).bind fun t138 => ((laws_eqInt64S.f kj17 t121 t138).bind fun t141 => (if t141 = true then ((laws_markSpace.f kj17 t117 1).bind fun bt142 => ((laws_markInt64S.f kj17 t121 bt142.1).bind fun bt144 => (if bt144.1 < 0 then (laws_FnExactKeepSign.j1 kj17 l1 a2 a3 t112 t115 t127 true l0_0 t109 t124) else ((laws_eqSpace.f kj17 t124 t109).bind fun t146 => (if t146 = true then ((laws_eqInt64S.f kj17 t127 t112).bind fun t147 => (if t147 = true then (laws_FnExactKeepSign.j1 kj17 l1 a2 a3 t112 t115 t127 (t130 != t115) l0_0 t109 t124) else (laws_FnExactKeepSign.j1 kj17 l1 a2 a3 t112 t115 t127 true l0_0 t109 t124))) else (laws_FnExactKeepSign.j1 kj17 l1 a2 a3 t112 t115 t127 true l0_0 t109 t124)))))) else (some false)))) = some r := by rw [if_pos rfl] at H; exact H
       clear H
       have H := H1
       clear H1
       replace H := Option.bind_eq_some_iff.mp H
       obtain ⟨t138, A850, H⟩ := H
       replace H : ((laws_eqInt64S.f kj17 t121 t138).bind fun t141 => (if t141 = true then ((laws_markSpace.f kj17 t117 1).bind fun bt142 => ((laws_markInt64S.f kj17 t121 bt142.1).bind fun bt144 => (if bt144.1 < 0 then (laws_FnExactKeepSign.j1 kj17 l1 a2 a3 t112 t115 t127 true l0_0 t109 t124) else ((laws_eqSpace.f kj17 t124 t109).bind fun t146 => (if t146 = true then ((laws_eqInt64S.f kj17 t127 t112).bind fun t147 => (if t147 = true then (laws_FnExactKeepSign.j1 kj17 l1 a2 a3 t112 t115 t127 (t130 != t115) l0_0 t109 t124) else (laws_FnExactKeepSign.j1 kj17 l1 a2 a3 t112 t115 t127 true l0_0 t109 t124))) else (laws_FnExactKeepSign.j1 kj17 l1 a2 a3 t112 t115 t127 true l0_0 t109 t124)))))) else (some false))) = some r := H
       have A85 := Aside0.mk A850
       clear A850
       replace H := Option.bind_eq_some_iff.mp H
       obtain ⟨t141, A860, H⟩ := H
       replace H : (if t141 = true then ((laws_markSpace.f kj17 t117 1).bind fun bt142 => ((laws_markInt64S.f kj17 t121 bt142.1).bind fun bt144 => (if bt144.1 < 0 then (laws_FnExactKeepSign.j1 kj17 l1 a2 a3 t112 t115 t127 true l0_0 t109 t124) else ((laws_eqSpace.f kj17 t124 t109).bind fun t146 => (if t146 = true then ((laws_eqInt64S.f kj17 t127 t112).bind fun t147 => (if t147 = true then (laws_FnExactKeepSign.j1 kj17 l1 a2 a3 t112 t115 t127 (t130 != t115) l0_0 t109 t124) else (laws_FnExactKeepSign.j1 kj17 l1 a2 a3 t112 t115 t127 true l0_0 t109 t124))) else (laws_FnExactKeepSign.j1 kj17 l1 a2 a3 t112 t115 t127 true l0_0 t109 t124)))))) else (some false)) = some r := H
       have A86 := Aside0.mk A860
       clear A860
       by_cases c87 : t141 = true
       ·subst c87
        have H1 : ((laws_markSpace.f kj17 t117 1).bind fun bt142 => ((laws_markInt64S.f kj17 t121 bt142.1).bind fun bt144 => (if bt144.1 < 0 then (laws_FnExactKeepSign.j1 kj17 l1 a2 a3 t112 t115 t127 true l0_0 t109 t124) else ((laws_eqSpace.f kj17 t124 t109).bind fun t146 => (if t146 = true then ((laws_eqInt64S.f kj17 t127 t112).bind fun t147 => (if t147 = true then (laws_FnExactKeepSign.j1 kj17 l1 a2 a3 t112 t115 t127 (t130 != t115) l0_0 t109 t124) else (laws_FnExactKeepSign.j1 kj17 l1 a2 a3 t112 t115 t127 true l0_0 t109 t124))) else (laws_FnExactKeepSign.j1 kj17 l1 a2 a3 t112 t115 t127 true l0_0 t109 t124)))))) = some r := by rw [if_pos rfl] at H; exact H
        clear H
        have H := H1
        clear H1
        replace H := Option.bind_eq_some_iff.mp H
        obtain ⟨⟨t142, t143⟩, A880, H⟩ := H
        replace H : ((laws_markInt64S.f kj17 t121 t142).bind fun bt144 => (if bt144.1 < 0 then (laws_FnExactKeepSign.j1 kj17 l1 a2 a3 t112 t115 t127 true l0_0 t109 t124) else ((laws_eqSpace.f kj17 t124 t109).bind fun t146 => (if t146 = true then ((laws_eqInt64S.f kj17 t127 t112).bind fun t147 => (if t147 = true then (laws_FnExactKeepSign.j1 kj17 l1 a2 a3 t112 t115 t127 (t130 != t115) l0_0 t109 t124) else (laws_FnExactKeepSign.j1 kj17 l1 a2 a3 t112 t115 t127 true l0_0 t109 t124))) else (laws_FnExactKeepSign.j1 kj17 l1 a2 a3 t112 t115 t127 true l0_0 t109 t124))))) = some r := H
        have A88 := Aside0.mk A880
        clear A880
        replace H := Option.bind_eq_some_iff.mp H
        obtain ⟨⟨t144, t145⟩, A890, H⟩ := H
        replace H : (if t144 < 0 then (laws_FnExactKeepSign.j1 kj17 l1 a2 a3 t112 t115 t127 true l0_0 t109 t124) else ((laws_eqSpace.f kj17 t124 t109).bind fun t146 => (if t146 = true then ((laws_eqInt64S.f kj17 t127 t112).bind fun t147 => (if t147 = true then (laws_FnExactKeepSign.j1 kj17 l1 a2 a3 t112 t115 t127 (t130 != t115) l0_0 t109 t124) else (laws_FnExactKeepSign.j1 kj17 l1 a2 a3 t112 t115 t127 true l0_0 t109 t124))) else (laws_FnExactKeepSign.j1 kj17 l1 a2 a3 t112 t115 t127 true l0_0 t109 t124)))) = some r := H
        have A89 := Aside0.mk A890
        clear A890
        have HC90 := Aside0.mk H
        clear H
        try go_wp2
        replace HO_11 := Aside0.mk (Kd.R_drew HO_11.out)
        replace HO_14 := Aside0.mk (Kd.R_drew HO_14.out)
        replace HO_16 := Aside0.mk (Kd.R_drew HO_16.out)
        replace HO_117000 := Aside0.mk (Kd.R_drew HO_117000.out)
        replace HO_121000 := Aside0.mk (Kd.R_drew HO_121000.out)
        replace HO_132000 := Aside0.mk (Kd.R_drew HO_132000.out)
        replace BK101 := Aside0.mk (blk_drew BK101.out)
        replace BK116 := Aside0.mk (blk_drew BK116.out)
        replace BK120 := Aside0.mk (blk_drew BK120.out)
        replace BK131 := Aside0.mk (blk_drew BK131.out)
        replace HB := Aside0.mk (below_drew1 HB.out)
        refine start_ (n := 5) (S := fun w' => w'.cell? ⟨gb120, 0, none⟩ = some (.slice Ao35 t117.length co35) ∧ w'.cell? ⟨gb101, 0, none⟩ = some (.slice A0_0 l0_0.length c0_0)) (ds := []) #[false, false, false, false, false] (by kernel_rfl) rfl rfl ⟨(blk_cell BK120.out 0).trans rfl, (blk_cell BK101.out 0).trans rfl⟩ (fun hHeld => ?_)
        generalize wc.drew = w91 at HO_11 HO_14 HO_16 HO_117000 HO_121000 HO_132000 BK101 BK116 BK120 BK131 HB hHeld ⊢
        refine take_ (i := 0) (N := some 71) (v := ?_) (a' := ?_) #[true, false, false, false, false] rfl rfl (by kernel_rfl) (fun _ _ _ h => h) (Or.inl ⟨by rfl, ?_⟩) hHeld ?_ ?_
        rotate_left
        ·rintro w' ⟨s0, s1⟩
         go_simp
         with_reducible rfl
        rotate_left
        ·simp only [Act.put, List.setIfInBounds_toArray, List.set_cons_zero, List.set_cons_succ, i64_w, i32_w]
         rfl
        refine take_ (i := 1) (N := some 72) (v := ?_) (a' := ?_) #[true, true, false, false, false] rfl rfl (by kernel_rfl) (fun _ _ _ h => h) (Or.inl ⟨by rfl, ?_⟩) hHeld ?_ ?_
        rotate_left
        ·rintro w' ⟨s0, s1⟩
         go_simp
         with_reducible rfl
        rotate_left
        ·simp only [Act.put, List.setIfInBounds_toArray, List.set_cons_zero, List.set_cons_succ, i64_w, i32_w]
         rfl
        refine one_ (i := 2) (N := some 73) #[true, true, true, false, false] rfl rfl (by kernel_rfl) (by decide) (fun K hK => ?_)
        refine goes_ Try.func11 (by kernel_rfl) rfl #[.agg #[.slice A0_0 l0_0.length c0_0]] (by rfl) rfl rfl (by (try simp only [List.map_toArray, List.map_cons, List.map_nil]); first | done | rfl | (simp only [List.length_drop, List.length_take]; rfl)) ?_
        with_reducible refine (laws_toSpace.calls kj17 _ _ l0_0 t134 _ ?side1 ?side2 A82.out).mono ?_
        (case side1 => exact c2_ HR0_0 HB)
        (case side2 => exact HC0_0.out)
        rintro e w92 ⟨v135, rfl, ho0, hb⟩
        refine ⟨_, rfl, ?_⟩
        have HO136 := Aside0.mk (Kd.R_lower (Kd.R_new' (Kd.R_new' (Kd.R_new' (Kd.R_new' (Kd.R_new' (Kd.R_new' ho0 (Kd.R_lt (rb_ HO_11.out))) (Kd.R_lt (rb_ HO_14.out))) (Kd.R_lt (rb_ HO_16.out))) (Kd.R_lt (rb_ HO_117000.out))) (Kd.R_lt (rb_ HO_121000.out))) (Kd.R_lt (rb_ HO_132000.out))) (below_size (gb_ HB.out)))
        replace HO_11 := a5_ HO_11 ho0 hb
        replace HO_14 := a5_ HO_14 ho0 hb
        replace HO_16 := a5_ HO_16 ho0 hb
        replace HO_117000 := a5_ HO_117000 ho0 hb
        replace HO_121000 := a5_ HO_121000 ho0 hb
        replace HO_132000 := a5_ HO_132000 ho0 hb
        replace BK101 := a2_ BK101 hb
        replace BK116 := a2_ BK116 hb
        replace BK120 := a2_ BK120 hb
        replace BK131 := a2_ BK131 hb
        replace HB := Aside0.mk (below_step (gb_ HB.out) hb)
        (try clear hb)
        (try clear hb2)
        (try clear hk)
        (try clear hi)
        (try clear ho0)
        obtain ⟨Ao93, co93, eo93⟩ := Kd.R_slice HO136.out
        (first | subst eo93 | (injection eo93 with f1_ f2_ f3_; have f4_ := f1_.symm; have f5_ := f3_.symm; clear f1_ f2_ f3_; subst f4_; subst f5_))
        refine hK.out _ _ ⟨(blk_cell BK120.out 0).trans rfl, (blk_cell BK101.out 0).trans rfl⟩ (fun hHeld => ?_)
        clear hK K
        refine norm_ (a' := ?_) ?_ ?_
        rotate_left
        ·show Act.put _ (some 73) _ = _
         simp only [Act.put, List.setIfInBounds_toArray, List.set_cons_zero, List.set_cons_succ, i64_w, i32_w]
         rfl
        refine one_ (i := 3) (N := some 74) #[true, true, true, true, false] rfl rfl (by kernel_rfl) (by decide) (fun K hK => ?_)
        refine goes_ Try.func14 (by kernel_rfl) rfl #[.agg #[.slice Ao35 t117.length co35], .agg #[.slice Ao93 t134.length co93]] (by rfl) rfl rfl (by (try simp only [List.map_toArray, List.map_cons, List.map_nil]); first | done | rfl | (simp only [List.length_drop, List.length_take]; rfl)) ?_
        with_reducible refine (laws_eqSpace.calls kj17 _ _ t117 _ _ t134 true _ ?side1 ?side2 ?side3 ?side4 A83.out).mono ?_
        (case side1 => exact c1_ HO_121000)
        (case side2 => exact (Kd.R_reads' HO_121000.out).2.1)
        (case side3 => exact c1_ HO136)
        (case side4 => exact (Kd.R_reads' HO136.out).2.1)
        rintro e w94 ⟨rfl, hb⟩
        refine ⟨_, rfl, ?_⟩
        replace HO_11 := a1_ HO_11 hb
        replace HO_14 := a1_ HO_14 hb
        replace HO_16 := a1_ HO_16 hb
        replace HO_117000 := a1_ HO_117000 hb
        replace HO_121000 := a1_ HO_121000 hb
        replace HO_132000 := a1_ HO_132000 hb
        replace HO136 := a1_ HO136 hb
        replace BK101 := a2_ BK101 hb
        replace BK116 := a2_ BK116 hb
        replace BK120 := a2_ BK120 hb
        replace BK131 := a2_ BK131 hb
        replace HB := Aside0.mk (below_step (gb_ HB.out) hb)
        (try clear hb)
        (try clear hb2)
        (try clear hk)
        (try clear hi)
        refine hK.out _ _ ⟨(blk_cell BK120.out 0).trans rfl, (blk_cell BK101.out 0).trans rfl⟩ (fun hHeld => ?_)
        clear hK K
        refine norm_ (a' := ?_) ?_ ?_
        rotate_left
        ·show Act.put _ (some 74) _ = _
         simp only [Act.put, List.setIfInBounds_toArray, List.set_cons_zero, List.set_cons_succ, i64_w, i32_w]
         rfl
        refine pure_ (i := 4) (N := some 75) (v := ?_) (a' := ?_) #[true, true, true, true, true] rfl rfl (by kernel_rfl) (fun _ _ _ h => h) (Or.inl ⟨by rfl, ?_⟩) ?_ ?_
        rotate_left
        ·intro w'
         go_simp
         with_reducible rfl
        rotate_left
        ·simp only [Act.put, List.setIfInBounds_toArray, List.set_cons_zero, List.set_cons_succ, i64_w, i32_w]
         rfl
        refine done_ (by kernel_rfl) ?_
        go_upto_region 20 with (first | ((with_reducible refine gate_callee (f := 12) rfl ?_); refine goesL_ (some 78) rfl rfl Try.func12 (by kernel_rfl) rfl #[.slice A1 l1.length c1] rfl (by (try simp only [List.map_toArray, List.map_cons, List.map_nil]); first | done | rfl | (simp only [List.length_drop, List.length_take]; rfl)) ?_; (with_reducible refine (laws_toInt64S.calls kj17 _ _ l1 t138 _ ?side1 ?side2 A85.out).mono ?_); (case side1 => exact c2_ HR1 HB); (case side2 => exact HC1.out); rintro e w95 ⟨v139, rfl, ho0, hb⟩; refine ⟨_, rfl, ?_⟩; have HO140 := Aside0.mk (Kd.R_lower (Kd.R_new' (Kd.R_new' (Kd.R_new' (Kd.R_new' (Kd.R_new' (Kd.R_new' (Kd.R_new' ho0 (Kd.R_lt (rb_ HO_11.out))) (Kd.R_lt (rb_ HO_14.out))) (Kd.R_lt (rb_ HO_16.out))) (Kd.R_lt (rb_ HO_117000.out))) (Kd.R_lt (rb_ HO_121000.out))) (Kd.R_lt (rb_ HO_132000.out))) (Kd.R_lt (rb_ HO136.out))) (below_size (gb_ HB.out))); replace HO_11 := a5_ HO_11 ho0 hb; replace HO_14 := a5_ HO_14 ho0 hb; replace HO_16 := a5_ HO_16 ho0 hb; replace HO_117000 := a5_ HO_117000 ho0 hb; replace HO_121000 := a5_ HO_121000 ho0 hb; replace HO_132000 := a5_ HO_132000 ho0 hb; replace HO136 := a5_ HO136 ho0 hb; replace BK101 := a2_ BK101 hb; replace BK116 := a2_ BK116 hb; replace BK120 := a2_ BK120 hb; replace BK131 := a2_ BK131 hb; replace HB := Aside0.mk (below_step (gb_ HB.out) hb); (try clear hb); (try clear hb2); (try clear hk); (try clear hi); (try clear ho0); obtain ⟨Ao96, co96, eo96⟩ := Kd.R_slice HO140.out; subst eo96) | ((with_reducible refine gate_callee (f := 15) rfl ?_); refine goesL_ (some 79) rfl rfl Try.func15 (by kernel_rfl) rfl #[.slice Ao41 t121.length co41, .slice Ao96 t138.length co96] rfl (by (try simp only [List.map_toArray, List.map_cons, List.map_nil]); first | done | rfl | (simp only [List.length_drop, List.length_take]; rfl)) ?_; (with_reducible refine (laws_eqInt64S.calls kj17 _ _ t121 _ _ t138 true _ ?side1 ?side2 ?side3 ?side4 A86.out).mono ?_); (case side1 => exact c1_ HO_14); (case side2 => exact (Kd.R_reads' HO_14.out).2.1); (case side3 => exact c1_ HO140); (case side4 => exact (Kd.R_reads' HO140.out).2.1); rintro e w' ⟨rfl, ⟨nd, rfl⟩⟩; refine ⟨_, rfl, ?_⟩; have hnb97 := NB120_101.out; have hnc97 := NB101_120.out; have hnb98 := NB120_116.out; have hnc98 := NB116_120.out; have hnb99 := NB120_131.out; have hnc99 := NB131_120.out; have hcz100_0 : w95.cell? ⟨gb120, 0, none⟩ = some (.slice Ao35 t117.length co35) := (blk_cell BK120.out 0).trans rfl; have hfz100_0 := blk_frozen BK120.out 0) | ((with_reducible refine gate_callee (f := 16) rfl ?_); refine goesL_ (some 83) rfl rfl Try.func16 (by kernel_rfl) rfl #[.agg #[.slice Ao35 t117.length co35], .int .i64 1] rfl (by (try simp only [List.map_toArray, List.map_cons, List.map_nil]); first | done | rfl | (simp only [List.length_drop, List.length_take]; rfl)) ?_; (with_reducible refine (laws_markSpace.calls kj17 (fun k_ => some k_ = (.slice Ao35 t117.length co35 : Value).ownBlock) (.slice Ao35 t117.length co35) t117 1 t142 t143 w _ ?side1 ?side2 A88.out).mono ?_); (case side1 => exact gb_ HB.out); (case side2 => exact Kd.R_tight rfl HO_121000.out); rintro e w101 ⟨rfl, hy0, hb, hkp⟩; refine ⟨_, rfl, ?_⟩; replace HO_11 := Aside0.mk (Kd.R_mono (ok' := fun k_ => OB_ k_ (.slice Ao41 t121.length co41) ∧ OB_ k_ v128 ∧ OB_ k_ (.slice Ao29 t109.length co29) ∧ OB_ k_ (.slice Ao35 t117.length co35) ∧ OB_ k_ (.slice Ao44 t124.length co44) ∧ OB_ k_ (.slice Ao93 t134.length co93) ∧ OB_ k_ (.slice Ao96 t138.length co96)) (Kd.R_keptB (HO_11.out) hkp (fun k_ hk_ hs_ => (hk_.1.1.2.2.2.1) hs_)) (fun k_ hk_ => ⟨hk_.1.1.1.1, hk_.1.1.1.2.1, hk_.1.1.1.2.2.1, hk_.1.1.1.2.2.2.1, hk_.1.1.1.2.2.2.2, hk_.1.1.2, hk_.1.2⟩)); replace HO_14 := Aside0.mk (Kd.R_mono (ok' := fun k_ => OB_ k_ v113 ∧ OB_ k_ v128 ∧ OB_ k_ (.slice Ao29 t109.length co29) ∧ OB_ k_ (.slice Ao35 t117.length co35) ∧ OB_ k_ (.slice Ao44 t124.length co44) ∧ OB_ k_ (.slice Ao93 t134.length co93) ∧ OB_ k_ (.slice Ao96 t138.length co96)) (Kd.R_keptB (HO_14.out) hkp (fun k_ hk_ hs_ => (hk_.1.1.2.2.2.1) hs_)) (fun k_ hk_ => ⟨hk_.1.1.1.1, hk_.1.1.1.2.1, hk_.1.1.1.2.2.1, hk_.1.1.1.2.2.2.1, hk_.1.1.1.2.2.2.2, hk_.1.1.2, hk_.1.2⟩)); replace HO_16 := Aside0.mk (Kd.R_mono (ok' := fun k_ => OB_ k_ v113 ∧ OB_ k_ (.slice Ao41 t121.length co41) ∧ OB_ k_ (.slice Ao29 t109.length co29) ∧ OB_ k_ (.slice Ao35 t117.length co35) ∧ OB_ k_ (.slice Ao44 t124.length co44) ∧ OB_ k_ (.slice Ao93 t134.length co93) ∧ OB_ k_ (.slice Ao96 t138.length co96)) (Kd.R_keptB (HO_16.out) hkp (fun k_ hk_ hs_ => (hk_.1.1.2.2.2.1) hs_)) (fun k_ hk_ => ⟨hk_.1.1.1.1, hk_.1.1.1.2.1, hk_.1.1.1.2.2.1, hk_.1.1.1.2.2.2.1, hk_.1.1.1.2.2.2.2, hk_.1.1.2, hk_.1.2⟩)); replace HO_117000 := Aside0.mk (Kd.R_mono (ok' := fun k_ => OB_ k_ v113 ∧ OB_ k_ (.slice Ao41 t121.length co41) ∧ OB_ k_ v128 ∧ OB_ k_ (.slice Ao35 t117.length co35) ∧ OB_ k_ (.slice Ao44 t124.length co44) ∧ OB_ k_ (.slice Ao93 t134.length co93) ∧ OB_ k_ (.slice Ao96 t138.length co96)) (Kd.R_keptB (HO_117000.out) hkp (fun k_ hk_ hs_ => (hk_.1.1.2.2.2.1) hs_)) (fun k_ hk_ => ⟨hk_.1.1.1.1, hk_.1.1.1.2.1, hk_.1.1.1.2.2.1, hk_.1.1.1.2.2.2.1, hk_.1.1.1.2.2.2.2, hk_.1.1.2, hk_.1.2⟩)); replace HO_132000 := Aside0.mk (Kd.R_mono (ok' := fun k_ => OB_ k_ v113 ∧ OB_ k_ (.slice Ao41 t121.length co41) ∧ OB_ k_ v128 ∧ OB_ k_ (.slice Ao29 t109.length co29) ∧ OB_ k_ (.slice Ao35 t117.length co35) ∧ OB_ k_ (.slice Ao93 t134.length co93) ∧ OB_ k_ (.slice Ao96 t138.length co96)) (Kd.R_keptB (HO_132000.out) hkp (fun k_ hk_ hs_ => (hk_.1.1.2.2.2.2) hs_)) (fun k_ hk_ => ⟨hk_.1.1.1.1, hk_.1.1.1.2.1, hk_.1.1.1.2.2.1, hk_.1.1.1.2.2.2.1, hk_.1.1.1.2.2.2.2, hk_.1.1.2, hk_.1.2⟩)); replace BK101 := a7_ BK101 hkp HO_121000; replace BK116 := a7_ BK116 hkp HO_121000; replace BK120 := a7_ BK120 hkp HO_121000; replace BK131 := a7_ BK131 hkp HO_121000; replace HO_121000 := Aside0.mk (Kd.R_reok rfl hy0 (fun k_ e_ => HO_121000.out.1 k_ e_)); replace HO136 := Aside0.mk (Kd.R_mono (ok' := fun k_ => OB_ k_ v113 ∧ OB_ k_ (.slice Ao41 t121.length co41) ∧ OB_ k_ v128 ∧ OB_ k_ (.slice Ao29 t109.length co29) ∧ OB_ k_ (.slice Ao35 t117.length co35) ∧ OB_ k_ (.slice Ao44 t124.length co44) ∧ OB_ k_ (.slice Ao96 t138.length co96)) (Kd.R_keptB (HO136.out) hkp (fun k_ hk_ hs_ => (hk_.1.1.2) hs_)) (fun k_ hk_ => ⟨hk_.1.1.1.1.1.1.1.2, hk_.1.1.1.1.1.1.2, hk_.1.1.1.1.1.2, hk_.1.1.1.1.2, hk_.1.1.1.2, hk_.1.1.2, hk_.1.2⟩)); replace HO140 := Aside0.mk (Kd.R_mono (ok' := fun k_ => OB_ k_ v113 ∧ OB_ k_ (.slice Ao41 t121.length co41) ∧ OB_ k_ v128 ∧ OB_ k_ (.slice Ao29 t109.length co29) ∧ OB_ k_ (.slice Ao35 t117.length co35) ∧ OB_ k_ (.slice Ao44 t124.length co44) ∧ OB_ k_ (.slice Ao93 t134.length co93)) (Kd.R_keptB (HO140.out) hkp (fun k_ hk_ hs_ => (hk_.1.1.2) hs_)) (fun k_ hk_ => ⟨hk_.1.1.1.1.1.1.1.2, hk_.1.1.1.1.1.1.2, hk_.1.1.1.1.1.2, hk_.1.1.1.1.2, hk_.1.1.1.2, hk_.1.1.2, hk_.1.2⟩)); replace HB := Aside0.mk (hb); (try clear hb); (try clear hkp); (try clear hy0)) | ((with_reducible refine gate_callee (f := 17) rfl ?_); refine goesL_ (some 86) rfl rfl Try.func17 (by kernel_rfl) rfl #[.slice Ao41 t121.length co41, .int .i64 t142] rfl (by (try simp only [List.map_toArray, List.map_cons, List.map_nil]); first | done | rfl | (simp only [List.length_drop, List.length_take]; rfl)) ?_; (with_reducible refine (laws_markInt64S.calls kj17 (fun k_ => some k_ = (.slice Ao41 t121.length co41 : Value).ownBlock) (.slice Ao41 t121.length co41) t121 t142 t144 t145 w _ ?side1 ?side2 A89.out).mono ?_); (case side1 => exact gb_ HB.out); (case side2 => exact Kd.R_tight rfl HO_14.out); rintro e w102 ⟨rfl, hy0, hb, hkp⟩; refine ⟨_, rfl, ?_⟩; replace HO_11 := Aside0.mk (Kd.R_mono (ok' := fun k_ => OB_ k_ (.slice Ao41 t121.length co41) ∧ OB_ k_ v128 ∧ OB_ k_ (.slice Ao29 t109.length co29) ∧ OB_ k_ (.slice Ao35 t117.length co35) ∧ OB_ k_ (.slice Ao44 t124.length co44) ∧ OB_ k_ (.slice Ao93 t134.length co93) ∧ OB_ k_ (.slice Ao96 t138.length co96)) (Kd.R_keptB (HO_11.out) hkp (fun k_ hk_ hs_ => (hk_.1) hs_)) (fun k_ hk_ => ⟨hk_.1.1, hk_.1.2.1, hk_.1.2.2.1, hk_.1.2.2.2.1, hk_.1.2.2.2.2.1, hk_.1.2.2.2.2.2.1, hk_.1.2.2.2.2.2.2⟩)); replace HO_16 := Aside0.mk (Kd.R_mono (ok' := fun k_ => OB_ k_ v113 ∧ OB_ k_ (.slice Ao41 t121.length co41) ∧ OB_ k_ (.slice Ao29 t109.length co29) ∧ OB_ k_ (.slice Ao35 t117.length co35) ∧ OB_ k_ (.slice Ao44 t124.length co44) ∧ OB_ k_ (.slice Ao93 t134.length co93) ∧ OB_ k_ (.slice Ao96 t138.length co96)) (Kd.R_keptB (HO_16.out) hkp (fun k_ hk_ hs_ => (hk_.2.1) hs_)) (fun k_ hk_ => ⟨hk_.1.1, hk_.1.2.1, hk_.1.2.2.1, hk_.1.2.2.2.1, hk_.1.2.2.2.2.1, hk_.1.2.2.2.2.2.1, hk_.1.2.2.2.2.2.2⟩)); replace HO_117000 := Aside0.mk (Kd.R_mono (ok' := fun k_ => OB_ k_ v113 ∧ OB_ k_ (.slice Ao41 t121.length co41) ∧ OB_ k_ v128 ∧ OB_ k_ (.slice Ao35 t117.length co35) ∧ OB_ k_ (.slice Ao44 t124.length co44) ∧ OB_ k_ (.slice Ao93 t134.length co93) ∧ OB_ k_ (.slice Ao96 t138.length co96)) (Kd.R_keptB (HO_117000.out) hkp (fun k_ hk_ hs_ => (hk_.2.1) hs_)) (fun k_ hk_ => ⟨hk_.1.1, hk_.1.2.1, hk_.1.2.2.1, hk_.1.2.2.2.1, hk_.1.2.2.2.2.1, hk_.1.2.2.2.2.2.1, hk_.1.2.2.2.2.2.2⟩)); replace HO_121000 := Aside0.mk (Kd.R_mono (ok' := fun k_ => OB_ k_ v113 ∧ OB_ k_ (.slice Ao41 t121.length co41) ∧ OB_ k_ v128 ∧ OB_ k_ (.slice Ao29 t109.length co29) ∧ OB_ k_ (.slice Ao44 t124.length co44) ∧ OB_ k_ (.slice Ao93 t134.length co93) ∧ OB_ k_ (.slice Ao96 t138.length co96)) (Kd.R_keptB (HO_121000.out) hkp (fun k_ hk_ hs_ => (hk_.1.1.2.1) hs_)) (fun k_ hk_ => ⟨hk_.1.1.1.1, hk_.1.1.1.2.1, hk_.1.1.1.2.2.1, hk_.1.1.1.2.2.2.1, hk_.1.1.1.2.2.2.2, hk_.1.1.2, hk_.1.2⟩)); replace HO_132000 := Aside0.mk (Kd.R_mono (ok' := fun k_ => OB_ k_ v113 ∧ OB_ k_ (.slice Ao41 t121.length co41) ∧ OB_ k_ v128 ∧ OB_ k_ (.slice Ao29 t109.length co29) ∧ OB_ k_ (.slice Ao35 t117.length co35) ∧ OB_ k_ (.slice Ao93 t134.length co93) ∧ OB_ k_ (.slice Ao96 t138.length co96)) (Kd.R_keptB (HO_132000.out) hkp (fun k_ hk_ hs_ => (hk_.2.1) hs_)) (fun k_ hk_ => ⟨hk_.1.1, hk_.1.2.1, hk_.1.2.2.1, hk_.1.2.2.2.1, hk_.1.2.2.2.2.1, hk_.1.2.2.2.2.2.1, hk_.1.2.2.2.2.2.2⟩)); replace BK101 := a7_ BK101 hkp HO_14; replace BK116 := a7_ BK116 hkp HO_14; replace BK120 := a7_ BK120 hkp HO_14; replace BK131 := a7_ BK131 hkp HO_14; replace HO_14 := Aside0.mk (Kd.R_reok rfl hy0 (fun k_ e_ => HO_14.out.1 k_ e_)); replace HO136 := Aside0.mk (Kd.R_mono (ok' := fun k_ => OB_ k_ v113 ∧ OB_ k_ (.slice Ao41 t121.length co41) ∧ OB_ k_ v128 ∧ OB_ k_ (.slice Ao29 t109.length co29) ∧ OB_ k_ (.slice Ao35 t117.length co35) ∧ OB_ k_ (.slice Ao44 t124.length co44) ∧ OB_ k_ (.slice Ao96 t138.length co96)) (Kd.R_keptB (HO136.out) hkp (fun k_ hk_ hs_ => (hk_.2.1) hs_)) (fun k_ hk_ => ⟨hk_.1.1, hk_.1.2.1, hk_.1.2.2.1, hk_.1.2.2.2.1, hk_.1.2.2.2.2.1, hk_.1.2.2.2.2.2.1, hk_.1.2.2.2.2.2.2⟩)); replace HO140 := Aside0.mk (Kd.R_mono (ok' := fun k_ => OB_ k_ v113 ∧ OB_ k_ (.slice Ao41 t121.length co41) ∧ OB_ k_ v128 ∧ OB_ k_ (.slice Ao29 t109.length co29) ∧ OB_ k_ (.slice Ao35 t117.length co35) ∧ OB_ k_ (.slice Ao44 t124.length co44) ∧ OB_ k_ (.slice Ao93 t134.length co93)) (Kd.R_keptB (HO140.out) hkp (fun k_ hk_ hs_ => (hk_.2.1) hs_)) (fun k_ hk_ => ⟨hk_.1.1, hk_.1.2.1, hk_.1.2.2.1, hk_.1.2.2.2.1, hk_.1.2.2.2.2.1, hk_.1.2.2.2.2.2.1, hk_.1.2.2.2.2.2.2⟩)); replace HB := Aside0.mk (hb); (try clear hb); (try clear hkp); (try clear hy0)))
        (try simp only [Act.put, List.setIfInBounds_toArray, List.set_cons_zero, List.set_cons_succ])
        go_cut [105] (fun v105 wc => ∃ (kq : Nat) (x105_89 : Bool), v105 = .bool x105_89 ∧ Aside0 (laws_FnExactKeepSign.j1 kq l1 a2 a3 t112 t115 t127 x105_89 l0_0 t109 t124 = some r) ∧ Aside0 (kq ≤ kj17) ∧ Aside0 (Kd.R (Kd.int .i64) 2 wc w.heap.size (fun k_ => OB_ k_ v128 ∧ OB_ k_ (.slice Ao29 t109.length co29) ∧ OB_ k_ (.slice Ao35 t117.length co35) ∧ OB_ k_ (.slice Ao44 t124.length co44)) v113 t112) ∧ Aside0 (Kd.R (Kd.int .i64) 2 wc w.heap.size (fun k_ => OB_ k_ v113 ∧ OB_ k_ (.slice Ao29 t109.length co29) ∧ OB_ k_ (.slice Ao35 t117.length co35) ∧ OB_ k_ (.slice Ao44 t124.length co44)) v128 t127) ∧ Aside0 (Kd.R (Kd.int .i64) 2 wc w.heap.size (fun k_ => OB_ k_ v113 ∧ OB_ k_ v128 ∧ OB_ k_ (.slice Ao35 t117.length co35) ∧ OB_ k_ (.slice Ao44 t124.length co44)) (.slice Ao29 t109.length co29) t109) ∧ Aside0 (Kd.R (Kd.int .i64) 2 wc w.heap.size (fun k_ => OB_ k_ v113 ∧ OB_ k_ v128 ∧ OB_ k_ (.slice Ao29 t109.length co29) ∧ OB_ k_ (.slice Ao44 t124.length co44)) (.slice Ao35 t117.length co35) t143) ∧ Aside0 (Kd.R (Kd.int .i64) 2 wc w.heap.size (fun k_ => OB_ k_ v113 ∧ OB_ k_ v128 ∧ OB_ k_ (.slice Ao29 t109.length co29) ∧ OB_ k_ (.slice Ao35 t117.length co35)) (.slice Ao44 t124.length co44) t124) ∧ Aside0 (wc.heap[gb101]? = some (.cells #[(.slice A0_0 l0_0.length c0_0)] 24 (0, 0))) ∧ Aside0 (wc.heap[gb116]? = some (.cells #[(.slice Ao29 t109.length co29)] 26 (0, 0))) ∧ Aside0 (wc.heap[gb120]? = some (.cells #[(.slice Ao35 t117.length co35)] 26 (0, 0))) ∧ Aside0 (wc.heap[gb131]? = some (.cells #[(.slice Ao44 t124.length co44)] 26 (0, 0))) ∧ Aside0 (Below w.heap.size w wc))
        case first =>
         have H := HC90.out
         clear HC90
         by_cases c103 : t144 < 0
         ·rw [if_pos c103] at H
          have c103b0 : decide (t144 < 0) = true := decide_eq_true c103
          clear c103
          (first | rw [c103b0] | (simp only [i64_w, i32_w]; rw [c103b0]) | skip)
          have H' := Aside0.mk H
          clear H
          go_wp2
          go_meet
          case rel => exact ⟨_, (true), (by first | rfl | (simp; done) | (simp [*]; done)), H', ⟨by have := HJ17.out; first | omega | exact Nat.le_refl _⟩, ⟨by (with_reducible repeat (first | apply Kd.R_alloc | apply Kd.R_drewN | apply Kd.R_drew)); exact Kd.R_mono HO_11.out (fun _ hk => by grind)⟩, ⟨by (with_reducible repeat (first | apply Kd.R_alloc | apply Kd.R_drewN | apply Kd.R_drew)); exact Kd.R_mono HO_16.out (fun _ hk => by grind)⟩, ⟨by (with_reducible repeat (first | apply Kd.R_alloc | apply Kd.R_drewN | apply Kd.R_drew)); exact Kd.R_mono HO_117000.out (fun _ hk => by grind)⟩, ⟨by (with_reducible repeat (first | apply Kd.R_alloc | apply Kd.R_drewN | apply Kd.R_drew)); exact Kd.R_mono HO_121000.out (fun _ hk => by grind)⟩, ⟨by (with_reducible repeat (first | apply Kd.R_alloc | apply Kd.R_drewN | apply Kd.R_drew)); exact Kd.R_mono HO_132000.out (fun _ hk => by grind)⟩, ⟨by (with_reducible repeat (first | refine blk_drewN ?_ _ | refine blk_drew ?_ | refine blk_alloc ?_ _)); exact BK101.out⟩, ⟨by (with_reducible repeat (first | refine blk_drewN ?_ _ | refine blk_drew ?_ | refine blk_alloc ?_ _)); exact BK116.out⟩, ⟨by (with_reducible repeat (first | refine blk_drewN ?_ _ | refine blk_drew ?_ | refine blk_alloc ?_ _)); exact BK120.out⟩, ⟨by (with_reducible repeat (first | refine blk_drewN ?_ _ | refine blk_drew ?_ | refine blk_alloc ?_ _)); exact BK131.out⟩, ⟨gb_ HB.out⟩⟩
         ·rw [if_neg c103] at H
          have c103b0 : decide (t144 < 0) = false := decide_eq_false c103
          clear c103
          (first | rw [c103b0] | (simp only [i64_w, i32_w]; rw [c103b0]) | skip)
          replace H := Option.bind_eq_some_iff.mp H
          obtain ⟨t146, A1040, H⟩ := H
          replace H : (if t146 = true then ((laws_eqInt64S.f kj17 t127 t112).bind fun t147 => (if t147 = true then (laws_FnExactKeepSign.j1 kj17 l1 a2 a3 t112 t115 t127 (t130 != t115) l0_0 t109 t124) else (laws_FnExactKeepSign.j1 kj17 l1 a2 a3 t112 t115 t127 true l0_0 t109 t124))) else (laws_FnExactKeepSign.j1 kj17 l1 a2 a3 t112 t115 t127 true l0_0 t109 t124)) = some r := H
          have A104 := Aside0.mk A1040
          clear A1040
          by_cases c105 : t146 = true
          ·subst c105
           have H1 : ((laws_eqInt64S.f kj17 t127 t112).bind fun t147 => (if t147 = true then (laws_FnExactKeepSign.j1 kj17 l1 a2 a3 t112 t115 t127 (t130 != t115) l0_0 t109 t124) else (laws_FnExactKeepSign.j1 kj17 l1 a2 a3 t112 t115 t127 true l0_0 t109 t124))) = some r := by rw [if_pos rfl] at H; exact H
           clear H
           have H := H1
           clear H1
           replace H := Option.bind_eq_some_iff.mp H
           obtain ⟨t147, A1060, H⟩ := H
           replace H : (if t147 = true then (laws_FnExactKeepSign.j1 kj17 l1 a2 a3 t112 t115 t127 (t130 != t115) l0_0 t109 t124) else (laws_FnExactKeepSign.j1 kj17 l1 a2 a3 t112 t115 t127 true l0_0 t109 t124)) = some r := H
           have A106 := Aside0.mk A1060
           clear A1060
           by_cases c107 : t147 = true
           ·subst c107
            have H1 : (laws_FnExactKeepSign.j1 kj17 l1 a2 a3 t112 t115 t127 (t130 != t115) l0_0 t109 t124) = some r := by rw [if_pos rfl] at H; exact H
            clear H
            have H := H1
            clear H1
            have H' := Aside0.mk H
            clear H
            have hnb108 := NB131_101.out
            have hnc108 := NB101_131.out
            have hnb109 := NB131_116.out
            have hnc109 := NB116_131.out
            have hnb110 := NB131_120.out
            have hnc110 := NB120_131.out
            have hcz111_0 : w102.cell? ⟨gb131, 0, none⟩ = some (.slice Ao44 t124.length co44) := (blk_cell BK131.out 0).trans rfl
            have hfz111_0 := blk_frozen BK131.out 0
            have hnb112 := NB116_101.out
            have hnc112 := NB101_116.out
            have hnb113 := NB116_120.out
            have hnc113 := NB120_116.out
            have hcz114_0 : w102.cell? ⟨gb116, 0, none⟩ = some (.slice Ao29 t109.length co29) := (blk_cell BK116.out 0).trans rfl
            have hfz114_0 := blk_frozen BK116.out 0
            go_wp2_with (first | (go_at_call 14; (with_reducible refine (laws_eqSpace.calls kj17 _ _ t124 _ _ t109 true _ ?side1 ?side2 ?side3 ?side4 A104.out).mono ?_); (case side1 => exact c1_ HO_132000); (case side2 => exact (Kd.R_reads' HO_132000.out).2.1); (case side3 => exact c1_ HO_117000); (case side4 => exact (Kd.R_reads' HO_117000.out).2.1); rintro e w115 ⟨rfl, hb⟩; replace HO_11 := a1_ HO_11 hb; replace HO_14 := a1_ HO_14 hb; replace HO_16 := a1_ HO_16 hb; replace HO_117000 := a1_ HO_117000 hb; replace HO_121000 := a1_ HO_121000 hb; replace HO_132000 := a1_ HO_132000 hb; replace HO136 := a1_ HO136 hb; replace HO140 := a1_ HO140 hb; replace BK101 := a2_ BK101 hb; replace BK116 := a2_ BK116 hb; replace BK120 := a2_ BK120 hb; replace BK131 := a2_ BK131 hb; replace HB := Aside0.mk (below_step (gb_ HB.out) hb); (try clear hb); (try clear hb2); (try clear hk); (try clear hi); obtain ⟨Ao116, co116, eo116⟩ := Kd.R_slice HO_16.out; subst eo116; obtain ⟨Ao117, co117, eo117⟩ := Kd.R_slice HO_11.out; subst eo117) | (go_at_call 15; (with_reducible refine (laws_eqInt64S.calls kj17 _ _ t127 _ _ t112 true _ ?side1 ?side2 ?side3 ?side4 A106.out).mono ?_); (case side1 => exact c1_ HO_16); (case side2 => exact (Kd.R_reads' HO_16.out).2.1); (case side3 => exact c1_ HO_11); (case side4 => exact (Kd.R_reads' HO_11.out).2.1); rintro e w' ⟨rfl, ⟨nd, rfl⟩⟩))
            go_meet
            case rel => exact ⟨_, ((t130 != t115)), (by first | rfl | (simp; done) | (simp [*]; done)), H', ⟨by have := HJ17.out; first | omega | exact Nat.le_refl _⟩, ⟨by (with_reducible repeat (first | apply Kd.R_alloc | apply Kd.R_drewN | apply Kd.R_drew)); exact Kd.R_mono HO_11.out (fun _ hk => by grind)⟩, ⟨by (with_reducible repeat (first | apply Kd.R_alloc | apply Kd.R_drewN | apply Kd.R_drew)); exact Kd.R_mono HO_16.out (fun _ hk => by grind)⟩, ⟨by (with_reducible repeat (first | apply Kd.R_alloc | apply Kd.R_drewN | apply Kd.R_drew)); exact Kd.R_mono HO_117000.out (fun _ hk => by grind)⟩, ⟨by (with_reducible repeat (first | apply Kd.R_alloc | apply Kd.R_drewN | apply Kd.R_drew)); exact Kd.R_mono HO_121000.out (fun _ hk => by grind)⟩, ⟨by (with_reducible repeat (first | apply Kd.R_alloc | apply Kd.R_drewN | apply Kd.R_drew)); exact Kd.R_mono HO_132000.out (fun _ hk => by grind)⟩, ⟨by (with_reducible repeat (first | refine blk_drewN ?_ _ | refine blk_drew ?_ | refine blk_alloc ?_ _)); exact BK101.out⟩, ⟨by (with_reducible repeat (first | refine blk_drewN ?_ _ | refine blk_drew ?_ | refine blk_alloc ?_ _)); exact BK116.out⟩, ⟨by (with_reducible repeat (first | refine blk_drewN ?_ _ | refine blk_drew ?_ | refine blk_alloc ?_ _)); exact BK120.out⟩, ⟨by (with_reducible repeat (first | refine blk_drewN ?_ _ | refine blk_drew ?_ | refine blk_alloc ?_ _)); exact BK131.out⟩, ⟨gb_ HB.out⟩⟩
           ·replace c107 := Bool.eq_false_iff.mpr c107
            subst c107
            have H1 : (laws_FnExactKeepSign.j1 kj17 l1 a2 a3 t112 t115 t127 true l0_0 t109 t124) = some r := by rw [if_neg (show ¬ (false = true) by decide)] at H; exact H
            clear H
            have H := H1
            clear H1
            have H' := Aside0.mk H
            clear H
            have hnb118 := NB131_101.out
            have hnc118 := NB101_131.out
            have hnb119 := NB131_116.out
            have hnc119 := NB116_131.out
            have hnb120 := NB131_120.out
            have hnc120 := NB120_131.out
            have hcz121_0 : w102.cell? ⟨gb131, 0, none⟩ = some (.slice Ao44 t124.length co44) := (blk_cell BK131.out 0).trans rfl
            have hfz121_0 := blk_frozen BK131.out 0
            have hnb122 := NB116_101.out
            have hnc122 := NB101_116.out
            have hnb123 := NB116_120.out
            have hnc123 := NB120_116.out
            have hcz124_0 : w102.cell? ⟨gb116, 0, none⟩ = some (.slice Ao29 t109.length co29) := (blk_cell BK116.out 0).trans rfl
            have hfz124_0 := blk_frozen BK116.out 0
            go_wp2_with (first | (go_at_call 14; (with_reducible refine (laws_eqSpace.calls kj17 _ _ t124 _ _ t109 true _ ?side1 ?side2 ?side3 ?side4 A104.out).mono ?_); (case side1 => exact c1_ HO_132000); (case side2 => exact (Kd.R_reads' HO_132000.out).2.1); (case side3 => exact c1_ HO_117000); (case side4 => exact (Kd.R_reads' HO_117000.out).2.1); rintro e w125 ⟨rfl, hb⟩; replace HO_11 := a1_ HO_11 hb; replace HO_14 := a1_ HO_14 hb; replace HO_16 := a1_ HO_16 hb; replace HO_117000 := a1_ HO_117000 hb; replace HO_121000 := a1_ HO_121000 hb; replace HO_132000 := a1_ HO_132000 hb; replace HO136 := a1_ HO136 hb; replace HO140 := a1_ HO140 hb; replace BK101 := a2_ BK101 hb; replace BK116 := a2_ BK116 hb; replace BK120 := a2_ BK120 hb; replace BK131 := a2_ BK131 hb; replace HB := Aside0.mk (below_step (gb_ HB.out) hb); (try clear hb); (try clear hb2); (try clear hk); (try clear hi); obtain ⟨Ao126, co126, eo126⟩ := Kd.R_slice HO_16.out; subst eo126; obtain ⟨Ao127, co127, eo127⟩ := Kd.R_slice HO_11.out; subst eo127) | (go_at_call 15; (with_reducible refine (laws_eqInt64S.calls kj17 _ _ t127 _ _ t112 false _ ?side1 ?side2 ?side3 ?side4 A106.out).mono ?_); (case side1 => exact c1_ HO_16); (case side2 => exact (Kd.R_reads' HO_16.out).2.1); (case side3 => exact c1_ HO_11); (case side4 => exact (Kd.R_reads' HO_11.out).2.1); rintro e w' ⟨rfl, ⟨nd, rfl⟩⟩))
            go_meet
            case rel => exact ⟨_, (true), (by first | rfl | (simp; done) | (simp [*]; done)), H', ⟨by have := HJ17.out; first | omega | exact Nat.le_refl _⟩, ⟨by (with_reducible repeat (first | apply Kd.R_alloc | apply Kd.R_drewN | apply Kd.R_drew)); exact Kd.R_mono HO_11.out (fun _ hk => by grind)⟩, ⟨by (with_reducible repeat (first | apply Kd.R_alloc | apply Kd.R_drewN | apply Kd.R_drew)); exact Kd.R_mono HO_16.out (fun _ hk => by grind)⟩, ⟨by (with_reducible repeat (first | apply Kd.R_alloc | apply Kd.R_drewN | apply Kd.R_drew)); exact Kd.R_mono HO_117000.out (fun _ hk => by grind)⟩, ⟨by (with_reducible repeat (first | apply Kd.R_alloc | apply Kd.R_drewN | apply Kd.R_drew)); exact Kd.R_mono HO_121000.out (fun _ hk => by grind)⟩, ⟨by (with_reducible repeat (first | apply Kd.R_alloc | apply Kd.R_drewN | apply Kd.R_drew)); exact Kd.R_mono HO_132000.out (fun _ hk => by grind)⟩, ⟨by (with_reducible repeat (first | refine blk_drewN ?_ _ | refine blk_drew ?_ | refine blk_alloc ?_ _)); exact BK101.out⟩, ⟨by (with_reducible repeat (first | refine blk_drewN ?_ _ | refine blk_drew ?_ | refine blk_alloc ?_ _)); exact BK116.out⟩, ⟨by (with_reducible repeat (first | refine blk_drewN ?_ _ | refine blk_drew ?_ | refine blk_alloc ?_ _)); exact BK120.out⟩, ⟨by (with_reducible repeat (first | refine blk_drewN ?_ _ | refine blk_drew ?_ | refine blk_alloc ?_ _)); exact BK131.out⟩, ⟨gb_ HB.out⟩⟩
          ·replace c105 := Bool.eq_false_iff.mpr c105
           subst c105
           have H1 : (laws_FnExactKeepSign.j1 kj17 l1 a2 a3 t112 t115 t127 true l0_0 t109 t124) = some r := by rw [if_neg (show ¬ (false = true) by decide)] at H; exact H
           clear H
           have H := H1
           clear H1
           have H' := Aside0.mk H
           clear H
           have hnb128 := NB131_101.out
           have hnc128 := NB101_131.out
           have hnb129 := NB131_116.out
           have hnc129 := NB116_131.out
           have hnb130 := NB131_120.out
           have hnc130 := NB120_131.out
           have hcz131_0 : w102.cell? ⟨gb131, 0, none⟩ = some (.slice Ao44 t124.length co44) := (blk_cell BK131.out 0).trans rfl
           have hfz131_0 := blk_frozen BK131.out 0
           have hnb132 := NB116_101.out
           have hnc132 := NB101_116.out
           have hnb133 := NB116_120.out
           have hnc133 := NB120_116.out
           have hcz134_0 : w102.cell? ⟨gb116, 0, none⟩ = some (.slice Ao29 t109.length co29) := (blk_cell BK116.out 0).trans rfl
           have hfz134_0 := blk_frozen BK116.out 0
           go_wp2_with (first | (go_at_call 14; (with_reducible refine (laws_eqSpace.calls kj17 _ _ t124 _ _ t109 false _ ?side1 ?side2 ?side3 ?side4 A104.out).mono ?_); (case side1 => exact c1_ HO_132000); (case side2 => exact (Kd.R_reads' HO_132000.out).2.1); (case side3 => exact c1_ HO_117000); (case side4 => exact (Kd.R_reads' HO_117000.out).2.1); rintro e w135 ⟨rfl, hb⟩; replace HO_11 := a1_ HO_11 hb; replace HO_14 := a1_ HO_14 hb; replace HO_16 := a1_ HO_16 hb; replace HO_117000 := a1_ HO_117000 hb; replace HO_121000 := a1_ HO_121000 hb; replace HO_132000 := a1_ HO_132000 hb; replace HO136 := a1_ HO136 hb; replace HO140 := a1_ HO140 hb; replace BK101 := a2_ BK101 hb; replace BK116 := a2_ BK116 hb; replace BK120 := a2_ BK120 hb; replace BK131 := a2_ BK131 hb; replace HB := Aside0.mk (below_step (gb_ HB.out) hb); (try clear hb); (try clear hb2); (try clear hk); (try clear hi)))
           go_meet
           case rel => exact ⟨_, (true), (by first | rfl | (simp; done) | (simp [*]; done)), H', ⟨by have := HJ17.out; first | omega | exact Nat.le_refl _⟩, ⟨by (with_reducible repeat (first | apply Kd.R_alloc | apply Kd.R_drewN | apply Kd.R_drew)); exact Kd.R_mono HO_11.out (fun _ hk => by grind)⟩, ⟨by (with_reducible repeat (first | apply Kd.R_alloc | apply Kd.R_drewN | apply Kd.R_drew)); exact Kd.R_mono HO_16.out (fun _ hk => by grind)⟩, ⟨by (with_reducible repeat (first | apply Kd.R_alloc | apply Kd.R_drewN | apply Kd.R_drew)); exact Kd.R_mono HO_117000.out (fun _ hk => by grind)⟩, ⟨by (with_reducible repeat (first | apply Kd.R_alloc | apply Kd.R_drewN | apply Kd.R_drew)); exact Kd.R_mono HO_121000.out (fun _ hk => by grind)⟩, ⟨by (with_reducible repeat (first | apply Kd.R_alloc | apply Kd.R_drewN | apply Kd.R_drew)); exact Kd.R_mono HO_132000.out (fun _ hk => by grind)⟩, ⟨by (with_reducible repeat (first | refine blk_drewN ?_ _ | refine blk_drew ?_ | refine blk_alloc ?_ _)); exact BK101.out⟩, ⟨by (with_reducible repeat (first | refine blk_drewN ?_ _ | refine blk_drew ?_ | refine blk_alloc ?_ _)); exact BK116.out⟩, ⟨by (with_reducible repeat (first | refine blk_drewN ?_ _ | refine blk_drew ?_ | refine blk_alloc ?_ _)); exact BK120.out⟩, ⟨by (with_reducible repeat (first | refine blk_drewN ?_ _ | refine blk_drew ?_ | refine blk_alloc ?_ _)); exact BK131.out⟩, ⟨gb_ HB.out⟩⟩
        case rest =>
         clear HC90
         try clear c1
         try clear c2
         try clear p2
         try clear c3
         try clear c4
         try clear c5
         try clear c5b0
         try clear c5b1
         try clear c6
         try clear c7
         try clear c8
         try clear c8b0
         try clear c9
         try clear c10
         try clear c11
         try clear c12
         try clear c13
         try clear c14
         try clear c15
         try clear c16
         try clear c17
         try clear c28
         try clear c29
         try clear c30
         try clear c36
         try clear c37
         try clear c45
         try clear c46
         try clear c47
         try clear c50
         try clear c52
         try clear c53
         try clear c54
         try clear c55
         try clear c57
         try clear c58
         try clear c63
         try clear c64
         try clear c65
         try clear c67
         try clear c68
         try clear c73
         try clear c74
         try clear c75
         try clear c77
         try clear c78
         try clear c81
         try clear c84
         try clear c87
         try clear c97
         try clear c98
         try clear c99
         try clear c103
         try clear c103b0
         try clear c105
         try clear c107
         try clear c108
         try clear c109
         try clear c110
         try clear c112
         try clear c113
         try clear c118
         try clear c119
         try clear c120
         try clear c122
         try clear c123
         try clear c128
         try clear c129
         try clear c130
         try clear c132
         try clear c133
         try clear hcz100_0
         try clear hcz10_0
         try clear hcz111_0
         try clear hcz114_0
         try clear hcz121_0
         try clear hcz124_0
         try clear hcz131_0
         try clear hcz134_0
         try clear hcz20_0
         try clear hcz22_0
         try clear hcz31_0
         try clear hcz32_0
         try clear hcz38_0
         try clear hcz40_0
         try clear hcz48_0
         try clear hcz56_0
         try clear hcz59_0
         try clear hcz66_0
         try clear hcz69_0
         try clear hcz76_0
         try clear hcz79_0
         try clear hfz100_0
         try clear hfz10_0
         try clear hfz111_0
         try clear hfz114_0
         try clear hfz121_0
         try clear hfz124_0
         try clear hfz131_0
         try clear hfz134_0
         try clear hfz20_0
         try clear hfz22_0
         try clear hfz31_0
         try clear hfz32_0
         try clear hfz38_0
         try clear hfz40_0
         try clear hfz48_0
         try clear hfz56_0
         try clear hfz59_0
         try clear hfz66_0
         try clear hfz69_0
         try clear hfz76_0
         try clear hfz79_0
         try clear p2
         obtain ⟨kq, x105_89, rfl, HA, HJ89, HO_11, HO_16, HO_117000, HO_121000, HO_132000, BK101, BK116, BK120, BK131, HB⟩ := hcut
         have hl121000_89 := (Kd.R_reads' HO_121000.out).1
         rw [hl121000_89] at HO_121000
         (try simp only [hl121000_89])
         (try simp only [hl121000_89] at BK101)
         (try simp only [hl121000_89] at BK116)
         (try simp only [hl121000_89] at BK120)
         (try simp only [hl121000_89] at BK131)
         (try simp only [hl121000_89] at HO_11)
         (try simp only [hl121000_89] at HO_16)
         (try simp only [hl121000_89] at HO_117000)
         (try simp only [hl121000_89] at HO_132000)
         cases kq with
         | zero => exact absurd HA.out (by simp [laws_FnExactKeepSign.j1])
         | succ kj89 =>
          have H := HA.out
          clear HA
          simp only [laws_FnExactKeepSign.j1] at H
          by_cases c136 : x105_89 = true
          ·subst c136
           have H1 : (some false) = some r := by rw [if_pos rfl] at H; exact H
           clear H
           have H := H1
           clear H1
           obtain rfl := Option.some.inj H
           go_wp2
           go_ret
           exact ⟨by first | rfl | (simp [errW_none, errW_some] <;> rfl) | (simp [*, errW_none, errW_some] <;> rfl), gb_ HB.out⟩
          ·replace c136 := Bool.eq_false_iff.mpr c136
           subst c136
           have H1 : ((laws_markSpace.f kj89 t124 1).bind fun bt148 => ((laws_markInt64S.f kj89 t127 bt148.1).bind fun bt150 => ((laws_heldSpace.f kj89 bt148.2 1).bind fun t152 => (if t152 < 0 then (some false) else ((laws_heldInt64S.f kj89 bt150.2 t152).bind fun t153 => (if t153 < 0 then (some false) else (if t153 = bt150.1 then ((laws_toSpace.f kj89 l0_0).bind fun t154 => ((laws_toInt64S.f kj89 l1).bind fun t157 => ((impl_KeepSign.f t154 t157 a2 a3).bind fun bt160 => ((laws_eqSpace.f kj89 bt160.1 t109).bind fun t168 => (if t168 = true then ((laws_eqInt64S.f kj89 bt160.2.1 t112).bind fun t169 => (if t169 = true then (laws_FnExactKeepSign.j2 kj89 bt150.2 bt150.1 (bt160.2.2 != t115) bt148.2) else (laws_FnExactKeepSign.j2 kj89 bt150.2 bt150.1 true bt148.2))) else (laws_FnExactKeepSign.j2 kj89 bt150.2 bt150.1 true bt148.2)))))) else (some false)))))))) = some r := by rw [if_neg (show ¬ (false = true) by decide)] at H; exact H
           clear H
           have H := H1
           clear H1
           replace H := Option.bind_eq_some_iff.mp H
           obtain ⟨⟨t148, t149⟩, A1370, H⟩ := H
           replace H : ((laws_markInt64S.f kj89 t127 t148).bind fun bt150 => ((laws_heldSpace.f kj89 t149 1).bind fun t152 => (if t152 < 0 then (some false) else ((laws_heldInt64S.f kj89 bt150.2 t152).bind fun t153 => (if t153 < 0 then (some false) else (if t153 = bt150.1 then ((laws_toSpace.f kj89 l0_0).bind fun t154 => ((laws_toInt64S.f kj89 l1).bind fun t157 => ((impl_KeepSign.f t154 t157 a2 a3).bind fun bt160 => ((laws_eqSpace.f kj89 bt160.1 t109).bind fun t168 => (if t168 = true then ((laws_eqInt64S.f kj89 bt160.2.1 t112).bind fun t169 => (if t169 = true then (laws_FnExactKeepSign.j2 kj89 bt150.2 bt150.1 (bt160.2.2 != t115) t149) else (laws_FnExactKeepSign.j2 kj89 bt150.2 bt150.1 true t149))) else (laws_FnExactKeepSign.j2 kj89 bt150.2 bt150.1 true t149)))))) else (some false))))))) = some r := H
           have A137 := Aside0.mk A1370
           clear A1370
           replace H := Option.bind_eq_some_iff.mp H
           obtain ⟨⟨t150, t151⟩, A1380, H⟩ := H
           replace H : ((laws_heldSpace.f kj89 t149 1).bind fun t152 => (if t152 < 0 then (some false) else ((laws_heldInt64S.f kj89 t151 t152).bind fun t153 => (if t153 < 0 then (some false) else (if t153 = t150 then ((laws_toSpace.f kj89 l0_0).bind fun t154 => ((laws_toInt64S.f kj89 l1).bind fun t157 => ((impl_KeepSign.f t154 t157 a2 a3).bind fun bt160 => ((laws_eqSpace.f kj89 bt160.1 t109).bind fun t168 => (if t168 = true then ((laws_eqInt64S.f kj89 bt160.2.1 t112).bind fun t169 => (if t169 = true then (laws_FnExactKeepSign.j2 kj89 t151 t150 (bt160.2.2 != t115) t149) else (laws_FnExactKeepSign.j2 kj89 t151 t150 true t149))) else (laws_FnExactKeepSign.j2 kj89 t151 t150 true t149)))))) else (some false)))))) = some r := H
           have A138 := Aside0.mk A1380
           clear A1380
           replace H := Option.bind_eq_some_iff.mp H
           obtain ⟨t152, A1390, H⟩ := H
           replace H : (if t152 < 0 then (some false) else ((laws_heldInt64S.f kj89 t151 t152).bind fun t153 => (if t153 < 0 then (some false) else (if t153 = t150 then ((laws_toSpace.f kj89 l0_0).bind fun t154 => ((laws_toInt64S.f kj89 l1).bind fun t157 => ((impl_KeepSign.f t154 t157 a2 a3).bind fun bt160 => ((laws_eqSpace.f kj89 bt160.1 t109).bind fun t168 => (if t168 = true then ((laws_eqInt64S.f kj89 bt160.2.1 t112).bind fun t169 => (if t169 = true then (laws_FnExactKeepSign.j2 kj89 t151 t150 (bt160.2.2 != t115) t149) else (laws_FnExactKeepSign.j2 kj89 t151 t150 true t149))) else (laws_FnExactKeepSign.j2 kj89 t151 t150 true t149)))))) else (some false))))) = some r := H
           have A139 := Aside0.mk A1390
           clear A1390
           by_cases c140 : t152 < 0
           ·rw [if_pos c140] at H
            have c140b0 : decide (t152 < 0) = true := decide_eq_true c140
            clear c140
            obtain rfl := Option.some.inj H
            have hnb141 := NB131_101.out
            have hnc141 := NB101_131.out
            have hnb142 := NB131_116.out
            have hnc142 := NB116_131.out
            have hnb143 := NB131_120.out
            have hnc143 := NB120_131.out
            have hcz144_0 : wc.cell? ⟨gb131, 0, none⟩ = some (.slice Ao44 t124.length co44) := (blk_cell BK131.out 0).trans rfl
            have hfz144_0 := blk_frozen BK131.out 0
            go_wp2_with (first | ((with_reducible refine gate_callee (f := 16) rfl ?_); refine goesL_ (some 108) rfl rfl Try.func16 (by kernel_rfl) rfl #[.agg #[.slice Ao44 t124.length co44], .int .i64 1] rfl (by (try simp only [List.map_toArray, List.map_cons, List.map_nil]); first | done | rfl | (simp only [List.length_drop, List.length_take]; rfl)) ?_; (with_reducible refine (laws_markSpace.calls kj89 (fun k_ => some k_ = (.slice Ao44 t124.length co44 : Value).ownBlock) (.slice Ao44 t124.length co44) t124 1 t148 t149 w _ ?side1 ?side2 A137.out).mono ?_); (case side1 => exact gb_ HB.out); (case side2 => exact Kd.R_tight rfl HO_132000.out); rintro e w145 ⟨rfl, hy0, hb, hkp⟩; refine ⟨_, rfl, ?_⟩; replace HO_11 := Aside0.mk (Kd.R_mono (ok' := fun k_ => OB_ k_ v128 ∧ OB_ k_ (.slice Ao29 t109.length co29) ∧ OB_ k_ (.slice Ao35 t143.length co35) ∧ OB_ k_ (.slice Ao44 t124.length co44)) (Kd.R_keptB (HO_11.out) hkp (fun k_ hk_ hs_ => (hk_.2.2.2) hs_)) (fun k_ hk_ => ⟨hk_.1.1, hk_.1.2.1, hk_.1.2.2.1, hk_.1.2.2.2⟩)); replace HO_16 := Aside0.mk (Kd.R_mono (ok' := fun k_ => OB_ k_ v113 ∧ OB_ k_ (.slice Ao29 t109.length co29) ∧ OB_ k_ (.slice Ao35 t143.length co35) ∧ OB_ k_ (.slice Ao44 t124.length co44)) (Kd.R_keptB (HO_16.out) hkp (fun k_ hk_ hs_ => (hk_.2.2.2) hs_)) (fun k_ hk_ => ⟨hk_.1.1, hk_.1.2.1, hk_.1.2.2.1, hk_.1.2.2.2⟩)); replace HO_117000 := Aside0.mk (Kd.R_mono (ok' := fun k_ => OB_ k_ v113 ∧ OB_ k_ v128 ∧ OB_ k_ (.slice Ao35 t143.length co35) ∧ OB_ k_ (.slice Ao44 t124.length co44)) (Kd.R_keptB (HO_117000.out) hkp (fun k_ hk_ hs_ => (hk_.2.2.2) hs_)) (fun k_ hk_ => ⟨hk_.1.1, hk_.1.2.1, hk_.1.2.2.1, hk_.1.2.2.2⟩)); replace HO_121000 := Aside0.mk (Kd.R_mono (ok' := fun k_ => OB_ k_ v113 ∧ OB_ k_ v128 ∧ OB_ k_ (.slice Ao29 t109.length co29) ∧ OB_ k_ (.slice Ao44 t124.length co44)) (Kd.R_keptB (HO_121000.out) hkp (fun k_ hk_ hs_ => (hk_.2.2.2) hs_)) (fun k_ hk_ => ⟨hk_.1.1, hk_.1.2.1, hk_.1.2.2.1, hk_.1.2.2.2⟩)); replace BK101 := a7_ BK101 hkp HO_132000; replace BK116 := a7_ BK116 hkp HO_132000; replace BK120 := a7_ BK120 hkp HO_132000; replace BK131 := a7_ BK131 hkp HO_132000; replace HO_132000 := Aside0.mk (Kd.R_reok rfl hy0 (fun k_ e_ => HO_132000.out.1 k_ e_)); replace HB := Aside0.mk (hb); (try clear hb); (try clear hkp); (try clear hy0); obtain ⟨Ao146, co146, eo146⟩ := Kd.R_slice HO_16.out; subst eo146) | ((with_reducible refine gate_callee (f := 17) rfl ?_); refine goesL_ (some 111) rfl rfl Try.func17 (by kernel_rfl) rfl #[.slice Ao146 t127.length co146, .int .i64 t148] rfl (by (try simp only [List.map_toArray, List.map_cons, List.map_nil]); first | done | rfl | (simp only [List.length_drop, List.length_take]; rfl)) ?_; (with_reducible refine (laws_markInt64S.calls kj89 (fun k_ => some k_ = (.slice Ao146 t127.length co146 : Value).ownBlock) (.slice Ao146 t127.length co146) t127 t148 t150 t151 w _ ?side1 ?side2 A138.out).mono ?_); (case side1 => exact gb_ HB.out); (case side2 => exact Kd.R_tight rfl HO_16.out); rintro e w147 ⟨rfl, hy0, hb, hkp⟩; refine ⟨_, rfl, ?_⟩; replace HO_11 := Aside0.mk (Kd.R_mono (ok' := fun k_ => OB_ k_ (.slice Ao146 t127.length co146) ∧ OB_ k_ (.slice Ao29 t109.length co29) ∧ OB_ k_ (.slice Ao35 t143.length co35) ∧ OB_ k_ (.slice Ao44 t124.length co44)) (Kd.R_keptB (HO_11.out) hkp (fun k_ hk_ hs_ => (hk_.1) hs_)) (fun k_ hk_ => ⟨hk_.1.1, hk_.1.2.1, hk_.1.2.2.1, hk_.1.2.2.2⟩)); replace HO_117000 := Aside0.mk (Kd.R_mono (ok' := fun k_ => OB_ k_ v113 ∧ OB_ k_ (.slice Ao146 t127.length co146) ∧ OB_ k_ (.slice Ao35 t143.length co35) ∧ OB_ k_ (.slice Ao44 t124.length co44)) (Kd.R_keptB (HO_117000.out) hkp (fun k_ hk_ hs_ => (hk_.2.1) hs_)) (fun k_ hk_ => ⟨hk_.1.1, hk_.1.2.1, hk_.1.2.2.1, hk_.1.2.2.2⟩)); replace HO_121000 := Aside0.mk (Kd.R_mono (ok' := fun k_ => OB_ k_ v113 ∧ OB_ k_ (.slice Ao146 t127.length co146) ∧ OB_ k_ (.slice Ao29 t109.length co29) ∧ OB_ k_ (.slice Ao44 t124.length co44)) (Kd.R_keptB (HO_121000.out) hkp (fun k_ hk_ hs_ => (hk_.2.1) hs_)) (fun k_ hk_ => ⟨hk_.1.1, hk_.1.2.1, hk_.1.2.2.1, hk_.1.2.2.2⟩)); replace HO_132000 := Aside0.mk (Kd.R_mono (ok' := fun k_ => OB_ k_ v113 ∧ OB_ k_ (.slice Ao146 t127.length co146) ∧ OB_ k_ (.slice Ao29 t109.length co29) ∧ OB_ k_ (.slice Ao35 t143.length co35)) (Kd.R_keptB (HO_132000.out) hkp (fun k_ hk_ hs_ => (hk_.2.1) hs_)) (fun k_ hk_ => ⟨hk_.1.1, hk_.1.2.1, hk_.1.2.2.1, hk_.1.2.2.2⟩)); replace BK101 := a7_ BK101 hkp HO_16; replace BK116 := a7_ BK116 hkp HO_16; replace BK120 := a7_ BK120 hkp HO_16; replace BK131 := a7_ BK131 hkp HO_16; replace HO_16 := Aside0.mk (Kd.R_reok rfl hy0 (fun k_ e_ => HO_16.out.1 k_ e_)); replace HB := Aside0.mk (hb); (try clear hb); (try clear hkp); (try clear hy0); have hcz148_0 : w147.cell? ⟨gb131, 0, none⟩ = some (.slice Ao44 t124.length co44) := (blk_cell BK131.out 0).trans rfl; have hfz148_0 := blk_frozen BK131.out 0) | ((with_reducible refine gate_callee (f := 18) rfl ?_); refine goesL_ (some 114) rfl rfl Try.func18 (by kernel_rfl) rfl #[.agg #[.slice Ao44 t149.length co44], .int .i64 1] rfl (by (try simp only [List.map_toArray, List.map_cons, List.map_nil]); first | done | (rw [show t149.length = t124.length from (Kd.R_reads' HO_132000.out).1.symm] <;> rfl) | rfl | (simp only [List.length_drop, List.length_take]; rfl)) ?_; (with_reducible refine (laws_heldSpace.calls kj89 _ _ t149 1 t152 _ ?side1 ?side2 A139.out).mono ?_); (case side1 => exact c1_ HO_132000); (case side2 => rw [show t149.length = t124.length from (Kd.R_reads' HO_132000.out).1.symm]; exact (Kd.R_reads' HO_132000.out).2.1); rintro e w149 ⟨rfl, hb⟩; refine ⟨_, rfl, ?_⟩; replace HO_11 := a1_ HO_11 hb; replace HO_16 := a1_ HO_16 hb; replace HO_117000 := a1_ HO_117000 hb; replace HO_121000 := a1_ HO_121000 hb; replace HO_132000 := a1_ HO_132000 hb; replace BK101 := a2_ BK101 hb; replace BK116 := a2_ BK116 hb; replace BK120 := a2_ BK120 hb; replace BK131 := a2_ BK131 hb; replace HB := Aside0.mk (below_step (gb_ HB.out) hb); (try clear hb); (try clear hb2); (try clear hk); (try clear hi)))
            go_ret
            exact ⟨by first | rfl | (simp [errW_none, errW_some] <;> rfl) | (simp [*, errW_none, errW_some] <;> rfl), gb_ HB.out⟩
           ·rw [if_neg c140] at H
            have c140b0 : decide (t152 < 0) = false := decide_eq_false c140
            clear c140
            replace H := Option.bind_eq_some_iff.mp H
            obtain ⟨t153, A1500, H⟩ := H
            replace H : (if t153 < 0 then (some false) else (if t153 = t150 then ((laws_toSpace.f kj89 l0_0).bind fun t154 => ((laws_toInt64S.f kj89 l1).bind fun t157 => ((impl_KeepSign.f t154 t157 a2 a3).bind fun bt160 => ((laws_eqSpace.f kj89 bt160.1 t109).bind fun t168 => (if t168 = true then ((laws_eqInt64S.f kj89 bt160.2.1 t112).bind fun t169 => (if t169 = true then (laws_FnExactKeepSign.j2 kj89 t151 t150 (bt160.2.2 != t115) t149) else (laws_FnExactKeepSign.j2 kj89 t151 t150 true t149))) else (laws_FnExactKeepSign.j2 kj89 t151 t150 true t149)))))) else (some false))) = some r := H
            have A150 := Aside0.mk A1500
            clear A1500
            by_cases c151 : t153 < 0
            ·rw [if_pos c151] at H
             have c151b0 : decide (t153 < 0) = true := decide_eq_true c151
             clear c151
             obtain rfl := Option.some.inj H
             have hnb152 := NB131_101.out
             have hnc152 := NB101_131.out
             have hnb153 := NB131_116.out
             have hnc153 := NB116_131.out
             have hnb154 := NB131_120.out
             have hnc154 := NB120_131.out
             have hcz155_0 : wc.cell? ⟨gb131, 0, none⟩ = some (.slice Ao44 t124.length co44) := (blk_cell BK131.out 0).trans rfl
             have hfz155_0 := blk_frozen BK131.out 0
             go_wp2_with (first | ((with_reducible refine gate_callee (f := 16) rfl ?_); refine goesL_ (some 108) rfl rfl Try.func16 (by kernel_rfl) rfl #[.agg #[.slice Ao44 t124.length co44], .int .i64 1] rfl (by (try simp only [List.map_toArray, List.map_cons, List.map_nil]); first | done | rfl | (simp only [List.length_drop, List.length_take]; rfl)) ?_; (with_reducible refine (laws_markSpace.calls kj89 (fun k_ => some k_ = (.slice Ao44 t124.length co44 : Value).ownBlock) (.slice Ao44 t124.length co44) t124 1 t148 t149 w _ ?side1 ?side2 A137.out).mono ?_); (case side1 => exact gb_ HB.out); (case side2 => exact Kd.R_tight rfl HO_132000.out); rintro e w156 ⟨rfl, hy0, hb, hkp⟩; refine ⟨_, rfl, ?_⟩; replace HO_11 := Aside0.mk (Kd.R_mono (ok' := fun k_ => OB_ k_ v128 ∧ OB_ k_ (.slice Ao29 t109.length co29) ∧ OB_ k_ (.slice Ao35 t143.length co35) ∧ OB_ k_ (.slice Ao44 t124.length co44)) (Kd.R_keptB (HO_11.out) hkp (fun k_ hk_ hs_ => (hk_.2.2.2) hs_)) (fun k_ hk_ => ⟨hk_.1.1, hk_.1.2.1, hk_.1.2.2.1, hk_.1.2.2.2⟩)); replace HO_16 := Aside0.mk (Kd.R_mono (ok' := fun k_ => OB_ k_ v113 ∧ OB_ k_ (.slice Ao29 t109.length co29) ∧ OB_ k_ (.slice Ao35 t143.length co35) ∧ OB_ k_ (.slice Ao44 t124.length co44)) (Kd.R_keptB (HO_16.out) hkp (fun k_ hk_ hs_ => (hk_.2.2.2) hs_)) (fun k_ hk_ => ⟨hk_.1.1, hk_.1.2.1, hk_.1.2.2.1, hk_.1.2.2.2⟩)); replace HO_117000 := Aside0.mk (Kd.R_mono (ok' := fun k_ => OB_ k_ v113 ∧ OB_ k_ v128 ∧ OB_ k_ (.slice Ao35 t143.length co35) ∧ OB_ k_ (.slice Ao44 t124.length co44)) (Kd.R_keptB (HO_117000.out) hkp (fun k_ hk_ hs_ => (hk_.2.2.2) hs_)) (fun k_ hk_ => ⟨hk_.1.1, hk_.1.2.1, hk_.1.2.2.1, hk_.1.2.2.2⟩)); replace HO_121000 := Aside0.mk (Kd.R_mono (ok' := fun k_ => OB_ k_ v113 ∧ OB_ k_ v128 ∧ OB_ k_ (.slice Ao29 t109.length co29) ∧ OB_ k_ (.slice Ao44 t124.length co44)) (Kd.R_keptB (HO_121000.out) hkp (fun k_ hk_ hs_ => (hk_.2.2.2) hs_)) (fun k_ hk_ => ⟨hk_.1.1, hk_.1.2.1, hk_.1.2.2.1, hk_.1.2.2.2⟩)); replace BK101 := a7_ BK101 hkp HO_132000; replace BK116 := a7_ BK116 hkp HO_132000; replace BK120 := a7_ BK120 hkp HO_132000; replace BK131 := a7_ BK131 hkp HO_132000; replace HO_132000 := Aside0.mk (Kd.R_reok rfl hy0 (fun k_ e_ => HO_132000.out.1 k_ e_)); replace HB := Aside0.mk (hb); (try clear hb); (try clear hkp); (try clear hy0); obtain ⟨Ao157, co157, eo157⟩ := Kd.R_slice HO_16.out; subst eo157) | ((with_reducible refine gate_callee (f := 17) rfl ?_); refine goesL_ (some 111) rfl rfl Try.func17 (by kernel_rfl) rfl #[.slice Ao157 t127.length co157, .int .i64 t148] rfl (by (try simp only [List.map_toArray, List.map_cons, List.map_nil]); first | done | rfl | (simp only [List.length_drop, List.length_take]; rfl)) ?_; (with_reducible refine (laws_markInt64S.calls kj89 (fun k_ => some k_ = (.slice Ao157 t127.length co157 : Value).ownBlock) (.slice Ao157 t127.length co157) t127 t148 t150 t151 w _ ?side1 ?side2 A138.out).mono ?_); (case side1 => exact gb_ HB.out); (case side2 => exact Kd.R_tight rfl HO_16.out); rintro e w158 ⟨rfl, hy0, hb, hkp⟩; refine ⟨_, rfl, ?_⟩; replace HO_11 := Aside0.mk (Kd.R_mono (ok' := fun k_ => OB_ k_ (.slice Ao157 t127.length co157) ∧ OB_ k_ (.slice Ao29 t109.length co29) ∧ OB_ k_ (.slice Ao35 t143.length co35) ∧ OB_ k_ (.slice Ao44 t124.length co44)) (Kd.R_keptB (HO_11.out) hkp (fun k_ hk_ hs_ => (hk_.1) hs_)) (fun k_ hk_ => ⟨hk_.1.1, hk_.1.2.1, hk_.1.2.2.1, hk_.1.2.2.2⟩)); replace HO_117000 := Aside0.mk (Kd.R_mono (ok' := fun k_ => OB_ k_ v113 ∧ OB_ k_ (.slice Ao157 t127.length co157) ∧ OB_ k_ (.slice Ao35 t143.length co35) ∧ OB_ k_ (.slice Ao44 t124.length co44)) (Kd.R_keptB (HO_117000.out) hkp (fun k_ hk_ hs_ => (hk_.2.1) hs_)) (fun k_ hk_ => ⟨hk_.1.1, hk_.1.2.1, hk_.1.2.2.1, hk_.1.2.2.2⟩)); replace HO_121000 := Aside0.mk (Kd.R_mono (ok' := fun k_ => OB_ k_ v113 ∧ OB_ k_ (.slice Ao157 t127.length co157) ∧ OB_ k_ (.slice Ao29 t109.length co29) ∧ OB_ k_ (.slice Ao44 t124.length co44)) (Kd.R_keptB (HO_121000.out) hkp (fun k_ hk_ hs_ => (hk_.2.1) hs_)) (fun k_ hk_ => ⟨hk_.1.1, hk_.1.2.1, hk_.1.2.2.1, hk_.1.2.2.2⟩)); replace HO_132000 := Aside0.mk (Kd.R_mono (ok' := fun k_ => OB_ k_ v113 ∧ OB_ k_ (.slice Ao157 t127.length co157) ∧ OB_ k_ (.slice Ao29 t109.length co29) ∧ OB_ k_ (.slice Ao35 t143.length co35)) (Kd.R_keptB (HO_132000.out) hkp (fun k_ hk_ hs_ => (hk_.2.1) hs_)) (fun k_ hk_ => ⟨hk_.1.1, hk_.1.2.1, hk_.1.2.2.1, hk_.1.2.2.2⟩)); replace BK101 := a7_ BK101 hkp HO_16; replace BK116 := a7_ BK116 hkp HO_16; replace BK120 := a7_ BK120 hkp HO_16; replace BK131 := a7_ BK131 hkp HO_16; replace HO_16 := Aside0.mk (Kd.R_reok rfl hy0 (fun k_ e_ => HO_16.out.1 k_ e_)); replace HB := Aside0.mk (hb); (try clear hb); (try clear hkp); (try clear hy0); have hcz159_0 : w158.cell? ⟨gb131, 0, none⟩ = some (.slice Ao44 t124.length co44) := (blk_cell BK131.out 0).trans rfl; have hfz159_0 := blk_frozen BK131.out 0) | ((with_reducible refine gate_callee (f := 18) rfl ?_); refine goesL_ (some 114) rfl rfl Try.func18 (by kernel_rfl) rfl #[.agg #[.slice Ao44 t149.length co44], .int .i64 1] rfl (by (try simp only [List.map_toArray, List.map_cons, List.map_nil]); first | done | (rw [show t149.length = t124.length from (Kd.R_reads' HO_132000.out).1.symm] <;> rfl) | rfl | (simp only [List.length_drop, List.length_take]; rfl)) ?_; (with_reducible refine (laws_heldSpace.calls kj89 _ _ t149 1 t152 _ ?side1 ?side2 A139.out).mono ?_); (case side1 => exact c1_ HO_132000); (case side2 => rw [show t149.length = t124.length from (Kd.R_reads' HO_132000.out).1.symm]; exact (Kd.R_reads' HO_132000.out).2.1); rintro e w160 ⟨rfl, hb⟩; refine ⟨_, rfl, ?_⟩; replace HO_11 := a1_ HO_11 hb; replace HO_16 := a1_ HO_16 hb; replace HO_117000 := a1_ HO_117000 hb; replace HO_121000 := a1_ HO_121000 hb; replace HO_132000 := a1_ HO_132000 hb; replace BK101 := a2_ BK101 hb; replace BK116 := a2_ BK116 hb; replace BK120 := a2_ BK120 hb; replace BK131 := a2_ BK131 hb; replace HB := Aside0.mk (below_step (gb_ HB.out) hb); (try clear hb); (try clear hb2); (try clear hk); (try clear hi)) | ((with_reducible refine gate_callee (f := 19) rfl ?_); refine goesL_ (some 119) rfl rfl Try.func19 (by kernel_rfl) rfl #[.slice Ao157 t151.length co157, .int .i64 t152] rfl (by (try simp only [List.map_toArray, List.map_cons, List.map_nil]); first | done | (rw [show t151.length = t127.length from (Kd.R_reads' HO_16.out).1.symm] <;> rfl) | rfl | (simp only [List.length_drop, List.length_take]; rfl)) ?_; (with_reducible refine (laws_heldInt64S.calls kj89 _ _ t151 t152 t153 _ ?side1 ?side2 A150.out).mono ?_); (case side1 => exact c1_ HO_16); (case side2 => rw [show t151.length = t127.length from (Kd.R_reads' HO_16.out).1.symm]; exact (Kd.R_reads' HO_16.out).2.1); rintro e w' ⟨rfl, ⟨nd, rfl⟩⟩; refine ⟨_, rfl, ?_⟩))
             go_ret
             exact ⟨by first | rfl | (simp [errW_none, errW_some] <;> rfl) | (simp [*, errW_none, errW_some] <;> rfl), gb_ HB.out⟩
            ·rw [if_neg c151] at H
             have c151b0 : decide (t153 < 0) = false := decide_eq_false c151
             clear c151
             by_cases c161 : t153 = t150
             ·rw [if_pos c161] at H
              have c161b0 : (t153 == t150) = true := beq_iff_eq.mpr c161
              have c161b1 : (t153 != t150) = false := bne_eq_false_iff_eq.mpr c161
              clear c161
              replace H := Option.bind_eq_some_iff.mp H
              obtain ⟨t154, A1620, H⟩ := H
              replace H : ((laws_toInt64S.f kj89 l1).bind fun t157 => ((impl_KeepSign.f t154 t157 a2 a3).bind fun bt160 => ((laws_eqSpace.f kj89 bt160.1 t109).bind fun t168 => (if t168 = true then ((laws_eqInt64S.f kj89 bt160.2.1 t112).bind fun t169 => (if t169 = true then (laws_FnExactKeepSign.j2 kj89 t151 t150 (bt160.2.2 != t115) t149) else (laws_FnExactKeepSign.j2 kj89 t151 t150 true t149))) else (laws_FnExactKeepSign.j2 kj89 t151 t150 true t149))))) = some r := H
              have A162 := Aside0.mk A1620
              clear A1620
              replace H := Option.bind_eq_some_iff.mp H
              obtain ⟨t157, A1630, H⟩ := H
              replace H : ((impl_KeepSign.f t154 t157 a2 a3).bind fun bt160 => ((laws_eqSpace.f kj89 bt160.1 t109).bind fun t168 => (if t168 = true then ((laws_eqInt64S.f kj89 bt160.2.1 t112).bind fun t169 => (if t169 = true then (laws_FnExactKeepSign.j2 kj89 t151 t150 (bt160.2.2 != t115) t149) else (laws_FnExactKeepSign.j2 kj89 t151 t150 true t149))) else (laws_FnExactKeepSign.j2 kj89 t151 t150 true t149)))) = some r := H
              have A163 := Aside0.mk A1630
              clear A1630
              replace H := Option.bind_eq_some_iff.mp H
              obtain ⟨⟨t160, t163, t166⟩, A1640, H⟩ := H
              replace H : ((laws_eqSpace.f kj89 t160 t109).bind fun t168 => (if t168 = true then ((laws_eqInt64S.f kj89 t163 t112).bind fun t169 => (if t169 = true then (laws_FnExactKeepSign.j2 kj89 t151 t150 (t166 != t115) t149) else (laws_FnExactKeepSign.j2 kj89 t151 t150 true t149))) else (laws_FnExactKeepSign.j2 kj89 t151 t150 true t149))) = some r := H
              have A164 := Aside0.mk A1640
              clear A1640
              have HC165 := Aside0.mk H
              clear H
              have hnb166 := NB131_101.out
              have hnc166 := NB101_131.out
              have hnb167 := NB131_116.out
              have hnc167 := NB116_131.out
              have hnb168 := NB131_120.out
              have hnc168 := NB120_131.out
              have hcz169_0 : wc.cell? ⟨gb131, 0, none⟩ = some (.slice Ao44 t124.length co44) := (blk_cell BK131.out 0).trans rfl
              have hfz169_0 := blk_frozen BK131.out 0
              go_upto_region 35 with (first | ((with_reducible refine gate_callee (f := 16) rfl ?_); refine goesL_ (some 108) rfl rfl Try.func16 (by kernel_rfl) rfl #[.agg #[.slice Ao44 t124.length co44], .int .i64 1] rfl (by (try simp only [List.map_toArray, List.map_cons, List.map_nil]); first | done | rfl | (simp only [List.length_drop, List.length_take]; rfl)) ?_; (with_reducible refine (laws_markSpace.calls kj89 (fun k_ => some k_ = (.slice Ao44 t124.length co44 : Value).ownBlock) (.slice Ao44 t124.length co44) t124 1 t148 t149 w _ ?side1 ?side2 A137.out).mono ?_); (case side1 => exact gb_ HB.out); (case side2 => exact Kd.R_tight rfl HO_132000.out); rintro e w170 ⟨rfl, hy0, hb, hkp⟩; refine ⟨_, rfl, ?_⟩; replace HO_11 := Aside0.mk (Kd.R_mono (ok' := fun k_ => OB_ k_ v128 ∧ OB_ k_ (.slice Ao29 t109.length co29) ∧ OB_ k_ (.slice Ao35 t143.length co35) ∧ OB_ k_ (.slice Ao44 t124.length co44)) (Kd.R_keptB (HO_11.out) hkp (fun k_ hk_ hs_ => (hk_.2.2.2) hs_)) (fun k_ hk_ => ⟨hk_.1.1, hk_.1.2.1, hk_.1.2.2.1, hk_.1.2.2.2⟩)); replace HO_16 := Aside0.mk (Kd.R_mono (ok' := fun k_ => OB_ k_ v113 ∧ OB_ k_ (.slice Ao29 t109.length co29) ∧ OB_ k_ (.slice Ao35 t143.length co35) ∧ OB_ k_ (.slice Ao44 t124.length co44)) (Kd.R_keptB (HO_16.out) hkp (fun k_ hk_ hs_ => (hk_.2.2.2) hs_)) (fun k_ hk_ => ⟨hk_.1.1, hk_.1.2.1, hk_.1.2.2.1, hk_.1.2.2.2⟩)); replace HO_117000 := Aside0.mk (Kd.R_mono (ok' := fun k_ => OB_ k_ v113 ∧ OB_ k_ v128 ∧ OB_ k_ (.slice Ao35 t143.length co35) ∧ OB_ k_ (.slice Ao44 t124.length co44)) (Kd.R_keptB (HO_117000.out) hkp (fun k_ hk_ hs_ => (hk_.2.2.2) hs_)) (fun k_ hk_ => ⟨hk_.1.1, hk_.1.2.1, hk_.1.2.2.1, hk_.1.2.2.2⟩)); replace HO_121000 := Aside0.mk (Kd.R_mono (ok' := fun k_ => OB_ k_ v113 ∧ OB_ k_ v128 ∧ OB_ k_ (.slice Ao29 t109.length co29) ∧ OB_ k_ (.slice Ao44 t124.length co44)) (Kd.R_keptB (HO_121000.out) hkp (fun k_ hk_ hs_ => (hk_.2.2.2) hs_)) (fun k_ hk_ => ⟨hk_.1.1, hk_.1.2.1, hk_.1.2.2.1, hk_.1.2.2.2⟩)); replace BK101 := a7_ BK101 hkp HO_132000; replace BK116 := a7_ BK116 hkp HO_132000; replace BK120 := a7_ BK120 hkp HO_132000; replace BK131 := a7_ BK131 hkp HO_132000; replace HO_132000 := Aside0.mk (Kd.R_reok rfl hy0 (fun k_ e_ => HO_132000.out.1 k_ e_)); replace HB := Aside0.mk (hb); (try clear hb); (try clear hkp); (try clear hy0); obtain ⟨Ao171, co171, eo171⟩ := Kd.R_slice HO_16.out; subst eo171) | ((with_reducible refine gate_callee (f := 17) rfl ?_); refine goesL_ (some 111) rfl rfl Try.func17 (by kernel_rfl) rfl #[.slice Ao171 t127.length co171, .int .i64 t148] rfl (by (try simp only [List.map_toArray, List.map_cons, List.map_nil]); first | done | rfl | (simp only [List.length_drop, List.length_take]; rfl)) ?_; (with_reducible refine (laws_markInt64S.calls kj89 (fun k_ => some k_ = (.slice Ao171 t127.length co171 : Value).ownBlock) (.slice Ao171 t127.length co171) t127 t148 t150 t151 w _ ?side1 ?side2 A138.out).mono ?_); (case side1 => exact gb_ HB.out); (case side2 => exact Kd.R_tight rfl HO_16.out); rintro e w172 ⟨rfl, hy0, hb, hkp⟩; refine ⟨_, rfl, ?_⟩; replace HO_11 := Aside0.mk (Kd.R_mono (ok' := fun k_ => OB_ k_ (.slice Ao171 t127.length co171) ∧ OB_ k_ (.slice Ao29 t109.length co29) ∧ OB_ k_ (.slice Ao35 t143.length co35) ∧ OB_ k_ (.slice Ao44 t124.length co44)) (Kd.R_keptB (HO_11.out) hkp (fun k_ hk_ hs_ => (hk_.1) hs_)) (fun k_ hk_ => ⟨hk_.1.1, hk_.1.2.1, hk_.1.2.2.1, hk_.1.2.2.2⟩)); replace HO_117000 := Aside0.mk (Kd.R_mono (ok' := fun k_ => OB_ k_ v113 ∧ OB_ k_ (.slice Ao171 t127.length co171) ∧ OB_ k_ (.slice Ao35 t143.length co35) ∧ OB_ k_ (.slice Ao44 t124.length co44)) (Kd.R_keptB (HO_117000.out) hkp (fun k_ hk_ hs_ => (hk_.2.1) hs_)) (fun k_ hk_ => ⟨hk_.1.1, hk_.1.2.1, hk_.1.2.2.1, hk_.1.2.2.2⟩)); replace HO_121000 := Aside0.mk (Kd.R_mono (ok' := fun k_ => OB_ k_ v113 ∧ OB_ k_ (.slice Ao171 t127.length co171) ∧ OB_ k_ (.slice Ao29 t109.length co29) ∧ OB_ k_ (.slice Ao44 t124.length co44)) (Kd.R_keptB (HO_121000.out) hkp (fun k_ hk_ hs_ => (hk_.2.1) hs_)) (fun k_ hk_ => ⟨hk_.1.1, hk_.1.2.1, hk_.1.2.2.1, hk_.1.2.2.2⟩)); replace HO_132000 := Aside0.mk (Kd.R_mono (ok' := fun k_ => OB_ k_ v113 ∧ OB_ k_ (.slice Ao171 t127.length co171) ∧ OB_ k_ (.slice Ao29 t109.length co29) ∧ OB_ k_ (.slice Ao35 t143.length co35)) (Kd.R_keptB (HO_132000.out) hkp (fun k_ hk_ hs_ => (hk_.2.1) hs_)) (fun k_ hk_ => ⟨hk_.1.1, hk_.1.2.1, hk_.1.2.2.1, hk_.1.2.2.2⟩)); replace BK101 := a7_ BK101 hkp HO_16; replace BK116 := a7_ BK116 hkp HO_16; replace BK120 := a7_ BK120 hkp HO_16; replace BK131 := a7_ BK131 hkp HO_16; replace HO_16 := Aside0.mk (Kd.R_reok rfl hy0 (fun k_ e_ => HO_16.out.1 k_ e_)); replace HB := Aside0.mk (hb); (try clear hb); (try clear hkp); (try clear hy0); have hcz173_0 : w172.cell? ⟨gb131, 0, none⟩ = some (.slice Ao44 t124.length co44) := (blk_cell BK131.out 0).trans rfl; have hfz173_0 := blk_frozen BK131.out 0) | ((with_reducible refine gate_callee (f := 18) rfl ?_); refine goesL_ (some 114) rfl rfl Try.func18 (by kernel_rfl) rfl #[.agg #[.slice Ao44 t149.length co44], .int .i64 1] rfl (by (try simp only [List.map_toArray, List.map_cons, List.map_nil]); first | done | (rw [show t149.length = t124.length from (Kd.R_reads' HO_132000.out).1.symm] <;> rfl) | rfl | (simp only [List.length_drop, List.length_take]; rfl)) ?_; (with_reducible refine (laws_heldSpace.calls kj89 _ _ t149 1 t152 _ ?side1 ?side2 A139.out).mono ?_); (case side1 => exact c1_ HO_132000); (case side2 => rw [show t149.length = t124.length from (Kd.R_reads' HO_132000.out).1.symm]; exact (Kd.R_reads' HO_132000.out).2.1); rintro e w174 ⟨rfl, hb⟩; refine ⟨_, rfl, ?_⟩; replace HO_11 := a1_ HO_11 hb; replace HO_16 := a1_ HO_16 hb; replace HO_117000 := a1_ HO_117000 hb; replace HO_121000 := a1_ HO_121000 hb; replace HO_132000 := a1_ HO_132000 hb; replace BK101 := a2_ BK101 hb; replace BK116 := a2_ BK116 hb; replace BK120 := a2_ BK120 hb; replace BK131 := a2_ BK131 hb; replace HB := Aside0.mk (below_step (gb_ HB.out) hb); (try clear hb); (try clear hb2); (try clear hk); (try clear hi)) | ((with_reducible refine gate_callee (f := 19) rfl ?_); refine goesL_ (some 119) rfl rfl Try.func19 (by kernel_rfl) rfl #[.slice Ao171 t151.length co171, .int .i64 t152] rfl (by (try simp only [List.map_toArray, List.map_cons, List.map_nil]); first | done | (rw [show t151.length = t127.length from (Kd.R_reads' HO_16.out).1.symm] <;> rfl) | rfl | (simp only [List.length_drop, List.length_take]; rfl)) ?_; (with_reducible refine (laws_heldInt64S.calls kj89 _ _ t151 t152 t153 _ ?side1 ?side2 A150.out).mono ?_); (case side1 => exact c1_ HO_16); (case side2 => rw [show t151.length = t127.length from (Kd.R_reads' HO_16.out).1.symm]; exact (Kd.R_reads' HO_16.out).2.1); rintro e w' ⟨rfl, ⟨nd, rfl⟩⟩; refine ⟨_, rfl, ?_⟩; (try (rw [drewN_self w174]; generalize hq_ : World.drewN w174 _ = w174; have n0_ : Aside0 (Kd.R (Kd.int .i64) 2 w174 w.heap.size (fun k_ => OB_ k_ (.slice Ao29 t109.length co29) ∧ OB_ k_ (.slice Ao35 t143.length co35) ∧ OB_ k_ (.slice Ao44 t124.length co44) ∧ OB_ k_ (.slice Ao171 t127.length co171)) v113 t112) := ⟨by rw [← hq_]; exact (rb_ (Kd.R_mono HO_11.out (fun _ hk => by grind)))⟩; have n1_ : Aside0 (Kd.R (Kd.int .i64) 2 w174 w.heap.size (fun k_ => OB_ k_ v113 ∧ OB_ k_ (.slice Ao35 t143.length co35) ∧ OB_ k_ (.slice Ao44 t124.length co44) ∧ OB_ k_ (.slice Ao171 t127.length co171)) (.slice Ao29 t109.length co29) t109) := ⟨by rw [← hq_]; exact (rb_ (Kd.R_mono HO_117000.out (fun _ hk => by grind)))⟩; have n2_ : Aside0 (Kd.R (Kd.int .i64) 2 w174 w.heap.size (fun k_ => OB_ k_ v113 ∧ OB_ k_ (.slice Ao29 t109.length co29) ∧ OB_ k_ (.slice Ao44 t124.length co44) ∧ OB_ k_ (.slice Ao171 t127.length co171)) (.slice Ao35 t143.length co35) t143) := ⟨by rw [← hq_]; exact (rb_ (Kd.R_mono HO_121000.out (fun _ hk => by grind)))⟩; have n3_ : Aside0 (Kd.R (Kd.int .i64) 2 w174 w.heap.size (fun k_ => OB_ k_ v113 ∧ OB_ k_ (.slice Ao29 t109.length co29) ∧ OB_ k_ (.slice Ao35 t143.length co35) ∧ OB_ k_ (.slice Ao171 t127.length co171)) (.slice Ao44 t124.length co44) t149) := ⟨by rw [← hq_]; exact (rb_ (Kd.R_mono HO_132000.out (fun _ hk => by grind)))⟩; have n4_ : Aside0 (Kd.R (Kd.int .i64) 2 w174 w.heap.size (fun k_ => OB_ k_ v113 ∧ OB_ k_ (.slice Ao29 t109.length co29) ∧ OB_ k_ (.slice Ao35 t143.length co35) ∧ OB_ k_ (.slice Ao44 t124.length co44)) (.slice Ao171 t127.length co171) t151) := ⟨by rw [← hq_]; exact (rb_ HO_16.out)⟩; have n5_ : Aside0 (w174.heap[gb101]? = some (.cells #[.slice A0_0 l0_0.length c0_0] 24 (0, 0))) := ⟨by rw [← hq_]; exact (bb_ BK101.out)⟩; have n6_ : Aside0 (w174.heap[gb116]? = some (.cells #[.slice Ao29 t109.length co29] 26 (0, 0))) := ⟨by rw [← hq_]; exact (bb_ BK116.out)⟩; have n7_ : Aside0 (w174.heap[gb120]? = some (.cells #[.slice Ao35 t143.length co35] 26 (0, 0))) := ⟨by rw [← hq_]; exact (bb_ BK120.out)⟩; have n8_ : Aside0 (w174.heap[gb131]? = some (.cells #[.slice Ao44 t124.length co44] 26 (0, 0))) := ⟨by rw [← hq_]; exact (bb_ BK131.out)⟩; have n9_ : Aside0 (Below w.heap.size w w174) := ⟨by rw [← hq_]; exact (gb_ HB.out)⟩; clear HO_11 HO_117000 HO_121000 HO_132000 HO_16 BK101 BK116 BK120 BK131 HB hq_; have HO_11 := n0_; have HO_117000 := n1_; have HO_121000 := n2_; have HO_132000 := n3_; have HO_16 := n4_; have BK101 := n5_; have BK116 := n6_; have BK120 := n7_; have BK131 := n8_; have HB := n9_; clear n0_ n1_ n2_ n3_ n4_ n5_ n6_ n7_ n8_ n9_)); have hnb175 := NB101_116.out; have hnc175 := NB116_101.out; have hnb176 := NB101_120.out; have hnc176 := NB120_101.out; have hcz177_0 : w174.cell? ⟨gb101, 0, none⟩ = some (.slice A0_0 l0_0.length c0_0) := (blk_cell BK101.out 0).trans rfl; have hfz177_0 := blk_frozen BK101.out 0) | ((with_reducible refine gate_callee (f := 11) rfl ?_); refine goesL_ (some 127) rfl rfl Try.func11 (by kernel_rfl) rfl #[.agg #[.slice A0_0 l0_0.length c0_0]] rfl (by (try simp only [List.map_toArray, List.map_cons, List.map_nil]); first | done | rfl | (simp only [List.length_drop, List.length_take]; rfl)) ?_; (with_reducible refine (laws_toSpace.calls kj89 _ _ l0_0 t154 _ ?side1 ?side2 A162.out).mono ?_); (case side1 => exact c2_ HR0_0 HB); (case side2 => exact HC0_0.out); rintro e w178 ⟨v155, rfl, ho0, hb⟩; refine ⟨_, rfl, ?_⟩; have HO156 := Aside0.mk (Kd.R_lower (Kd.R_new' (Kd.R_new' (Kd.R_new' (Kd.R_new' (Kd.R_new' ho0 (Kd.R_lt (rb_ HO_11.out))) (Kd.R_lt (rb_ HO_16.out))) (Kd.R_lt (rb_ HO_117000.out))) (Kd.R_lt (rb_ HO_121000.out))) (Kd.R_lt (rb_ HO_132000.out))) (below_size (gb_ HB.out))); replace HO_11 := a5_ HO_11 ho0 hb; replace HO_16 := a5_ HO_16 ho0 hb; replace HO_117000 := a5_ HO_117000 ho0 hb; replace HO_121000 := a5_ HO_121000 ho0 hb; replace HO_132000 := a5_ HO_132000 ho0 hb; replace BK101 := a2_ BK101 hb; replace BK116 := a2_ BK116 hb; replace BK120 := a2_ BK120 hb; replace BK131 := a2_ BK131 hb; replace HB := Aside0.mk (below_step (gb_ HB.out) hb); (try clear hb); (try clear hb2); (try clear hk); (try clear hi); (try clear ho0)) | ((with_reducible refine gate_callee (f := 12) rfl ?_); refine goesL_ (some 129) rfl rfl Try.func12 (by kernel_rfl) rfl #[.slice A1 l1.length c1] rfl (by (try simp only [List.map_toArray, List.map_cons, List.map_nil]); first | done | rfl | (simp only [List.length_drop, List.length_take]; rfl)) ?_; (with_reducible refine (laws_toInt64S.calls kj89 _ _ l1 t157 _ ?side1 ?side2 A163.out).mono ?_); (case side1 => exact c2_ HR1 HB); (case side2 => exact HC1.out); rintro e w179 ⟨v158, rfl, ho0, hb⟩; refine ⟨_, rfl, ?_⟩; have HO159 := Aside0.mk (Kd.R_lower (Kd.R_new' (Kd.R_new' (Kd.R_new' (Kd.R_new' (Kd.R_new' (Kd.R_new' ho0 (Kd.R_lt (rb_ HO_11.out))) (Kd.R_lt (rb_ HO_16.out))) (Kd.R_lt (rb_ HO_117000.out))) (Kd.R_lt (rb_ HO_121000.out))) (Kd.R_lt (rb_ HO_132000.out))) (Kd.R_lt (rb_ HO156.out))) (below_size (gb_ HB.out))); replace HO_11 := a5_ HO_11 ho0 hb; replace HO_16 := a5_ HO_16 ho0 hb; replace HO_117000 := a5_ HO_117000 ho0 hb; replace HO_121000 := a5_ HO_121000 ho0 hb; replace HO_132000 := a5_ HO_132000 ho0 hb; replace HO156 := a5_ HO156 ho0 hb; replace BK101 := a2_ BK101 hb; replace BK116 := a2_ BK116 hb; replace BK120 := a2_ BK120 hb; replace BK131 := a2_ BK131 hb; replace HB := Aside0.mk (below_step (gb_ HB.out) hb); (try clear hb); (try clear hb2); (try clear hk); (try clear hi); (try clear ho0); obtain ⟨Ao180, co180, eo180⟩ := Kd.R_slice HO156.out; subst eo180; obtain ⟨Ao181, co181, eo181⟩ := Kd.R_slice HO159.out; subst eo181) | ((with_reducible refine gate_callee (f := 29) rfl ?_); refine goesL_ (some 132) rfl rfl Try.func29 (by kernel_rfl) rfl #[.agg #[.slice Ao180 t154.length co180], .slice Ao181 t157.length co181, .int .i64 a2, .int .i64 a3] rfl (by (try simp only [List.map_toArray, List.map_cons, List.map_nil]); first | done | rfl | (simp only [List.length_drop, List.length_take]; rfl)) ?_; (with_reducible refine (impl_KeepSign.calls _ _ t154 _ _ t157 a2 a3 t160 t163 t166 _ ?side1 ?side2 ?side3 ?side4 A164.out).mono ?_); (case side1 => exact c1_ HO156); (case side2 => exact (Kd.R_reads' HO156.out).2.1); (case side3 => exact c1_ HO159); (case side4 => exact (Kd.R_reads' HO159.out).2.1); rintro e w182 ⟨v161, v164, rfl, ho0, ho1, hb⟩; refine ⟨_, rfl, ?_⟩; have HO162 := Aside0.mk (Kd.R_lower (Kd.R_new' (Kd.R_new' (Kd.R_new' (Kd.R_new' (Kd.R_new' (Kd.R_new' (Kd.R_new' ho0 (Kd.R_lt (rb_ HO_11.out))) (Kd.R_lt (rb_ HO_16.out))) (Kd.R_lt (rb_ HO_117000.out))) (Kd.R_lt (rb_ HO_121000.out))) (Kd.R_lt (rb_ HO_132000.out))) (Kd.R_lt (rb_ HO156.out))) (Kd.R_lt (rb_ HO159.out))) (below_size (gb_ HB.out))); have HO165 := Aside0.mk (Kd.R_lower (Kd.R_new' (Kd.R_new' (Kd.R_new' (Kd.R_new' (Kd.R_new' (Kd.R_new' (Kd.R_new' ho1 (Kd.R_lt (rb_ HO_11.out))) (Kd.R_lt (rb_ HO_16.out))) (Kd.R_lt (rb_ HO_117000.out))) (Kd.R_lt (rb_ HO_121000.out))) (Kd.R_lt (rb_ HO_132000.out))) (Kd.R_lt (rb_ HO156.out))) (Kd.R_lt (rb_ HO159.out))) (below_size (gb_ HB.out))); replace HO_11 := Aside0.mk (Kd.R_mono (Kd.R_told (Kd.R_told (Kd.R_old (rb_ HO_11.out) hb) (Kd.R_base ho0)) (Kd.R_base ho1)) (fun _ h_ => h_.1)); replace HO_16 := Aside0.mk (Kd.R_mono (Kd.R_told (Kd.R_told (Kd.R_old (rb_ HO_16.out) hb) (Kd.R_base ho0)) (Kd.R_base ho1)) (fun _ h_ => h_.1)); replace HO_117000 := Aside0.mk (Kd.R_mono (Kd.R_told (Kd.R_told (Kd.R_old (rb_ HO_117000.out) hb) (Kd.R_base ho0)) (Kd.R_base ho1)) (fun _ h_ => h_.1)); replace HO_121000 := Aside0.mk (Kd.R_mono (Kd.R_told (Kd.R_told (Kd.R_old (rb_ HO_121000.out) hb) (Kd.R_base ho0)) (Kd.R_base ho1)) (fun _ h_ => h_.1)); replace HO_132000 := Aside0.mk (Kd.R_mono (Kd.R_told (Kd.R_told (Kd.R_old (rb_ HO_132000.out) hb) (Kd.R_base ho0)) (Kd.R_base ho1)) (fun _ h_ => h_.1)); replace HO156 := Aside0.mk (Kd.R_mono (Kd.R_told (Kd.R_told (Kd.R_old (rb_ HO156.out) hb) (Kd.R_base ho0)) (Kd.R_base ho1)) (fun _ h_ => h_.1)); replace HO159 := Aside0.mk (Kd.R_mono (Kd.R_told (Kd.R_told (Kd.R_old (rb_ HO159.out) hb) (Kd.R_base ho0)) (Kd.R_base ho1)) (fun _ h_ => h_.1)); replace BK101 := a2_ BK101 hb; replace BK116 := a2_ BK116 hb; replace BK120 := a2_ BK120 hb; replace BK131 := a2_ BK131 hb; replace HB := Aside0.mk (below_step (gb_ HB.out) hb); (try clear hb); (try clear hb2); (try clear hk); (try clear hi); (try clear ho0); (try clear ho1)) | ((with_reducible refine gate_dst (N := 21) rfl ?_); refine box_event ?hg (N := 21) ?hd (cs := #[.slice none 0 0]) (t := 26) ?hr ?_; (case hd => rfl); (case hg => rfl); (case hr => first | (go_simp; done) | (go_simp; rfl)); intro gb167 hg w183 hbox hb; have n0_ := a1_ HO_11 hb; have n1_ := a1_ HO_16 hb; have n2_ := a1_ HO_117000 hb; have n3_ := a1_ HO_121000 hb; have n4_ := a1_ HO_132000 hb; have n5_ := a1_ HO156 hb; have n6_ := a1_ HO159 hb; have n7_ := a1_ HO162 hb; have n8_ := a1_ HO165 hb; have n9_ := a2_ BK101 hb; have n10_ := a2_ BK116 hb; have n11_ := a2_ BK120 hb; have n12_ := a2_ BK131 hb; have n13_ := Aside0.mk (below_step (gb_ HB.out) hb); have n14_ := Aside0.mk (hbox); have n15_ := Aside0.mk ((by rw [hg]; exact (below_size (gb_ HB.out)) : w.heap.size ≤ gb167)); have n16_ := Aside0.mk ((by rw [hg]; exact (below_size (gb_ HB.out)) : w.heap.size ≤ gb167)); have n17_ := Aside0.mk ((by rw [hg]; exact Nat.ne_of_lt (blk_lt (g := gb101) (o := .cells #[.slice A0_0 l0_0.length c0_0] 24 (0, 0)) (bb_ BK101.out)) : gb101 ≠ gb167)); have n18_ := Aside0.mk ((by rw [hg]; exact Nat.ne_of_gt (blk_lt (g := gb101) (o := .cells #[.slice A0_0 l0_0.length c0_0] 24 (0, 0)) (bb_ BK101.out)) : gb167 ≠ gb101)); have n19_ := Aside0.mk ((by rw [hg]; exact Nat.ne_of_lt (blk_lt (g := gb116) (o := .cells #[.slice Ao29 t109.length co29] 26 (0, 0)) (bb_ BK116.out)) : gb116 ≠ gb167)); have n20_ := Aside0.mk ((by rw [hg]; exact Nat.ne_of_gt (blk_lt (g := gb116) (o := .cells #[.slice Ao29 t109.length co29] 26 (0, 0)) (bb_ BK116.out)) : gb167 ≠ gb116)); have n21_ := Aside0.mk ((by rw [hg]; exact Nat.ne_of_lt (blk_lt (g := gb120) (o := .cells #[.slice Ao35 t143.length co35] 26 (0, 0)) (bb_ BK120.out)) : gb120 ≠ gb167)); have n22_ := Aside0.mk ((by rw [hg]; exact Nat.ne_of_gt (blk_lt (g := gb120) (o := .cells #[.slice Ao35 t143.length co35] 26 (0, 0)) (bb_ BK120.out)) : gb167 ≠ gb120)); have n23_ := Aside0.mk ((by rw [hg]; exact Nat.ne_of_lt (blk_lt (g := gb131) (o := .cells #[.slice Ao44 t124.length co44] 26 (0, 0)) (bb_ BK131.out)) : gb131 ≠ gb167)); have n24_ := Aside0.mk ((by rw [hg]; exact Nat.ne_of_gt (blk_lt (g := gb131) (o := .cells #[.slice Ao44 t124.length co44] 26 (0, 0)) (bb_ BK131.out)) : gb167 ≠ gb131)); clear HO_11 HO_16 HO_117000 HO_121000 HO_132000 HO156 HO159 HO162 HO165 BK101 BK116 BK120 BK131 HB; have HO_11 := n0_; have HO_16 := n1_; have HO_117000 := n2_; have HO_121000 := n3_; have HO_132000 := n4_; have HO156 := n5_; have HO159 := n6_; have HO162 := n7_; have HO165 := n8_; have BK101 := n9_; have BK116 := n10_; have BK120 := n11_; have BK131 := n12_; have HB := n13_; have BK167 := n14_; have GW167 := n15_; have GE167 := n16_; have NB101_167 := n17_; have NB167_101 := n18_; have NB116_167 := n19_; have NB167_116 := n20_; have NB120_167 := n21_; have NB167_120 := n22_; have NB131_167 := n23_; have NB167_131 := n24_; clear n0_ n1_ n2_ n3_ n4_ n5_ n6_ n7_ n8_ n9_ n10_ n11_ n12_ n13_ n14_ n15_ n16_ n17_ n18_ n19_ n20_ n21_ n22_ n23_ n24_ hb hbox hg; obtain ⟨Ao184, co184, eo184⟩ := Kd.R_slice HO162.out; subst eo184; have hnb185 := NB167_101.out; have hnc185 := NB101_167.out; have hnb186 := NB167_116.out; have hnc186 := NB116_167.out; have hnb187 := NB167_120.out; have hnc187 := NB120_167.out; have hnb188 := NB167_131.out; have hnc188 := NB131_167.out; have hcz189_0 : w183.cell? ⟨gb167, 0, none⟩ = some (.slice none 0 0) := (blk_cell BK167.out 0).trans rfl; have hfz189_0 := blk_frozen BK167.out 0))
              (try simp only [Act.put, List.setIfInBounds_toArray, List.set_cons_zero, List.set_cons_succ])
              go_cut [150] (fun v150 wc => ∃ (kq : Nat) (x150_164 : Bool), v150 = .bool x150_164 ∧ Aside0 (laws_FnExactKeepSign.j2 kq t151 t150 x150_164 t149 = some r) ∧ Aside0 (kq ≤ kj89) ∧ Aside0 (Kd.R (Kd.int .i64) 2 wc w.heap.size (fun k_ => OB_ k_ (.slice Ao29 t109.length co29) ∧ OB_ k_ (.slice Ao35 t143.length co35) ∧ OB_ k_ (.slice Ao44 t124.length co44) ∧ OB_ k_ (.slice Ao184 t160.length co184)) (.slice Ao171 t127.length co171) t151) ∧ Aside0 (Kd.R (Kd.int .i64) 2 wc w.heap.size (fun k_ => OB_ k_ (.slice Ao171 t127.length co171) ∧ OB_ k_ (.slice Ao35 t143.length co35) ∧ OB_ k_ (.slice Ao44 t124.length co44) ∧ OB_ k_ (.slice Ao184 t160.length co184)) (.slice Ao29 t109.length co29) t109) ∧ Aside0 (Kd.R (Kd.int .i64) 2 wc w.heap.size (fun k_ => OB_ k_ (.slice Ao171 t127.length co171) ∧ OB_ k_ (.slice Ao29 t109.length co29) ∧ OB_ k_ (.slice Ao44 t124.length co44) ∧ OB_ k_ (.slice Ao184 t160.length co184)) (.slice Ao35 t143.length co35) t143) ∧ Aside0 (Kd.R (Kd.int .i64) 2 wc w.heap.size (fun k_ => OB_ k_ (.slice Ao171 t127.length co171) ∧ OB_ k_ (.slice Ao29 t109.length co29) ∧ OB_ k_ (.slice Ao35 t143.length co35) ∧ OB_ k_ (.slice Ao184 t160.length co184)) (.slice Ao44 t124.length co44) t149) ∧ Aside0 (Kd.R (Kd.int .i64) 2 wc w.heap.size (fun k_ => OB_ k_ (.slice Ao171 t127.length co171) ∧ OB_ k_ (.slice Ao29 t109.length co29) ∧ OB_ k_ (.slice Ao35 t143.length co35) ∧ OB_ k_ (.slice Ao44 t124.length co44)) (.slice Ao184 t160.length co184) t160) ∧ Aside0 (wc.heap[gb101]? = some (.cells #[(.slice A0_0 l0_0.length c0_0)] 24 (0, 0))) ∧ Aside0 (wc.heap[gb116]? = some (.cells #[(.slice Ao29 t109.length co29)] 26 (0, 0))) ∧ Aside0 (wc.heap[gb120]? = some (.cells #[(.slice Ao35 t143.length co35)] 26 (0, 0))) ∧ Aside0 (wc.heap[gb131]? = some (.cells #[(.slice Ao44 t124.length co44)] 26 (0, 0))) ∧ Aside0 (wc.heap[gb167]? = some (.cells #[(.slice Ao184 t160.length co184)] 26 (0, 0))) ∧ Aside0 (Below w.heap.size w wc))
              case first =>
               have H := HC165.out
               clear HC165
               replace H := Option.bind_eq_some_iff.mp H
               obtain ⟨t168, A1900, H⟩ := H
               replace H : (if t168 = true then ((laws_eqInt64S.f kj89 t163 t112).bind fun t169 => (if t169 = true then (laws_FnExactKeepSign.j2 kj89 t151 t150 (t166 != t115) t149) else (laws_FnExactKeepSign.j2 kj89 t151 t150 true t149))) else (laws_FnExactKeepSign.j2 kj89 t151 t150 true t149)) = some r := H
               have A190 := Aside0.mk A1900
               clear A1900
               by_cases c191 : t168 = true
               ·subst c191
                have H1 : ((laws_eqInt64S.f kj89 t163 t112).bind fun t169 => (if t169 = true then (laws_FnExactKeepSign.j2 kj89 t151 t150 (t166 != t115) t149) else (laws_FnExactKeepSign.j2 kj89 t151 t150 true t149))) = some r := by rw [if_pos rfl] at H; exact H
                clear H
                have H := H1
                clear H1
                replace H := Option.bind_eq_some_iff.mp H
                obtain ⟨t169, A1920, H⟩ := H
                replace H : (if t169 = true then (laws_FnExactKeepSign.j2 kj89 t151 t150 (t166 != t115) t149) else (laws_FnExactKeepSign.j2 kj89 t151 t150 true t149)) = some r := H
                have A192 := Aside0.mk A1920
                clear A1920
                by_cases c193 : t169 = true
                ·subst c193
                 have H1 : (laws_FnExactKeepSign.j2 kj89 t151 t150 (t166 != t115) t149) = some r := by rw [if_pos rfl] at H; exact H
                 clear H
                 have H := H1
                 clear H1
                 have H' := Aside0.mk H
                 clear H
                 have hnb194 := NB167_101.out
                 have hnc194 := NB101_167.out
                 have hnb195 := NB167_116.out
                 have hnc195 := NB116_167.out
                 have hnb196 := NB167_120.out
                 have hnc196 := NB120_167.out
                 have hnb197 := NB167_131.out
                 have hnc197 := NB131_167.out
                 have hcz198_0 : w183.cell? ⟨gb167, 0, none⟩ = some (.slice none 0 0) := (blk_cell BK167.out 0).trans rfl
                 have hfz198_0 := blk_frozen BK167.out 0
                 have hnb199 := NB116_101.out
                 have hnc199 := NB101_116.out
                 have hnb200 := NB116_120.out
                 have hnc200 := NB120_116.out
                 have hnb201 := NB116_131.out
                 have hnc201 := NB131_116.out
                 have hcz202_0 : w183.cell? ⟨gb116, 0, none⟩ = some (.slice Ao29 t109.length co29) := (blk_cell BK116.out 0).trans rfl
                 have hfz202_0 := blk_frozen BK116.out 0
                 go_wp2_with (first | ((with_reducible refine gate_callee (f := 14) rfl ?_); refine goesL_ (some 138) rfl rfl Try.func14 (by kernel_rfl) rfl #[.agg #[.slice Ao184 t160.length co184], .agg #[.slice Ao29 t109.length co29]] rfl (by (try simp only [List.map_toArray, List.map_cons, List.map_nil]); first | done | rfl | (simp only [List.length_drop, List.length_take]; rfl)) ?_; (with_reducible refine (laws_eqSpace.calls kj89 _ _ t160 _ _ t109 true _ ?side1 ?side2 ?side3 ?side4 A190.out).mono ?_); (case side1 => refine (Kd.R_reads' (e := 2) (base := w.heap.size) (ok := fun _ => True) (n := t160.length) (c := co184) ?_).2.2; exact (rb_ (Kd.R_mono (Kd.R_far (p := ⟨gb167, 0, none⟩) (Kd.R_types HO162.out BK167.out (by decide)) (fun _ hk => hk.2) (.slice Ao184 t160.length co184)) (fun _ _ => trivial)))); (case side2 => exact (Kd.R_reads' HO162.out).2.1); (case side3 => refine (Kd.R_reads' (e := 2) (base := w.heap.size) (ok := fun _ => True) (n := t109.length) (c := co29) ?_).2.2; exact (rb_ (Kd.R_mono (Kd.R_far (p := ⟨gb167, 0, none⟩) (Kd.R_types HO_117000.out BK167.out (by decide)) (fun _ hk => hk.2) (.slice Ao184 t160.length co184)) (fun _ _ => trivial)))); (case side4 => exact (Kd.R_reads' HO_117000.out).2.1); rintro e w203 ⟨rfl, hb⟩; refine ⟨_, rfl, ?_⟩; replace HO_11 := a4_ HO_11 BK167 hb; replace HO_16 := a4_ HO_16 BK167 hb; replace HO_117000 := a4_ HO_117000 BK167 hb; replace HO_121000 := a4_ HO_121000 BK167 hb; replace HO_132000 := a4_ HO_132000 BK167 hb; replace HO156 := a4_ HO156 BK167 hb; replace HO159 := a4_ HO159 BK167 hb; replace HO162 := a4_ HO162 BK167 hb; replace HO165 := a4_ HO165 BK167 hb; replace BK101 := a3_ BK101 NB101_167 hb; replace BK116 := a3_ BK116 NB116_167 hb; replace BK120 := a3_ BK120 NB120_167 hb; replace BK131 := a3_ BK131 NB131_167 hb; replace BK167 := Aside0.mk (blk_below (g := gb167) (o := .cells #[.slice Ao184 t160.length co184] 26 (0, 0)) (by (with_reducible repeat (first | refine blk_drewN ?_ _ | refine blk_drew ?_ | refine blk_alloc ?_ _)); refine blk_put (cs := #[.slice none 0 0]) ?_ 0 _ rfl; (with_reducible repeat (first | refine blk_drewN ?_ _ | refine blk_drew ?_ | refine blk_alloc ?_ _)); exact BK167.out) hb); replace HB := Aside0.mk (below_step (gb_ HB.out) hb); (try clear hb); (try clear hb2); (try clear hk); (try clear hi); obtain ⟨Ao204, co204, eo204⟩ := Kd.R_slice HO165.out; subst eo204; obtain ⟨Ao205, co205, eo205⟩ := Kd.R_slice HO_11.out; subst eo205) | (go_at_call 15; (with_reducible refine (laws_eqInt64S.calls kj89 _ _ t163 _ _ t112 true _ ?side1 ?side2 ?side3 ?side4 A192.out).mono ?_); (case side1 => exact c1_ HO165); (case side2 => exact (Kd.R_reads' HO165.out).2.1); (case side3 => exact c1_ HO_11); (case side4 => exact (Kd.R_reads' HO_11.out).2.1); rintro e w' ⟨rfl, ⟨nd, rfl⟩⟩))
                 go_meet
                 case rel => exact ⟨_, ((t166 != t115)), (by first | rfl | (simp; done) | (simp [*]; done)), H', ⟨by have := HJ17.out; have := HJ89.out; first | omega | exact Nat.le_refl _⟩, ⟨by (try simp only [hl121000_89]); (with_reducible repeat (first | apply Kd.R_alloc | apply Kd.R_drewN | apply Kd.R_drew)); exact Kd.R_mono HO_16.out (fun _ hk => by grind)⟩, ⟨by (try simp only [hl121000_89]); (with_reducible repeat (first | apply Kd.R_alloc | apply Kd.R_drewN | apply Kd.R_drew)); exact Kd.R_mono HO_117000.out (fun _ hk => by grind)⟩, ⟨by (try simp only [hl121000_89]); (with_reducible repeat (first | apply Kd.R_alloc | apply Kd.R_drewN | apply Kd.R_drew)); exact Kd.R_mono HO_121000.out (fun _ hk => by grind)⟩, ⟨by (try simp only [hl121000_89]); (with_reducible repeat (first | apply Kd.R_alloc | apply Kd.R_drewN | apply Kd.R_drew)); exact Kd.R_mono HO_132000.out (fun _ hk => by grind)⟩, ⟨by (try simp only [hl121000_89]); (with_reducible repeat (first | apply Kd.R_alloc | apply Kd.R_drewN | apply Kd.R_drew)); exact Kd.R_mono HO162.out (fun _ hk => by grind)⟩, ⟨by (try simp only [hl121000_89]); (with_reducible repeat (first | refine blk_drewN ?_ _ | refine blk_drew ?_ | refine blk_alloc ?_ _)); exact BK101.out⟩, ⟨by (try simp only [hl121000_89]); (with_reducible repeat (first | refine blk_drewN ?_ _ | refine blk_drew ?_ | refine blk_alloc ?_ _)); exact BK116.out⟩, ⟨by (try simp only [hl121000_89]); (with_reducible repeat (first | refine blk_drewN ?_ _ | refine blk_drew ?_ | refine blk_alloc ?_ _)); exact BK120.out⟩, ⟨by (try simp only [hl121000_89]); (with_reducible repeat (first | refine blk_drewN ?_ _ | refine blk_drew ?_ | refine blk_alloc ?_ _)); exact BK131.out⟩, ⟨by (try simp only [hl121000_89]); (with_reducible repeat (first | refine blk_drewN ?_ _ | refine blk_drew ?_ | refine blk_alloc ?_ _)); exact BK167.out⟩, ⟨gb_ HB.out⟩⟩
                ·replace c193 := Bool.eq_false_iff.mpr c193
                 subst c193
                 have H1 : (laws_FnExactKeepSign.j2 kj89 t151 t150 true t149) = some r := by rw [if_neg (show ¬ (false = true) by decide)] at H; exact H
                 clear H
                 have H := H1
                 clear H1
                 have H' := Aside0.mk H
                 clear H
                 have hnb206 := NB167_101.out
                 have hnc206 := NB101_167.out
                 have hnb207 := NB167_116.out
                 have hnc207 := NB116_167.out
                 have hnb208 := NB167_120.out
                 have hnc208 := NB120_167.out
                 have hnb209 := NB167_131.out
                 have hnc209 := NB131_167.out
                 have hcz210_0 : w183.cell? ⟨gb167, 0, none⟩ = some (.slice none 0 0) := (blk_cell BK167.out 0).trans rfl
                 have hfz210_0 := blk_frozen BK167.out 0
                 have hnb211 := NB116_101.out
                 have hnc211 := NB101_116.out
                 have hnb212 := NB116_120.out
                 have hnc212 := NB120_116.out
                 have hnb213 := NB116_131.out
                 have hnc213 := NB131_116.out
                 have hcz214_0 : w183.cell? ⟨gb116, 0, none⟩ = some (.slice Ao29 t109.length co29) := (blk_cell BK116.out 0).trans rfl
                 have hfz214_0 := blk_frozen BK116.out 0
                 go_wp2_with (first | ((with_reducible refine gate_callee (f := 14) rfl ?_); refine goesL_ (some 138) rfl rfl Try.func14 (by kernel_rfl) rfl #[.agg #[.slice Ao184 t160.length co184], .agg #[.slice Ao29 t109.length co29]] rfl (by (try simp only [List.map_toArray, List.map_cons, List.map_nil]); first | done | rfl | (simp only [List.length_drop, List.length_take]; rfl)) ?_; (with_reducible refine (laws_eqSpace.calls kj89 _ _ t160 _ _ t109 true _ ?side1 ?side2 ?side3 ?side4 A190.out).mono ?_); (case side1 => refine (Kd.R_reads' (e := 2) (base := w.heap.size) (ok := fun _ => True) (n := t160.length) (c := co184) ?_).2.2; exact (rb_ (Kd.R_mono (Kd.R_far (p := ⟨gb167, 0, none⟩) (Kd.R_types HO162.out BK167.out (by decide)) (fun _ hk => hk.2) (.slice Ao184 t160.length co184)) (fun _ _ => trivial)))); (case side2 => exact (Kd.R_reads' HO162.out).2.1); (case side3 => refine (Kd.R_reads' (e := 2) (base := w.heap.size) (ok := fun _ => True) (n := t109.length) (c := co29) ?_).2.2; exact (rb_ (Kd.R_mono (Kd.R_far (p := ⟨gb167, 0, none⟩) (Kd.R_types HO_117000.out BK167.out (by decide)) (fun _ hk => hk.2) (.slice Ao184 t160.length co184)) (fun _ _ => trivial)))); (case side4 => exact (Kd.R_reads' HO_117000.out).2.1); rintro e w215 ⟨rfl, hb⟩; refine ⟨_, rfl, ?_⟩; replace HO_11 := a4_ HO_11 BK167 hb; replace HO_16 := a4_ HO_16 BK167 hb; replace HO_117000 := a4_ HO_117000 BK167 hb; replace HO_121000 := a4_ HO_121000 BK167 hb; replace HO_132000 := a4_ HO_132000 BK167 hb; replace HO156 := a4_ HO156 BK167 hb; replace HO159 := a4_ HO159 BK167 hb; replace HO162 := a4_ HO162 BK167 hb; replace HO165 := a4_ HO165 BK167 hb; replace BK101 := a3_ BK101 NB101_167 hb; replace BK116 := a3_ BK116 NB116_167 hb; replace BK120 := a3_ BK120 NB120_167 hb; replace BK131 := a3_ BK131 NB131_167 hb; replace BK167 := Aside0.mk (blk_below (g := gb167) (o := .cells #[.slice Ao184 t160.length co184] 26 (0, 0)) (by (with_reducible repeat (first | refine blk_drewN ?_ _ | refine blk_drew ?_ | refine blk_alloc ?_ _)); refine blk_put (cs := #[.slice none 0 0]) ?_ 0 _ rfl; (with_reducible repeat (first | refine blk_drewN ?_ _ | refine blk_drew ?_ | refine blk_alloc ?_ _)); exact BK167.out) hb); replace HB := Aside0.mk (below_step (gb_ HB.out) hb); (try clear hb); (try clear hb2); (try clear hk); (try clear hi); obtain ⟨Ao216, co216, eo216⟩ := Kd.R_slice HO165.out; subst eo216; obtain ⟨Ao217, co217, eo217⟩ := Kd.R_slice HO_11.out; subst eo217) | (go_at_call 15; (with_reducible refine (laws_eqInt64S.calls kj89 _ _ t163 _ _ t112 false _ ?side1 ?side2 ?side3 ?side4 A192.out).mono ?_); (case side1 => exact c1_ HO165); (case side2 => exact (Kd.R_reads' HO165.out).2.1); (case side3 => exact c1_ HO_11); (case side4 => exact (Kd.R_reads' HO_11.out).2.1); rintro e w' ⟨rfl, ⟨nd, rfl⟩⟩))
                 go_meet
                 case rel => exact ⟨_, (true), (by first | rfl | (simp; done) | (simp [*]; done)), H', ⟨by have := HJ17.out; have := HJ89.out; first | omega | exact Nat.le_refl _⟩, ⟨by (try simp only [hl121000_89]); (with_reducible repeat (first | apply Kd.R_alloc | apply Kd.R_drewN | apply Kd.R_drew)); exact Kd.R_mono HO_16.out (fun _ hk => by grind)⟩, ⟨by (try simp only [hl121000_89]); (with_reducible repeat (first | apply Kd.R_alloc | apply Kd.R_drewN | apply Kd.R_drew)); exact Kd.R_mono HO_117000.out (fun _ hk => by grind)⟩, ⟨by (try simp only [hl121000_89]); (with_reducible repeat (first | apply Kd.R_alloc | apply Kd.R_drewN | apply Kd.R_drew)); exact Kd.R_mono HO_121000.out (fun _ hk => by grind)⟩, ⟨by (try simp only [hl121000_89]); (with_reducible repeat (first | apply Kd.R_alloc | apply Kd.R_drewN | apply Kd.R_drew)); exact Kd.R_mono HO_132000.out (fun _ hk => by grind)⟩, ⟨by (try simp only [hl121000_89]); (with_reducible repeat (first | apply Kd.R_alloc | apply Kd.R_drewN | apply Kd.R_drew)); exact Kd.R_mono HO162.out (fun _ hk => by grind)⟩, ⟨by (try simp only [hl121000_89]); (with_reducible repeat (first | refine blk_drewN ?_ _ | refine blk_drew ?_ | refine blk_alloc ?_ _)); exact BK101.out⟩, ⟨by (try simp only [hl121000_89]); (with_reducible repeat (first | refine blk_drewN ?_ _ | refine blk_drew ?_ | refine blk_alloc ?_ _)); exact BK116.out⟩, ⟨by (try simp only [hl121000_89]); (with_reducible repeat (first | refine blk_drewN ?_ _ | refine blk_drew ?_ | refine blk_alloc ?_ _)); exact BK120.out⟩, ⟨by (try simp only [hl121000_89]); (with_reducible repeat (first | refine blk_drewN ?_ _ | refine blk_drew ?_ | refine blk_alloc ?_ _)); exact BK131.out⟩, ⟨by (try simp only [hl121000_89]); (with_reducible repeat (first | refine blk_drewN ?_ _ | refine blk_drew ?_ | refine blk_alloc ?_ _)); exact BK167.out⟩, ⟨gb_ HB.out⟩⟩
               ·replace c191 := Bool.eq_false_iff.mpr c191
                subst c191
                have H1 : (laws_FnExactKeepSign.j2 kj89 t151 t150 true t149) = some r := by rw [if_neg (show ¬ (false = true) by decide)] at H; exact H
                clear H
                have H := H1
                clear H1
                have H' := Aside0.mk H
                clear H
                have hnb218 := NB167_101.out
                have hnc218 := NB101_167.out
                have hnb219 := NB167_116.out
                have hnc219 := NB116_167.out
                have hnb220 := NB167_120.out
                have hnc220 := NB120_167.out
                have hnb221 := NB167_131.out
                have hnc221 := NB131_167.out
                have hcz222_0 : w183.cell? ⟨gb167, 0, none⟩ = some (.slice none 0 0) := (blk_cell BK167.out 0).trans rfl
                have hfz222_0 := blk_frozen BK167.out 0
                have hnb223 := NB116_101.out
                have hnc223 := NB101_116.out
                have hnb224 := NB116_120.out
                have hnc224 := NB120_116.out
                have hnb225 := NB116_131.out
                have hnc225 := NB131_116.out
                have hcz226_0 : w183.cell? ⟨gb116, 0, none⟩ = some (.slice Ao29 t109.length co29) := (blk_cell BK116.out 0).trans rfl
                have hfz226_0 := blk_frozen BK116.out 0
                go_wp2_with (first | ((with_reducible refine gate_callee (f := 14) rfl ?_); refine goesL_ (some 138) rfl rfl Try.func14 (by kernel_rfl) rfl #[.agg #[.slice Ao184 t160.length co184], .agg #[.slice Ao29 t109.length co29]] rfl (by (try simp only [List.map_toArray, List.map_cons, List.map_nil]); first | done | rfl | (simp only [List.length_drop, List.length_take]; rfl)) ?_; (with_reducible refine (laws_eqSpace.calls kj89 _ _ t160 _ _ t109 false _ ?side1 ?side2 ?side3 ?side4 A190.out).mono ?_); (case side1 => refine (Kd.R_reads' (e := 2) (base := w.heap.size) (ok := fun _ => True) (n := t160.length) (c := co184) ?_).2.2; exact (rb_ (Kd.R_mono (Kd.R_far (p := ⟨gb167, 0, none⟩) (Kd.R_types HO162.out BK167.out (by decide)) (fun _ hk => hk.2) (.slice Ao184 t160.length co184)) (fun _ _ => trivial)))); (case side2 => exact (Kd.R_reads' HO162.out).2.1); (case side3 => refine (Kd.R_reads' (e := 2) (base := w.heap.size) (ok := fun _ => True) (n := t109.length) (c := co29) ?_).2.2; exact (rb_ (Kd.R_mono (Kd.R_far (p := ⟨gb167, 0, none⟩) (Kd.R_types HO_117000.out BK167.out (by decide)) (fun _ hk => hk.2) (.slice Ao184 t160.length co184)) (fun _ _ => trivial)))); (case side4 => exact (Kd.R_reads' HO_117000.out).2.1); rintro e w227 ⟨rfl, hb⟩; refine ⟨_, rfl, ?_⟩; replace HO_11 := a4_ HO_11 BK167 hb; replace HO_16 := a4_ HO_16 BK167 hb; replace HO_117000 := a4_ HO_117000 BK167 hb; replace HO_121000 := a4_ HO_121000 BK167 hb; replace HO_132000 := a4_ HO_132000 BK167 hb; replace HO156 := a4_ HO156 BK167 hb; replace HO159 := a4_ HO159 BK167 hb; replace HO162 := a4_ HO162 BK167 hb; replace HO165 := a4_ HO165 BK167 hb; replace BK101 := a3_ BK101 NB101_167 hb; replace BK116 := a3_ BK116 NB116_167 hb; replace BK120 := a3_ BK120 NB120_167 hb; replace BK131 := a3_ BK131 NB131_167 hb; replace BK167 := Aside0.mk (blk_below (g := gb167) (o := .cells #[.slice Ao184 t160.length co184] 26 (0, 0)) (by (with_reducible repeat (first | refine blk_drewN ?_ _ | refine blk_drew ?_ | refine blk_alloc ?_ _)); refine blk_put (cs := #[.slice none 0 0]) ?_ 0 _ rfl; (with_reducible repeat (first | refine blk_drewN ?_ _ | refine blk_drew ?_ | refine blk_alloc ?_ _)); exact BK167.out) hb); replace HB := Aside0.mk (below_step (gb_ HB.out) hb); (try clear hb); (try clear hb2); (try clear hk); (try clear hi)))
                go_meet
                case rel => exact ⟨_, (true), (by first | rfl | (simp; done) | (simp [*]; done)), H', ⟨by have := HJ17.out; have := HJ89.out; first | omega | exact Nat.le_refl _⟩, ⟨by (try simp only [hl121000_89]); (with_reducible repeat (first | apply Kd.R_alloc | apply Kd.R_drewN | apply Kd.R_drew)); exact Kd.R_mono HO_16.out (fun _ hk => by grind)⟩, ⟨by (try simp only [hl121000_89]); (with_reducible repeat (first | apply Kd.R_alloc | apply Kd.R_drewN | apply Kd.R_drew)); exact Kd.R_mono HO_117000.out (fun _ hk => by grind)⟩, ⟨by (try simp only [hl121000_89]); (with_reducible repeat (first | apply Kd.R_alloc | apply Kd.R_drewN | apply Kd.R_drew)); exact Kd.R_mono HO_121000.out (fun _ hk => by grind)⟩, ⟨by (try simp only [hl121000_89]); (with_reducible repeat (first | apply Kd.R_alloc | apply Kd.R_drewN | apply Kd.R_drew)); exact Kd.R_mono HO_132000.out (fun _ hk => by grind)⟩, ⟨by (try simp only [hl121000_89]); (with_reducible repeat (first | apply Kd.R_alloc | apply Kd.R_drewN | apply Kd.R_drew)); exact Kd.R_mono HO162.out (fun _ hk => by grind)⟩, ⟨by (try simp only [hl121000_89]); (with_reducible repeat (first | refine blk_drewN ?_ _ | refine blk_drew ?_ | refine blk_alloc ?_ _)); exact BK101.out⟩, ⟨by (try simp only [hl121000_89]); (with_reducible repeat (first | refine blk_drewN ?_ _ | refine blk_drew ?_ | refine blk_alloc ?_ _)); exact BK116.out⟩, ⟨by (try simp only [hl121000_89]); (with_reducible repeat (first | refine blk_drewN ?_ _ | refine blk_drew ?_ | refine blk_alloc ?_ _)); exact BK120.out⟩, ⟨by (try simp only [hl121000_89]); (with_reducible repeat (first | refine blk_drewN ?_ _ | refine blk_drew ?_ | refine blk_alloc ?_ _)); exact BK131.out⟩, ⟨by (try simp only [hl121000_89]); (with_reducible repeat (first | refine blk_drewN ?_ _ | refine blk_drew ?_ | refine blk_alloc ?_ _)); exact BK167.out⟩, ⟨gb_ HB.out⟩⟩
              case rest =>
               clear HC165
               try clear c1
               try clear c2
               try clear p2
               try clear c3
               try clear c4
               try clear c5
               try clear c5b0
               try clear c5b1
               try clear c6
               try clear c7
               try clear c8
               try clear c8b0
               try clear c9
               try clear c10
               try clear c11
               try clear c12
               try clear c13
               try clear c14
               try clear c15
               try clear c16
               try clear c17
               try clear c18
               try clear c19
               try clear c20
               try clear c21
               try clear c22
               try clear c28
               try clear c29
               try clear c30
               try clear c36
               try clear c37
               try clear c45
               try clear c46
               try clear c47
               try clear c50
               try clear c52
               try clear c53
               try clear c54
               try clear c55
               try clear c57
               try clear c58
               try clear c63
               try clear c64
               try clear c65
               try clear c67
               try clear c68
               try clear c73
               try clear c74
               try clear c75
               try clear c77
               try clear c78
               try clear c81
               try clear c84
               try clear c87
               try clear c97
               try clear c98
               try clear c99
               try clear c103
               try clear c103b0
               try clear c105
               try clear c107
               try clear c108
               try clear c109
               try clear c110
               try clear c112
               try clear c113
               try clear c118
               try clear c119
               try clear c120
               try clear c122
               try clear c123
               try clear c128
               try clear c129
               try clear c130
               try clear c132
               try clear c133
               try clear c136
               try clear c140
               try clear c140b0
               try clear c141
               try clear c142
               try clear c143
               try clear c151
               try clear c151b0
               try clear c152
               try clear c153
               try clear c154
               try clear c161
               try clear c161b0
               try clear c161b1
               try clear c166
               try clear c167
               try clear c168
               try clear c175
               try clear c176
               try clear c185
               try clear c186
               try clear c187
               try clear c188
               try clear c191
               try clear c193
               try clear c194
               try clear c195
               try clear c196
               try clear c197
               try clear c199
               try clear c200
               try clear c201
               try clear c206
               try clear c207
               try clear c208
               try clear c209
               try clear c211
               try clear c212
               try clear c213
               try clear c218
               try clear c219
               try clear c220
               try clear c221
               try clear c223
               try clear c224
               try clear c225
               try clear hcz100_0
               try clear hcz10_0
               try clear hcz111_0
               try clear hcz114_0
               try clear hcz121_0
               try clear hcz124_0
               try clear hcz131_0
               try clear hcz134_0
               try clear hcz144_0
               try clear hcz148_0
               try clear hcz155_0
               try clear hcz159_0
               try clear hcz169_0
               try clear hcz173_0
               try clear hcz177_0
               try clear hcz189_0
               try clear hcz198_0
               try clear hcz202_0
               try clear hcz20_0
               try clear hcz210_0
               try clear hcz214_0
               try clear hcz222_0
               try clear hcz226_0
               try clear hcz22_0
               try clear hcz31_0
               try clear hcz32_0
               try clear hcz38_0
               try clear hcz40_0
               try clear hcz48_0
               try clear hcz56_0
               try clear hcz59_0
               try clear hcz66_0
               try clear hcz69_0
               try clear hcz76_0
               try clear hcz79_0
               try clear hfz100_0
               try clear hfz10_0
               try clear hfz111_0
               try clear hfz114_0
               try clear hfz121_0
               try clear hfz124_0
               try clear hfz131_0
               try clear hfz134_0
               try clear hfz144_0
               try clear hfz148_0
               try clear hfz155_0
               try clear hfz159_0
               try clear hfz169_0
               try clear hfz173_0
               try clear hfz177_0
               try clear hfz189_0
               try clear hfz198_0
               try clear hfz202_0
               try clear hfz20_0
               try clear hfz210_0
               try clear hfz214_0
               try clear hfz222_0
               try clear hfz226_0
               try clear hfz22_0
               try clear hfz31_0
               try clear hfz32_0
               try clear hfz38_0
               try clear hfz40_0
               try clear hfz48_0
               try clear hfz56_0
               try clear hfz59_0
               try clear hfz66_0
               try clear hfz69_0
               try clear hfz76_0
               try clear hfz79_0
               try clear p2
               obtain ⟨kq, x150_164, rfl, HA, HJ164, HO_16, HO_117000, HO_121000, HO_132000, HO_168000, BK101, BK116, BK120, BK131, BK167, HB⟩ := hcut
               have hl16_164 := (Kd.R_reads' HO_16.out).1
               rw [hl16_164] at HO_16
               (try simp only [hl16_164])
               (try simp only [hl16_164] at BK101)
               (try simp only [hl16_164] at BK116)
               (try simp only [hl16_164] at BK120)
               (try simp only [hl16_164] at BK131)
               (try simp only [hl16_164] at BK167)
               (try simp only [hl16_164] at HO_117000)
               (try simp only [hl16_164] at HO_121000)
               (try simp only [hl16_164] at HO_132000)
               (try simp only [hl16_164] at HO_168000)
               have hl132000_164 := (Kd.R_reads' HO_132000.out).1
               rw [hl132000_164] at HO_132000
               (try simp only [hl132000_164])
               (try simp only [hl132000_164] at BK101)
               (try simp only [hl132000_164] at BK116)
               (try simp only [hl132000_164] at BK120)
               (try simp only [hl132000_164] at BK131)
               (try simp only [hl132000_164] at BK167)
               (try simp only [hl132000_164] at HO_16)
               (try simp only [hl132000_164] at HO_117000)
               (try simp only [hl132000_164] at HO_121000)
               (try simp only [hl132000_164] at HO_168000)
               cases kq with
               | zero => exact absurd HA.out (by simp [laws_FnExactKeepSign.j2])
               | succ kj164 =>
                have H := HA.out
                clear HA
                simp only [laws_FnExactKeepSign.j2] at H
                by_cases c228 : x150_164 = true
                ·subst c228
                 have H1 : (some false) = some r := by rw [if_pos rfl] at H; exact H
                 clear H
                 have H := H1
                 clear H1
                 obtain rfl := Option.some.inj H
                 go_wp2
                 go_ret
                 exact ⟨by first | rfl | (simp [errW_none, errW_some] <;> rfl) | (simp [*, errW_none, errW_some] <;> rfl), gb_ HB.out⟩
                ·replace c228 := Bool.eq_false_iff.mpr c228
                 subst c228
                 have H1 : ((laws_heldSpace.f kj164 t149 1).bind fun t170 => (if t170 < 0 then (some false) else ((laws_heldInt64S.f kj164 t151 t170).bind fun t171 => (if t171 < 0 then (some false) else (if t171 = t150 then (some true) else (some false)))))) = some r := by rw [if_neg (show ¬ (false = true) by decide)] at H; exact H
                 clear H
                 have H := H1
                 clear H1
                 replace H := Option.bind_eq_some_iff.mp H
                 obtain ⟨t170, A2290, H⟩ := H
                 replace H : (if t170 < 0 then (some false) else ((laws_heldInt64S.f kj164 t151 t170).bind fun t171 => (if t171 < 0 then (some false) else (if t171 = t150 then (some true) else (some false))))) = some r := H
                 have A229 := Aside0.mk A2290
                 clear A2290
                 by_cases c230 : t170 < 0
                 ·rw [if_pos c230] at H
                  have c230b0 : decide (t170 < 0) = true := decide_eq_true c230
                  clear c230
                  obtain rfl := Option.some.inj H
                  have hnb231 := NB131_101.out
                  have hnc231 := NB101_131.out
                  have hnb232 := NB131_116.out
                  have hnc232 := NB116_131.out
                  have hnb233 := NB131_120.out
                  have hnc233 := NB120_131.out
                  have hnb234 := NB131_167.out
                  have hnc234 := NB167_131.out
                  have hcz235_0 : wc.cell? ⟨gb131, 0, none⟩ = some (.slice Ao44 t149.length co44) := (blk_cell BK131.out 0).trans rfl
                  have hfz235_0 := blk_frozen BK131.out 0
                  go_wp2_with (first | ((with_reducible refine gate_callee (f := 18) rfl ?_); refine goesL_ (some 153) rfl rfl Try.func18 (by kernel_rfl) rfl #[.agg #[.slice Ao44 t149.length co44], .int .i64 1] rfl (by (try simp only [List.map_toArray, List.map_cons, List.map_nil]); first | done | rfl | (simp only [List.length_drop, List.length_take]; rfl)) ?_; (with_reducible refine (laws_heldSpace.calls kj164 _ _ t149 1 t170 _ ?side1 ?side2 A229.out).mono ?_); (case side1 => exact c1_ HO_132000); (case side2 => exact (Kd.R_reads' HO_132000.out).2.1); rintro e w236 ⟨rfl, hb⟩; refine ⟨_, rfl, ?_⟩; replace HO_16 := a1_ HO_16 hb; replace HO_117000 := a1_ HO_117000 hb; replace HO_121000 := a1_ HO_121000 hb; replace HO_132000 := a1_ HO_132000 hb; replace HO_168000 := a1_ HO_168000 hb; replace BK101 := a2_ BK101 hb; replace BK116 := a2_ BK116 hb; replace BK120 := a2_ BK120 hb; replace BK131 := a2_ BK131 hb; replace BK167 := a2_ BK167 hb; replace HB := Aside0.mk (below_step (gb_ HB.out) hb); (try clear hb); (try clear hb2); (try clear hk); (try clear hi)))
                  go_ret
                  exact ⟨by first | rfl | (simp [errW_none, errW_some] <;> rfl) | (simp [*, errW_none, errW_some] <;> rfl), gb_ HB.out⟩
                 ·rw [if_neg c230] at H
                  have c230b0 : decide (t170 < 0) = false := decide_eq_false c230
                  clear c230
                  replace H := Option.bind_eq_some_iff.mp H
                  obtain ⟨t171, A2370, H⟩ := H
                  replace H : (if t171 < 0 then (some false) else (if t171 = t150 then (some true) else (some false))) = some r := H
                  have A237 := Aside0.mk A2370
                  clear A2370
                  by_cases c238 : t171 < 0
                  ·rw [if_pos c238] at H
                   have c238b0 : decide (t171 < 0) = true := decide_eq_true c238
                   clear c238
                   obtain rfl := Option.some.inj H
                   have hnb239 := NB131_101.out
                   have hnc239 := NB101_131.out
                   have hnb240 := NB131_116.out
                   have hnc240 := NB116_131.out
                   have hnb241 := NB131_120.out
                   have hnc241 := NB120_131.out
                   have hnb242 := NB131_167.out
                   have hnc242 := NB167_131.out
                   have hcz243_0 : wc.cell? ⟨gb131, 0, none⟩ = some (.slice Ao44 t149.length co44) := (blk_cell BK131.out 0).trans rfl
                   have hfz243_0 := blk_frozen BK131.out 0
                   go_wp2_with (first | ((with_reducible refine gate_callee (f := 18) rfl ?_); refine goesL_ (some 153) rfl rfl Try.func18 (by kernel_rfl) rfl #[.agg #[.slice Ao44 t149.length co44], .int .i64 1] rfl (by (try simp only [List.map_toArray, List.map_cons, List.map_nil]); first | done | rfl | (simp only [List.length_drop, List.length_take]; rfl)) ?_; (with_reducible refine (laws_heldSpace.calls kj164 _ _ t149 1 t170 _ ?side1 ?side2 A229.out).mono ?_); (case side1 => exact c1_ HO_132000); (case side2 => exact (Kd.R_reads' HO_132000.out).2.1); rintro e w244 ⟨rfl, hb⟩; refine ⟨_, rfl, ?_⟩; replace HO_16 := a1_ HO_16 hb; replace HO_117000 := a1_ HO_117000 hb; replace HO_121000 := a1_ HO_121000 hb; replace HO_132000 := a1_ HO_132000 hb; replace HO_168000 := a1_ HO_168000 hb; replace BK101 := a2_ BK101 hb; replace BK116 := a2_ BK116 hb; replace BK120 := a2_ BK120 hb; replace BK131 := a2_ BK131 hb; replace BK167 := a2_ BK167 hb; replace HB := Aside0.mk (below_step (gb_ HB.out) hb); (try clear hb); (try clear hb2); (try clear hk); (try clear hi)) | ((with_reducible refine gate_callee (f := 19) rfl ?_); refine goesL_ (some 158) rfl rfl Try.func19 (by kernel_rfl) rfl #[.slice Ao171 t151.length co171, .int .i64 t170] rfl (by (try simp only [List.map_toArray, List.map_cons, List.map_nil]); first | done | rfl | (simp only [List.length_drop, List.length_take]; rfl)) ?_; (with_reducible refine (laws_heldInt64S.calls kj164 _ _ t151 t170 t171 _ ?side1 ?side2 A237.out).mono ?_); (case side1 => exact c1_ HO_16); (case side2 => exact (Kd.R_reads' HO_16.out).2.1); rintro e w' ⟨rfl, ⟨nd, rfl⟩⟩; refine ⟨_, rfl, ?_⟩))
                   go_ret
                   exact ⟨by first | rfl | (simp [errW_none, errW_some] <;> rfl) | (simp [*, errW_none, errW_some] <;> rfl), gb_ HB.out⟩
                  ·rw [if_neg c238] at H
                   have c238b0 : decide (t171 < 0) = false := decide_eq_false c238
                   clear c238
                   by_cases c245 : t171 = t150
                   ·rw [if_pos c245] at H
                    have c245b0 : (t171 == t150) = true := beq_iff_eq.mpr c245
                    have c245b1 : (t171 != t150) = false := bne_eq_false_iff_eq.mpr c245
                    clear c245
                    obtain rfl := Option.some.inj H
                    have hnb246 := NB131_101.out
                    have hnc246 := NB101_131.out
                    have hnb247 := NB131_116.out
                    have hnc247 := NB116_131.out
                    have hnb248 := NB131_120.out
                    have hnc248 := NB120_131.out
                    have hnb249 := NB131_167.out
                    have hnc249 := NB167_131.out
                    have hcz250_0 : wc.cell? ⟨gb131, 0, none⟩ = some (.slice Ao44 t149.length co44) := (blk_cell BK131.out 0).trans rfl
                    have hfz250_0 := blk_frozen BK131.out 0
                    go_wp2_with (first | ((with_reducible refine gate_callee (f := 18) rfl ?_); refine goesL_ (some 153) rfl rfl Try.func18 (by kernel_rfl) rfl #[.agg #[.slice Ao44 t149.length co44], .int .i64 1] rfl (by (try simp only [List.map_toArray, List.map_cons, List.map_nil]); first | done | rfl | (simp only [List.length_drop, List.length_take]; rfl)) ?_; (with_reducible refine (laws_heldSpace.calls kj164 _ _ t149 1 t170 _ ?side1 ?side2 A229.out).mono ?_); (case side1 => exact c1_ HO_132000); (case side2 => exact (Kd.R_reads' HO_132000.out).2.1); rintro e w251 ⟨rfl, hb⟩; refine ⟨_, rfl, ?_⟩; replace HO_16 := a1_ HO_16 hb; replace HO_117000 := a1_ HO_117000 hb; replace HO_121000 := a1_ HO_121000 hb; replace HO_132000 := a1_ HO_132000 hb; replace HO_168000 := a1_ HO_168000 hb; replace BK101 := a2_ BK101 hb; replace BK116 := a2_ BK116 hb; replace BK120 := a2_ BK120 hb; replace BK131 := a2_ BK131 hb; replace BK167 := a2_ BK167 hb; replace HB := Aside0.mk (below_step (gb_ HB.out) hb); (try clear hb); (try clear hb2); (try clear hk); (try clear hi)) | ((with_reducible refine gate_callee (f := 19) rfl ?_); refine goesL_ (some 158) rfl rfl Try.func19 (by kernel_rfl) rfl #[.slice Ao171 t151.length co171, .int .i64 t170] rfl (by (try simp only [List.map_toArray, List.map_cons, List.map_nil]); first | done | rfl | (simp only [List.length_drop, List.length_take]; rfl)) ?_; (with_reducible refine (laws_heldInt64S.calls kj164 _ _ t151 t170 t171 _ ?side1 ?side2 A237.out).mono ?_); (case side1 => exact c1_ HO_16); (case side2 => exact (Kd.R_reads' HO_16.out).2.1); rintro e w' ⟨rfl, ⟨nd, rfl⟩⟩; refine ⟨_, rfl, ?_⟩))
                    go_ret
                    exact ⟨by first | rfl | (simp [errW_none, errW_some] <;> rfl) | (simp [*, errW_none, errW_some] <;> rfl), gb_ HB.out⟩
                   ·rw [if_neg c245] at H
                    have c245b0 : (t171 == t150) = false := beq_eq_false_iff_ne.mpr c245
                    have c245b1 : (t171 != t150) = true := bne_iff_ne.mpr c245
                    obtain rfl := Option.some.inj H
                    have hnb252 := NB131_101.out
                    have hnc252 := NB101_131.out
                    have hnb253 := NB131_116.out
                    have hnc253 := NB116_131.out
                    have hnb254 := NB131_120.out
                    have hnc254 := NB120_131.out
                    have hnb255 := NB131_167.out
                    have hnc255 := NB167_131.out
                    have hcz256_0 : wc.cell? ⟨gb131, 0, none⟩ = some (.slice Ao44 t149.length co44) := (blk_cell BK131.out 0).trans rfl
                    have hfz256_0 := blk_frozen BK131.out 0
                    go_wp2_with (first | ((with_reducible refine gate_callee (f := 18) rfl ?_); refine goesL_ (some 153) rfl rfl Try.func18 (by kernel_rfl) rfl #[.agg #[.slice Ao44 t149.length co44], .int .i64 1] rfl (by (try simp only [List.map_toArray, List.map_cons, List.map_nil]); first | done | rfl | (simp only [List.length_drop, List.length_take]; rfl)) ?_; (with_reducible refine (laws_heldSpace.calls kj164 _ _ t149 1 t170 _ ?side1 ?side2 A229.out).mono ?_); (case side1 => exact c1_ HO_132000); (case side2 => exact (Kd.R_reads' HO_132000.out).2.1); rintro e w257 ⟨rfl, hb⟩; refine ⟨_, rfl, ?_⟩; replace HO_16 := a1_ HO_16 hb; replace HO_117000 := a1_ HO_117000 hb; replace HO_121000 := a1_ HO_121000 hb; replace HO_132000 := a1_ HO_132000 hb; replace HO_168000 := a1_ HO_168000 hb; replace BK101 := a2_ BK101 hb; replace BK116 := a2_ BK116 hb; replace BK120 := a2_ BK120 hb; replace BK131 := a2_ BK131 hb; replace BK167 := a2_ BK167 hb; replace HB := Aside0.mk (below_step (gb_ HB.out) hb); (try clear hb); (try clear hb2); (try clear hk); (try clear hi)) | ((with_reducible refine gate_callee (f := 19) rfl ?_); refine goesL_ (some 158) rfl rfl Try.func19 (by kernel_rfl) rfl #[.slice Ao171 t151.length co171, .int .i64 t170] rfl (by (try simp only [List.map_toArray, List.map_cons, List.map_nil]); first | done | rfl | (simp only [List.length_drop, List.length_take]; rfl)) ?_; (with_reducible refine (laws_heldInt64S.calls kj164 _ _ t151 t170 t171 _ ?side1 ?side2 A237.out).mono ?_); (case side1 => exact c1_ HO_16); (case side2 => exact (Kd.R_reads' HO_16.out).2.1); rintro e w' ⟨rfl, ⟨nd, rfl⟩⟩; refine ⟨_, rfl, ?_⟩))
                    go_ret
                    exact ⟨by first | rfl | (simp [errW_none, errW_some] <;> rfl) | (simp [*, errW_none, errW_some] <;> rfl), gb_ HB.out⟩
             ·rw [if_neg c161] at H
              have c161b0 : (t153 == t150) = false := beq_eq_false_iff_ne.mpr c161
              have c161b1 : (t153 != t150) = true := bne_iff_ne.mpr c161
              obtain rfl := Option.some.inj H
              have hnb258 := NB131_101.out
              have hnc258 := NB101_131.out
              have hnb259 := NB131_116.out
              have hnc259 := NB116_131.out
              have hnb260 := NB131_120.out
              have hnc260 := NB120_131.out
              have hcz261_0 : wc.cell? ⟨gb131, 0, none⟩ = some (.slice Ao44 t124.length co44) := (blk_cell BK131.out 0).trans rfl
              have hfz261_0 := blk_frozen BK131.out 0
              go_wp2_with (first | ((with_reducible refine gate_callee (f := 16) rfl ?_); refine goesL_ (some 108) rfl rfl Try.func16 (by kernel_rfl) rfl #[.agg #[.slice Ao44 t124.length co44], .int .i64 1] rfl (by (try simp only [List.map_toArray, List.map_cons, List.map_nil]); first | done | rfl | (simp only [List.length_drop, List.length_take]; rfl)) ?_; (with_reducible refine (laws_markSpace.calls kj89 (fun k_ => some k_ = (.slice Ao44 t124.length co44 : Value).ownBlock) (.slice Ao44 t124.length co44) t124 1 t148 t149 w _ ?side1 ?side2 A137.out).mono ?_); (case side1 => exact gb_ HB.out); (case side2 => exact Kd.R_tight rfl HO_132000.out); rintro e w262 ⟨rfl, hy0, hb, hkp⟩; refine ⟨_, rfl, ?_⟩; replace HO_11 := Aside0.mk (Kd.R_mono (ok' := fun k_ => OB_ k_ v128 ∧ OB_ k_ (.slice Ao29 t109.length co29) ∧ OB_ k_ (.slice Ao35 t143.length co35) ∧ OB_ k_ (.slice Ao44 t124.length co44)) (Kd.R_keptB (HO_11.out) hkp (fun k_ hk_ hs_ => (hk_.2.2.2) hs_)) (fun k_ hk_ => ⟨hk_.1.1, hk_.1.2.1, hk_.1.2.2.1, hk_.1.2.2.2⟩)); replace HO_16 := Aside0.mk (Kd.R_mono (ok' := fun k_ => OB_ k_ v113 ∧ OB_ k_ (.slice Ao29 t109.length co29) ∧ OB_ k_ (.slice Ao35 t143.length co35) ∧ OB_ k_ (.slice Ao44 t124.length co44)) (Kd.R_keptB (HO_16.out) hkp (fun k_ hk_ hs_ => (hk_.2.2.2) hs_)) (fun k_ hk_ => ⟨hk_.1.1, hk_.1.2.1, hk_.1.2.2.1, hk_.1.2.2.2⟩)); replace HO_117000 := Aside0.mk (Kd.R_mono (ok' := fun k_ => OB_ k_ v113 ∧ OB_ k_ v128 ∧ OB_ k_ (.slice Ao35 t143.length co35) ∧ OB_ k_ (.slice Ao44 t124.length co44)) (Kd.R_keptB (HO_117000.out) hkp (fun k_ hk_ hs_ => (hk_.2.2.2) hs_)) (fun k_ hk_ => ⟨hk_.1.1, hk_.1.2.1, hk_.1.2.2.1, hk_.1.2.2.2⟩)); replace HO_121000 := Aside0.mk (Kd.R_mono (ok' := fun k_ => OB_ k_ v113 ∧ OB_ k_ v128 ∧ OB_ k_ (.slice Ao29 t109.length co29) ∧ OB_ k_ (.slice Ao44 t124.length co44)) (Kd.R_keptB (HO_121000.out) hkp (fun k_ hk_ hs_ => (hk_.2.2.2) hs_)) (fun k_ hk_ => ⟨hk_.1.1, hk_.1.2.1, hk_.1.2.2.1, hk_.1.2.2.2⟩)); replace BK101 := a7_ BK101 hkp HO_132000; replace BK116 := a7_ BK116 hkp HO_132000; replace BK120 := a7_ BK120 hkp HO_132000; replace BK131 := a7_ BK131 hkp HO_132000; replace HO_132000 := Aside0.mk (Kd.R_reok rfl hy0 (fun k_ e_ => HO_132000.out.1 k_ e_)); replace HB := Aside0.mk (hb); (try clear hb); (try clear hkp); (try clear hy0); obtain ⟨Ao263, co263, eo263⟩ := Kd.R_slice HO_16.out; subst eo263) | ((with_reducible refine gate_callee (f := 17) rfl ?_); refine goesL_ (some 111) rfl rfl Try.func17 (by kernel_rfl) rfl #[.slice Ao263 t127.length co263, .int .i64 t148] rfl (by (try simp only [List.map_toArray, List.map_cons, List.map_nil]); first | done | rfl | (simp only [List.length_drop, List.length_take]; rfl)) ?_; (with_reducible refine (laws_markInt64S.calls kj89 (fun k_ => some k_ = (.slice Ao263 t127.length co263 : Value).ownBlock) (.slice Ao263 t127.length co263) t127 t148 t150 t151 w _ ?side1 ?side2 A138.out).mono ?_); (case side1 => exact gb_ HB.out); (case side2 => exact Kd.R_tight rfl HO_16.out); rintro e w264 ⟨rfl, hy0, hb, hkp⟩; refine ⟨_, rfl, ?_⟩; replace HO_11 := Aside0.mk (Kd.R_mono (ok' := fun k_ => OB_ k_ (.slice Ao263 t127.length co263) ∧ OB_ k_ (.slice Ao29 t109.length co29) ∧ OB_ k_ (.slice Ao35 t143.length co35) ∧ OB_ k_ (.slice Ao44 t124.length co44)) (Kd.R_keptB (HO_11.out) hkp (fun k_ hk_ hs_ => (hk_.1) hs_)) (fun k_ hk_ => ⟨hk_.1.1, hk_.1.2.1, hk_.1.2.2.1, hk_.1.2.2.2⟩)); replace HO_117000 := Aside0.mk (Kd.R_mono (ok' := fun k_ => OB_ k_ v113 ∧ OB_ k_ (.slice Ao263 t127.length co263) ∧ OB_ k_ (.slice Ao35 t143.length co35) ∧ OB_ k_ (.slice Ao44 t124.length co44)) (Kd.R_keptB (HO_117000.out) hkp (fun k_ hk_ hs_ => (hk_.2.1) hs_)) (fun k_ hk_ => ⟨hk_.1.1, hk_.1.2.1, hk_.1.2.2.1, hk_.1.2.2.2⟩)); replace HO_121000 := Aside0.mk (Kd.R_mono (ok' := fun k_ => OB_ k_ v113 ∧ OB_ k_ (.slice Ao263 t127.length co263) ∧ OB_ k_ (.slice Ao29 t109.length co29) ∧ OB_ k_ (.slice Ao44 t124.length co44)) (Kd.R_keptB (HO_121000.out) hkp (fun k_ hk_ hs_ => (hk_.2.1) hs_)) (fun k_ hk_ => ⟨hk_.1.1, hk_.1.2.1, hk_.1.2.2.1, hk_.1.2.2.2⟩)); replace HO_132000 := Aside0.mk (Kd.R_mono (ok' := fun k_ => OB_ k_ v113 ∧ OB_ k_ (.slice Ao263 t127.length co263) ∧ OB_ k_ (.slice Ao29 t109.length co29) ∧ OB_ k_ (.slice Ao35 t143.length co35)) (Kd.R_keptB (HO_132000.out) hkp (fun k_ hk_ hs_ => (hk_.2.1) hs_)) (fun k_ hk_ => ⟨hk_.1.1, hk_.1.2.1, hk_.1.2.2.1, hk_.1.2.2.2⟩)); replace BK101 := a7_ BK101 hkp HO_16; replace BK116 := a7_ BK116 hkp HO_16; replace BK120 := a7_ BK120 hkp HO_16; replace BK131 := a7_ BK131 hkp HO_16; replace HO_16 := Aside0.mk (Kd.R_reok rfl hy0 (fun k_ e_ => HO_16.out.1 k_ e_)); replace HB := Aside0.mk (hb); (try clear hb); (try clear hkp); (try clear hy0); have hcz265_0 : w264.cell? ⟨gb131, 0, none⟩ = some (.slice Ao44 t124.length co44) := (blk_cell BK131.out 0).trans rfl; have hfz265_0 := blk_frozen BK131.out 0) | ((with_reducible refine gate_callee (f := 18) rfl ?_); refine goesL_ (some 114) rfl rfl Try.func18 (by kernel_rfl) rfl #[.agg #[.slice Ao44 t149.length co44], .int .i64 1] rfl (by (try simp only [List.map_toArray, List.map_cons, List.map_nil]); first | done | (rw [show t149.length = t124.length from (Kd.R_reads' HO_132000.out).1.symm] <;> rfl) | rfl | (simp only [List.length_drop, List.length_take]; rfl)) ?_; (with_reducible refine (laws_heldSpace.calls kj89 _ _ t149 1 t152 _ ?side1 ?side2 A139.out).mono ?_); (case side1 => exact c1_ HO_132000); (case side2 => rw [show t149.length = t124.length from (Kd.R_reads' HO_132000.out).1.symm]; exact (Kd.R_reads' HO_132000.out).2.1); rintro e w266 ⟨rfl, hb⟩; refine ⟨_, rfl, ?_⟩; replace HO_11 := a1_ HO_11 hb; replace HO_16 := a1_ HO_16 hb; replace HO_117000 := a1_ HO_117000 hb; replace HO_121000 := a1_ HO_121000 hb; replace HO_132000 := a1_ HO_132000 hb; replace BK101 := a2_ BK101 hb; replace BK116 := a2_ BK116 hb; replace BK120 := a2_ BK120 hb; replace BK131 := a2_ BK131 hb; replace HB := Aside0.mk (below_step (gb_ HB.out) hb); (try clear hb); (try clear hb2); (try clear hk); (try clear hi)) | ((with_reducible refine gate_callee (f := 19) rfl ?_); refine goesL_ (some 119) rfl rfl Try.func19 (by kernel_rfl) rfl #[.slice Ao263 t151.length co263, .int .i64 t152] rfl (by (try simp only [List.map_toArray, List.map_cons, List.map_nil]); first | done | (rw [show t151.length = t127.length from (Kd.R_reads' HO_16.out).1.symm] <;> rfl) | rfl | (simp only [List.length_drop, List.length_take]; rfl)) ?_; (with_reducible refine (laws_heldInt64S.calls kj89 _ _ t151 t152 t153 _ ?side1 ?side2 A150.out).mono ?_); (case side1 => exact c1_ HO_16); (case side2 => rw [show t151.length = t127.length from (Kd.R_reads' HO_16.out).1.symm]; exact (Kd.R_reads' HO_16.out).2.1); rintro e w' ⟨rfl, ⟨nd, rfl⟩⟩; refine ⟨_, rfl, ?_⟩))
              go_ret
              exact ⟨by first | rfl | (simp [errW_none, errW_some] <;> rfl) | (simp [*, errW_none, errW_some] <;> rfl), gb_ HB.out⟩
       ·replace c87 := Bool.eq_false_iff.mpr c87
        subst c87
        have H1 : (some false) = some r := by rw [if_neg (show ¬ (false = true) by decide)] at H; exact H
        clear H
        have H := H1
        clear H1
        obtain rfl := Option.some.inj H
        try go_wp2
        replace HO_11 := Aside0.mk (Kd.R_drew HO_11.out)
        replace HO_14 := Aside0.mk (Kd.R_drew HO_14.out)
        replace HO_16 := Aside0.mk (Kd.R_drew HO_16.out)
        replace HO_117000 := Aside0.mk (Kd.R_drew HO_117000.out)
        replace HO_121000 := Aside0.mk (Kd.R_drew HO_121000.out)
        replace HO_132000 := Aside0.mk (Kd.R_drew HO_132000.out)
        replace BK101 := Aside0.mk (blk_drew BK101.out)
        replace BK116 := Aside0.mk (blk_drew BK116.out)
        replace BK120 := Aside0.mk (blk_drew BK120.out)
        replace BK131 := Aside0.mk (blk_drew BK131.out)
        replace HB := Aside0.mk (below_drew1 HB.out)
        refine start_ (n := 5) (S := fun w' => w'.cell? ⟨gb120, 0, none⟩ = some (.slice Ao35 t117.length co35) ∧ w'.cell? ⟨gb101, 0, none⟩ = some (.slice A0_0 l0_0.length c0_0)) (ds := []) #[false, false, false, false, false] (by kernel_rfl) rfl rfl ⟨(blk_cell BK120.out 0).trans rfl, (blk_cell BK101.out 0).trans rfl⟩ (fun hHeld => ?_)
        generalize wc.drew = w267 at HO_11 HO_14 HO_16 HO_117000 HO_121000 HO_132000 BK101 BK116 BK120 BK131 HB hHeld ⊢
        refine take_ (i := 0) (N := some 71) (v := ?_) (a' := ?_) #[true, false, false, false, false] rfl rfl (by kernel_rfl) (fun _ _ _ h => h) (Or.inl ⟨by rfl, ?_⟩) hHeld ?_ ?_
        rotate_left
        ·rintro w' ⟨s0, s1⟩
         go_simp
         with_reducible rfl
        rotate_left
        ·simp only [Act.put, List.setIfInBounds_toArray, List.set_cons_zero, List.set_cons_succ, i64_w, i32_w]
         rfl
        refine take_ (i := 1) (N := some 72) (v := ?_) (a' := ?_) #[true, true, false, false, false] rfl rfl (by kernel_rfl) (fun _ _ _ h => h) (Or.inl ⟨by rfl, ?_⟩) hHeld ?_ ?_
        rotate_left
        ·rintro w' ⟨s0, s1⟩
         go_simp
         with_reducible rfl
        rotate_left
        ·simp only [Act.put, List.setIfInBounds_toArray, List.set_cons_zero, List.set_cons_succ, i64_w, i32_w]
         rfl
        refine one_ (i := 2) (N := some 73) #[true, true, true, false, false] rfl rfl (by kernel_rfl) (by decide) (fun K hK => ?_)
        refine goes_ Try.func11 (by kernel_rfl) rfl #[.agg #[.slice A0_0 l0_0.length c0_0]] (by rfl) rfl rfl (by (try simp only [List.map_toArray, List.map_cons, List.map_nil]); first | done | rfl | (simp only [List.length_drop, List.length_take]; rfl)) ?_
        with_reducible refine (laws_toSpace.calls kj17 _ _ l0_0 t134 _ ?side1 ?side2 A82.out).mono ?_
        (case side1 => exact c2_ HR0_0 HB)
        (case side2 => exact HC0_0.out)
        rintro e w268 ⟨v135, rfl, ho0, hb⟩
        refine ⟨_, rfl, ?_⟩
        have HO136 := Aside0.mk (Kd.R_lower (Kd.R_new' (Kd.R_new' (Kd.R_new' (Kd.R_new' (Kd.R_new' (Kd.R_new' ho0 (Kd.R_lt (rb_ HO_11.out))) (Kd.R_lt (rb_ HO_14.out))) (Kd.R_lt (rb_ HO_16.out))) (Kd.R_lt (rb_ HO_117000.out))) (Kd.R_lt (rb_ HO_121000.out))) (Kd.R_lt (rb_ HO_132000.out))) (below_size (gb_ HB.out)))
        replace HO_11 := a5_ HO_11 ho0 hb
        replace HO_14 := a5_ HO_14 ho0 hb
        replace HO_16 := a5_ HO_16 ho0 hb
        replace HO_117000 := a5_ HO_117000 ho0 hb
        replace HO_121000 := a5_ HO_121000 ho0 hb
        replace HO_132000 := a5_ HO_132000 ho0 hb
        replace BK101 := a2_ BK101 hb
        replace BK116 := a2_ BK116 hb
        replace BK120 := a2_ BK120 hb
        replace BK131 := a2_ BK131 hb
        replace HB := Aside0.mk (below_step (gb_ HB.out) hb)
        (try clear hb)
        (try clear hb2)
        (try clear hk)
        (try clear hi)
        (try clear ho0)
        obtain ⟨Ao269, co269, eo269⟩ := Kd.R_slice HO136.out
        (first | subst eo269 | (injection eo269 with f1_ f2_ f3_; have f4_ := f1_.symm; have f5_ := f3_.symm; clear f1_ f2_ f3_; subst f4_; subst f5_))
        refine hK.out _ _ ⟨(blk_cell BK120.out 0).trans rfl, (blk_cell BK101.out 0).trans rfl⟩ (fun hHeld => ?_)
        clear hK K
        refine norm_ (a' := ?_) ?_ ?_
        rotate_left
        ·show Act.put _ (some 73) _ = _
         simp only [Act.put, List.setIfInBounds_toArray, List.set_cons_zero, List.set_cons_succ, i64_w, i32_w]
         rfl
        refine one_ (i := 3) (N := some 74) #[true, true, true, true, false] rfl rfl (by kernel_rfl) (by decide) (fun K hK => ?_)
        refine goes_ Try.func14 (by kernel_rfl) rfl #[.agg #[.slice Ao35 t117.length co35], .agg #[.slice Ao269 t134.length co269]] (by rfl) rfl rfl (by (try simp only [List.map_toArray, List.map_cons, List.map_nil]); first | done | rfl | (simp only [List.length_drop, List.length_take]; rfl)) ?_
        with_reducible refine (laws_eqSpace.calls kj17 _ _ t117 _ _ t134 true _ ?side1 ?side2 ?side3 ?side4 A83.out).mono ?_
        (case side1 => exact c1_ HO_121000)
        (case side2 => exact (Kd.R_reads' HO_121000.out).2.1)
        (case side3 => exact c1_ HO136)
        (case side4 => exact (Kd.R_reads' HO136.out).2.1)
        rintro e w270 ⟨rfl, hb⟩
        refine ⟨_, rfl, ?_⟩
        replace HO_11 := a1_ HO_11 hb
        replace HO_14 := a1_ HO_14 hb
        replace HO_16 := a1_ HO_16 hb
        replace HO_117000 := a1_ HO_117000 hb
        replace HO_121000 := a1_ HO_121000 hb
        replace HO_132000 := a1_ HO_132000 hb
        replace HO136 := a1_ HO136 hb
        replace BK101 := a2_ BK101 hb
        replace BK116 := a2_ BK116 hb
        replace BK120 := a2_ BK120 hb
        replace BK131 := a2_ BK131 hb
        replace HB := Aside0.mk (below_step (gb_ HB.out) hb)
        (try clear hb)
        (try clear hb2)
        (try clear hk)
        (try clear hi)
        refine hK.out _ _ ⟨(blk_cell BK120.out 0).trans rfl, (blk_cell BK101.out 0).trans rfl⟩ (fun hHeld => ?_)
        clear hK K
        refine norm_ (a' := ?_) ?_ ?_
        rotate_left
        ·show Act.put _ (some 74) _ = _
         simp only [Act.put, List.setIfInBounds_toArray, List.set_cons_zero, List.set_cons_succ, i64_w, i32_w]
         rfl
        refine pure_ (i := 4) (N := some 75) (v := ?_) (a' := ?_) #[true, true, true, true, true] rfl rfl (by kernel_rfl) (fun _ _ _ h => h) (Or.inl ⟨by rfl, ?_⟩) ?_ ?_
        rotate_left
        ·intro w'
         go_simp
         with_reducible rfl
        rotate_left
        ·simp only [Act.put, List.setIfInBounds_toArray, List.set_cons_zero, List.set_cons_succ, i64_w, i32_w]
         rfl
        refine done_ (by kernel_rfl) ?_
        try go_wp2_with (first | ((with_reducible refine gate_callee (f := 12) rfl ?_); refine goesL_ (some 78) rfl rfl Try.func12 (by kernel_rfl) rfl #[.slice A1 l1.length c1] rfl (by (try simp only [List.map_toArray, List.map_cons, List.map_nil]); first | done | rfl | (simp only [List.length_drop, List.length_take]; rfl)) ?_; (with_reducible refine (laws_toInt64S.calls kj17 _ _ l1 t138 _ ?side1 ?side2 A85.out).mono ?_); (case side1 => exact c2_ HR1 HB); (case side2 => exact HC1.out); rintro e w271 ⟨v139, rfl, ho0, hb⟩; refine ⟨_, rfl, ?_⟩; have HO140 := Aside0.mk (Kd.R_lower (Kd.R_new' (Kd.R_new' (Kd.R_new' (Kd.R_new' (Kd.R_new' (Kd.R_new' (Kd.R_new' ho0 (Kd.R_lt (rb_ HO_11.out))) (Kd.R_lt (rb_ HO_14.out))) (Kd.R_lt (rb_ HO_16.out))) (Kd.R_lt (rb_ HO_117000.out))) (Kd.R_lt (rb_ HO_121000.out))) (Kd.R_lt (rb_ HO_132000.out))) (Kd.R_lt (rb_ HO136.out))) (below_size (gb_ HB.out))); replace HO_11 := a5_ HO_11 ho0 hb; replace HO_14 := a5_ HO_14 ho0 hb; replace HO_16 := a5_ HO_16 ho0 hb; replace HO_117000 := a5_ HO_117000 ho0 hb; replace HO_121000 := a5_ HO_121000 ho0 hb; replace HO_132000 := a5_ HO_132000 ho0 hb; replace HO136 := a5_ HO136 ho0 hb; replace BK101 := a2_ BK101 hb; replace BK116 := a2_ BK116 hb; replace BK120 := a2_ BK120 hb; replace BK131 := a2_ BK131 hb; replace HB := Aside0.mk (below_step (gb_ HB.out) hb); (try clear hb); (try clear hb2); (try clear hk); (try clear hi); (try clear ho0); obtain ⟨Ao272, co272, eo272⟩ := Kd.R_slice HO140.out; subst eo272) | ((with_reducible refine gate_callee (f := 15) rfl ?_); refine goesL_ (some 79) rfl rfl Try.func15 (by kernel_rfl) rfl #[.slice Ao41 t121.length co41, .slice Ao272 t138.length co272] rfl (by (try simp only [List.map_toArray, List.map_cons, List.map_nil]); first | done | rfl | (simp only [List.length_drop, List.length_take]; rfl)) ?_; (with_reducible refine (laws_eqInt64S.calls kj17 _ _ t121 _ _ t138 false _ ?side1 ?side2 ?side3 ?side4 A86.out).mono ?_); (case side1 => exact c1_ HO_14); (case side2 => exact (Kd.R_reads' HO_14.out).2.1); (case side3 => exact c1_ HO140); (case side4 => exact (Kd.R_reads' HO140.out).2.1); rintro e w' ⟨rfl, ⟨nd, rfl⟩⟩; refine ⟨_, rfl, ?_⟩))
        go_ret
        exact ⟨by first | rfl | (simp [errW_none, errW_some] <;> rfl) | (simp [*, errW_none, errW_some] <;> rfl), gb_ HB.out⟩
      ·replace c84 := Bool.eq_false_iff.mpr c84
       subst c84
       have H1 : (some false) = some r := by rw [if_neg (show ¬ (false = true) by decide)] at H; exact H
       clear H
       have H := H1
       clear H1
       obtain rfl := Option.some.inj H
       try go_wp2
       replace HO_11 := Aside0.mk (Kd.R_drew HO_11.out)
       replace HO_14 := Aside0.mk (Kd.R_drew HO_14.out)
       replace HO_16 := Aside0.mk (Kd.R_drew HO_16.out)
       replace HO_117000 := Aside0.mk (Kd.R_drew HO_117000.out)
       replace HO_121000 := Aside0.mk (Kd.R_drew HO_121000.out)
       replace HO_132000 := Aside0.mk (Kd.R_drew HO_132000.out)
       replace BK101 := Aside0.mk (blk_drew BK101.out)
       replace BK116 := Aside0.mk (blk_drew BK116.out)
       replace BK120 := Aside0.mk (blk_drew BK120.out)
       replace BK131 := Aside0.mk (blk_drew BK131.out)
       replace HB := Aside0.mk (below_drew1 HB.out)
       refine start_ (n := 5) (S := fun w' => w'.cell? ⟨gb120, 0, none⟩ = some (.slice Ao35 t117.length co35) ∧ w'.cell? ⟨gb101, 0, none⟩ = some (.slice A0_0 l0_0.length c0_0)) (ds := []) #[false, false, false, false, false] (by kernel_rfl) rfl rfl ⟨(blk_cell BK120.out 0).trans rfl, (blk_cell BK101.out 0).trans rfl⟩ (fun hHeld => ?_)
       generalize wc.drew = w273 at HO_11 HO_14 HO_16 HO_117000 HO_121000 HO_132000 BK101 BK116 BK120 BK131 HB hHeld ⊢
       refine take_ (i := 0) (N := some 71) (v := ?_) (a' := ?_) #[true, false, false, false, false] rfl rfl (by kernel_rfl) (fun _ _ _ h => h) (Or.inl ⟨by rfl, ?_⟩) hHeld ?_ ?_
       rotate_left
       ·rintro w' ⟨s0, s1⟩
        go_simp
        with_reducible rfl
       rotate_left
       ·simp only [Act.put, List.setIfInBounds_toArray, List.set_cons_zero, List.set_cons_succ, i64_w, i32_w]
        rfl
       refine take_ (i := 1) (N := some 72) (v := ?_) (a' := ?_) #[true, true, false, false, false] rfl rfl (by kernel_rfl) (fun _ _ _ h => h) (Or.inl ⟨by rfl, ?_⟩) hHeld ?_ ?_
       rotate_left
       ·rintro w' ⟨s0, s1⟩
        go_simp
        with_reducible rfl
       rotate_left
       ·simp only [Act.put, List.setIfInBounds_toArray, List.set_cons_zero, List.set_cons_succ, i64_w, i32_w]
        rfl
       refine one_ (i := 2) (N := some 73) #[true, true, true, false, false] rfl rfl (by kernel_rfl) (by decide) (fun K hK => ?_)
       refine goes_ Try.func11 (by kernel_rfl) rfl #[.agg #[.slice A0_0 l0_0.length c0_0]] (by rfl) rfl rfl (by (try simp only [List.map_toArray, List.map_cons, List.map_nil]); first | done | rfl | (simp only [List.length_drop, List.length_take]; rfl)) ?_
       with_reducible refine (laws_toSpace.calls kj17 _ _ l0_0 t134 _ ?side1 ?side2 A82.out).mono ?_
       (case side1 => exact c2_ HR0_0 HB)
       (case side2 => exact HC0_0.out)
       rintro e w274 ⟨v135, rfl, ho0, hb⟩
       refine ⟨_, rfl, ?_⟩
       have HO136 := Aside0.mk (Kd.R_lower (Kd.R_new' (Kd.R_new' (Kd.R_new' (Kd.R_new' (Kd.R_new' (Kd.R_new' ho0 (Kd.R_lt (rb_ HO_11.out))) (Kd.R_lt (rb_ HO_14.out))) (Kd.R_lt (rb_ HO_16.out))) (Kd.R_lt (rb_ HO_117000.out))) (Kd.R_lt (rb_ HO_121000.out))) (Kd.R_lt (rb_ HO_132000.out))) (below_size (gb_ HB.out)))
       replace HO_11 := a5_ HO_11 ho0 hb
       replace HO_14 := a5_ HO_14 ho0 hb
       replace HO_16 := a5_ HO_16 ho0 hb
       replace HO_117000 := a5_ HO_117000 ho0 hb
       replace HO_121000 := a5_ HO_121000 ho0 hb
       replace HO_132000 := a5_ HO_132000 ho0 hb
       replace BK101 := a2_ BK101 hb
       replace BK116 := a2_ BK116 hb
       replace BK120 := a2_ BK120 hb
       replace BK131 := a2_ BK131 hb
       replace HB := Aside0.mk (below_step (gb_ HB.out) hb)
       (try clear hb)
       (try clear hb2)
       (try clear hk)
       (try clear hi)
       (try clear ho0)
       obtain ⟨Ao275, co275, eo275⟩ := Kd.R_slice HO136.out
       (first | subst eo275 | (injection eo275 with f1_ f2_ f3_; have f4_ := f1_.symm; have f5_ := f3_.symm; clear f1_ f2_ f3_; subst f4_; subst f5_))
       refine hK.out _ _ ⟨(blk_cell BK120.out 0).trans rfl, (blk_cell BK101.out 0).trans rfl⟩ (fun hHeld => ?_)
       clear hK K
       refine norm_ (a' := ?_) ?_ ?_
       rotate_left
       ·show Act.put _ (some 73) _ = _
        simp only [Act.put, List.setIfInBounds_toArray, List.set_cons_zero, List.set_cons_succ, i64_w, i32_w]
        rfl
       refine one_ (i := 3) (N := some 74) #[true, true, true, true, false] rfl rfl (by kernel_rfl) (by decide) (fun K hK => ?_)
       refine goes_ Try.func14 (by kernel_rfl) rfl #[.agg #[.slice Ao35 t117.length co35], .agg #[.slice Ao275 t134.length co275]] (by rfl) rfl rfl (by (try simp only [List.map_toArray, List.map_cons, List.map_nil]); first | done | rfl | (simp only [List.length_drop, List.length_take]; rfl)) ?_
       with_reducible refine (laws_eqSpace.calls kj17 _ _ t117 _ _ t134 false _ ?side1 ?side2 ?side3 ?side4 A83.out).mono ?_
       (case side1 => exact c1_ HO_121000)
       (case side2 => exact (Kd.R_reads' HO_121000.out).2.1)
       (case side3 => exact c1_ HO136)
       (case side4 => exact (Kd.R_reads' HO136.out).2.1)
       rintro e w276 ⟨rfl, hb⟩
       refine ⟨_, rfl, ?_⟩
       replace HO_11 := a1_ HO_11 hb
       replace HO_14 := a1_ HO_14 hb
       replace HO_16 := a1_ HO_16 hb
       replace HO_117000 := a1_ HO_117000 hb
       replace HO_121000 := a1_ HO_121000 hb
       replace HO_132000 := a1_ HO_132000 hb
       replace HO136 := a1_ HO136 hb
       replace BK101 := a2_ BK101 hb
       replace BK116 := a2_ BK116 hb
       replace BK120 := a2_ BK120 hb
       replace BK131 := a2_ BK131 hb
       replace HB := Aside0.mk (below_step (gb_ HB.out) hb)
       (try clear hb)
       (try clear hb2)
       (try clear hk)
       (try clear hi)
       refine hK.out _ _ ⟨(blk_cell BK120.out 0).trans rfl, (blk_cell BK101.out 0).trans rfl⟩ (fun hHeld => ?_)
       clear hK K
       refine norm_ (a' := ?_) ?_ ?_
       rotate_left
       ·show Act.put _ (some 74) _ = _
        simp only [Act.put, List.setIfInBounds_toArray, List.set_cons_zero, List.set_cons_succ, i64_w, i32_w]
        rfl
       refine pure_ (i := 4) (N := some 75) (v := ?_) (a' := ?_) #[true, true, true, true, true] rfl rfl (by kernel_rfl) (fun _ _ _ h => h) (Or.inl ⟨by rfl, ?_⟩) ?_ ?_
       rotate_left
       ·intro w'
        go_simp
        with_reducible rfl
       rotate_left
       ·simp only [Act.put, List.setIfInBounds_toArray, List.set_cons_zero, List.set_cons_succ, i64_w, i32_w]
        rfl
       refine done_ (by kernel_rfl) ?_
       try go_wp2
       go_ret
       exact ⟨by first | rfl | (simp [errW_none, errW_some] <;> rfl) | (simp [*, errW_none, errW_some] <;> rfl), gb_ HB.out⟩

end Go.Proofs.Ytbhgnphdhkmliaa.P
