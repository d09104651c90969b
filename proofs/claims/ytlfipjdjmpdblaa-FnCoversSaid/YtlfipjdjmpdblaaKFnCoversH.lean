/- What the law FnCovers needs, part 8: words, walks of functions (each says that a call returns what the plain Lean function beside it says), plain lemmas. -/
import Derived.Test.YtlfipjdjmpdblaaKFnCoversG
namespace Go.Proofs.Ytlfipjdjmpdblaa.P
open Go.RowKit Go.Proofs.YtlfipjdjmpdblaaW.PrintWords Go.Proofs.YtlfipjdjmpdblaaW.PrintLast Go.Proofs.YtlfipjdjmpdblaaW.PrintMore
attribute [local go_sem] max2_int min2_int max_two min_two max_three min_three max_four min_four
set_option linter.unusedVariables false
set_option linter.unusedSimpArgs false
def spec_l02Full.f (k : Nat) (l0_0 : List Int) (l1 : List Int) : Option (Int) := (spec_l01Given.f k l0_0 l1).bind fun t102 => (if t102 = 0 then (if (l1.length : Int) = 0 then (some 5) else (some t102)) else (some t102))
set_option maxHeartbeats 8000000 in
set_option maxRecDepth 100000 in
theorem spec_l02Full.calls (k : Nat) (A0_0 : Option Addr) (c0_0 : Nat) (l0_0 : List Int) (A1 : Option Addr) (c1 : Nat) (l1 : List Int) (r : Int) (w : World) (hr0_0 : Kd.C (Kd.int .i64) w A0_0 l0_0.length l0_0) (hc0_0 : l0_0.length ≤ c0_0) (hr1 : Kd.C (Kd.int .i64) w A1 l1.length l1) (hc1 : l1.length ≤ c1) (h : spec_l02Full.f k l0_0 l1 = some r) :
  Calls Try.prog 92 #[.agg #[.slice A0_0 l0_0.length c0_0], .slice A1 l1.length c1] w fun e w' => e = .returned (.int .i64 r) ∧ Below w.heap.size w w' := by
 have hu26 := Try.underlying26
 have HR0_0 := Aside0.mk hr0_0
 have HC0_0 := Aside0.mk hc0_0
 clear hr0_0 hc0_0
 have HR1 := Aside0.mk hr1
 have HC1 := Aside0.mk hc1
 clear hr1 hc1
 have HB := Aside0.mk (Below.refl w.heap.size w)
 have H : ((spec_l01Given.f k l0_0 l1).bind fun t102 => (if t102 = 0 then (if (l1.length : Int) = 0 then (some 5) else (some t102)) else (some t102))) = some r := h
 clear h
 replace H := Option.bind_eq_some_iff.mp H
 obtain ⟨t102, A30, H⟩ := H
 replace H : (if t102 = 0 then (if (l1.length : Int) = 0 then (some 5) else (some t102)) else (some t102)) = some r := H
 have A3 := Aside0.mk A30
 clear A30
 by_cases c4 : t102 = 0
 rotate_left
 ·rw [if_neg c4] at H
  have c4b0 : (t102 == 0) = false := beq_eq_false_iff_ne.mpr c4
  have c4b1 : (t102 != 0) = true := bne_iff_ne.mpr c4
  obtain rfl := Option.some.inj H
  go_enter Try.func92, Try.ntmps92
  go_wp2_with (first | ((with_reducible refine gate_dst (N := 2) rfl ?_); refine bx_ (N := 2) (cs := #[.slice A0_0 l0_0.length c0_0]) (t := 26) rfl rfl ?_; intro gb101 hg w12 hbox hb; have n0_ := b1_ HB hb; have n1_ := Aside0.mk (hbox); have n2_ := ge_ hg HB; have n3_ := ge_ hg HB; clear HB; have HB := n0_; have BK101 := n1_; have GW101 := n2_; have GE101 := n3_; clear n0_ n1_ n2_ n3_ hb hbox hg; have hcz13_0 := hz_ BK101; have hfz13_0 := blk_frozen BK101.out 0) | ((with_reducible refine gate_callee (f := 88) rfl ?_); refine gl_ (some 8) rfl rfl Try.func88 #[.agg #[.slice A0_0 l0_0.length c0_0], .slice A1 l1.length c1] rfl ?_; (with_reducible refine (spec_l01Given.calls k _ _ l0_0 _ _ l1 t102 _ ?side1 ?side2 ?side3 ?side4 A3.out).mono ?_); (case side1 => exact c2_ HR0_0 HB); (case side2 => exact HC0_0.out); (case side3 => exact c2_ HR1 HB); (case side4 => exact HC1.out); rintro e w14 ⟨rfl, hb⟩; refine ⟨_, rfl, ?_⟩; replace BK101 := a2_ BK101 hb; replace HB := b1_ HB hb; (try clear hb); (try clear hb2); (try clear hk); (try clear hi)))
  go_ret
  exact ⟨t5_, gb_ HB.out⟩

 rw [if_pos c4] at H
 have c4b0 : (t102 == 0) = true := beq_iff_eq.mpr c4
 have c4b1 : (t102 != 0) = false := bne_eq_false_iff_eq.mpr c4
 clear c4
 by_cases c5 : (l1.length : Int) = 0
 ·rw [if_pos c5] at H
  have c5b0 : ((l1.length : Int) == 0) = true := beq_iff_eq.mpr c5
  have c5b1 : ((l1.length : Int) != 0) = false := bne_eq_false_iff_eq.mpr c5
  clear c5
  obtain rfl := Option.some.inj H
  go_enter Try.func92, Try.ntmps92
  go_wp2_with (first | ((with_reducible refine gate_dst (N := 2) rfl ?_); refine bx_ (N := 2) (cs := #[.slice A0_0 l0_0.length c0_0]) (t := 26) rfl rfl ?_; intro gb101 hg w6 hbox hb; have n0_ := b1_ HB hb; have n1_ := Aside0.mk (hbox); have n2_ := ge_ hg HB; have n3_ := ge_ hg HB; clear HB; have HB := n0_; have BK101 := n1_; have GW101 := n2_; have GE101 := n3_; clear n0_ n1_ n2_ n3_ hb hbox hg; have hcz7_0 := hz_ BK101; have hfz7_0 := blk_frozen BK101.out 0) | ((with_reducible refine gate_callee (f := 88) rfl ?_); refine gl_ (some 8) rfl rfl Try.func88 #[.agg #[.slice A0_0 l0_0.length c0_0], .slice A1 l1.length c1] rfl ?_; (with_reducible refine (spec_l01Given.calls k _ _ l0_0 _ _ l1 t102 _ ?side1 ?side2 ?side3 ?side4 A3.out).mono ?_); (case side1 => exact c2_ HR0_0 HB); (case side2 => exact HC0_0.out); (case side3 => exact c2_ HR1 HB); (case side4 => exact HC1.out); rintro e w8 ⟨rfl, hb⟩; refine ⟨_, rfl, ?_⟩; replace BK101 := a2_ BK101 hb; replace HB := b1_ HB hb; (try clear hb); (try clear hb2); (try clear hk); (try clear hi)))
  go_ret
  exact ⟨t5_, gb_ HB.out⟩
 rw [if_neg c5] at H
 have c5b0 : ((l1.length : Int) == 0) = false := beq_eq_false_iff_ne.mpr c5
 have c5b1 : ((l1.length : Int) != 0) = true := bne_iff_ne.mpr c5
 have c5b2 : ¬ (l1 = []) := fun h_ => c5 (by rw [h_]; rfl)
 obtain rfl := Option.some.inj H
 go_enter Try.func92, Try.ntmps92
 go_wp2_with (first | ((with_reducible refine gate_dst (N := 2) rfl ?_); refine bx_ (N := 2) (cs := #[.slice A0_0 l0_0.length c0_0]) (t := 26) rfl rfl ?_; intro gb101 hg w9 hbox hb; have n0_ := b1_ HB hb; have n1_ := Aside0.mk (hbox); have n2_ := ge_ hg HB; have n3_ := ge_ hg HB; clear HB; have HB := n0_; have BK101 := n1_; have GW101 := n2_; have GE101 := n3_; clear n0_ n1_ n2_ n3_ hb hbox hg; have hcz10_0 := hz_ BK101; have hfz10_0 := blk_frozen BK101.out 0) | ((with_reducible refine gate_callee (f := 88) rfl ?_); refine gl_ (some 8) rfl rfl Try.func88 #[.agg #[.slice A0_0 l0_0.length c0_0], .slice A1 l1.length c1] rfl ?_; (with_reducible refine (spec_l01Given.calls k _ _ l0_0 _ _ l1 t102 _ ?side1 ?side2 ?side3 ?side4 A3.out).mono ?_); (case side1 => exact c2_ HR0_0 HB); (case side2 => exact HC0_0.out); (case side3 => exact c2_ HR1 HB); (case side4 => exact HC1.out); rintro e w11 ⟨rfl, hb⟩; refine ⟨_, rfl, ?_⟩; replace BK101 := a2_ BK101 hb; replace HB := b1_ HB hb; (try clear hb); (try clear hb2); (try clear hk); (try clear hi)))
 go_ret
 exact ⟨t5_, gb_ HB.out⟩
def impl_someCode.f (k : Nat) (l0_0 : List Int) (l1 : List Int) (l2 : List Int) : Option (Int) := (impl_codeCode.f k l0_0 l1 l2).bind fun t102 => (if t102 = 0 then (if (l1.length : Int) = 0 then (some 5) else (some 0)) else (some t102))
set_option maxHeartbeats 8000000 in
set_option maxRecDepth 100000 in
theorem impl_someCode.calls (k : Nat) (A0_0 : Option Addr) (c0_0 : Nat) (l0_0 : List Int) (A1 : Option Addr) (c1 : Nat) (l1 : List Int) (A2 : Option Addr) (c2 : Nat) (l2 : List Int) (r : Int) (w : World) (hr0_0 : Kd.C (Kd.int .i64) w A0_0 l0_0.length l0_0) (hc0_0 : l0_0.length ≤ c0_0) (hr1 : Kd.C (Kd.int .i64) w A1 l1.length l1) (hc1 : l1.length ≤ c1) (hr2 : Kd.C (Kd.int .i64) w A2 l2.length l2) (hc2 : l2.length ≤ c2) (h : impl_someCode.f k l0_0 l1 l2 = some r) :
  Calls Try.prog 90 #[.agg #[.slice A0_0 l0_0.length c0_0], .slice A1 l1.length c1, .slice A2 l2.length c2] w fun e w' => e = .returned (.int .i64 r) ∧ Below w.heap.size w w' := by
 have hu26 := Try.underlying26
 have HR0_0 := Aside0.mk hr0_0
 have HC0_0 := Aside0.mk hc0_0
 clear hr0_0 hc0_0
 have HR1 := Aside0.mk hr1
 have HC1 := Aside0.mk hc1
 clear hr1 hc1
 have HR2 := Aside0.mk hr2
 have HC2 := Aside0.mk hc2
 clear hr2 hc2
 have HB := Aside0.mk (Below.refl w.heap.size w)
 have H : ((impl_codeCode.f k l0_0 l1 l2).bind fun t102 => (if t102 = 0 then (if (l1.length : Int) = 0 then (some 5) else (some 0)) else (some t102))) = some r := h
 clear h
 replace H := Option.bind_eq_some_iff.mp H
 obtain ⟨t102, A40, H⟩ := H
 replace H : (if t102 = 0 then (if (l1.length : Int) = 0 then (some 5) else (some 0)) else (some t102)) = some r := H
 have A4 := Aside0.mk A40
 clear A40
 by_cases c5 : t102 = 0
 rotate_left
 ·rw [if_neg c5] at H
  have c5b0 : (t102 == 0) = false := beq_eq_false_iff_ne.mpr c5
  have c5b1 : (t102 != 0) = true := bne_iff_ne.mpr c5
  obtain rfl := Option.some.inj H
  go_enter Try.func90, Try.ntmps90
  go_wp2_with (first | ((with_reducible refine gate_dst (N := 3) rfl ?_); refine bx_ (N := 3) (cs := #[.slice A0_0 l0_0.length c0_0]) (t := 26) rfl rfl ?_; intro gb101 hg w13 hbox hb; have n0_ := b1_ HB hb; have n1_ := Aside0.mk (hbox); have n2_ := ge_ hg HB; have n3_ := ge_ hg HB; clear HB; have HB := n0_; have BK101 := n1_; have GW101 := n2_; have GE101 := n3_; clear n0_ n1_ n2_ n3_ hb hbox hg; have hcz14_0 := hz_ BK101; have hfz14_0 := blk_frozen BK101.out 0) | ((with_reducible refine gate_callee (f := 87) rfl ?_); refine gl_ (some 11) rfl rfl Try.func87 #[.agg #[.slice A0_0 l0_0.length c0_0], .slice A1 l1.length c1, .slice A2 l2.length c2] rfl ?_; (with_reducible refine (impl_codeCode.calls k _ _ l0_0 _ _ l1 _ _ l2 t102 _ ?side1 ?side2 ?side3 ?side4 ?side5 ?side6 A4.out).mono ?_); (case side1 => exact c2_ HR0_0 HB); (case side2 => exact HC0_0.out); (case side3 => exact c2_ HR1 HB); (case side4 => exact HC1.out); (case side5 => exact c2_ HR2 HB); (case side6 => exact HC2.out); rintro e w15 ⟨rfl, hb⟩; refine ⟨_, rfl, ?_⟩; replace BK101 := a2_ BK101 hb; replace HB := b1_ HB hb; (try clear hb); (try clear hb2); (try clear hk); (try clear hi)))
  go_ret
  exact ⟨t5_, gb_ HB.out⟩

 rw [if_pos c5] at H
 have c5b0 : (t102 == 0) = true := beq_iff_eq.mpr c5
 have c5b1 : (t102 != 0) = false := bne_eq_false_iff_eq.mpr c5
 clear c5
 by_cases c6 : (l1.length : Int) = 0
 ·rw [if_pos c6] at H
  have c6b0 : ((l1.length : Int) == 0) = true := beq_iff_eq.mpr c6
  have c6b1 : ((l1.length : Int) != 0) = false := bne_eq_false_iff_eq.mpr c6
  clear c6
  obtain rfl := Option.some.inj H
  go_enter Try.func90, Try.ntmps90
  go_wp2_with (first | ((with_reducible refine gate_dst (N := 3) rfl ?_); refine bx_ (N := 3) (cs := #[.slice A0_0 l0_0.length c0_0]) (t := 26) rfl rfl ?_; intro gb101 hg w7 hbox hb; have n0_ := b1_ HB hb; have n1_ := Aside0.mk (hbox); have n2_ := ge_ hg HB; have n3_ := ge_ hg HB; clear HB; have HB := n0_; have BK101 := n1_; have GW101 := n2_; have GE101 := n3_; clear n0_ n1_ n2_ n3_ hb hbox hg; have hcz8_0 := hz_ BK101; have hfz8_0 := blk_frozen BK101.out 0) | ((with_reducible refine gate_callee (f := 87) rfl ?_); refine gl_ (some 11) rfl rfl Try.func87 #[.agg #[.slice A0_0 l0_0.length c0_0], .slice A1 l1.length c1, .slice A2 l2.length c2] rfl ?_; (with_reducible refine (impl_codeCode.calls k _ _ l0_0 _ _ l1 _ _ l2 t102 _ ?side1 ?side2 ?side3 ?side4 ?side5 ?side6 A4.out).mono ?_); (case side1 => exact c2_ HR0_0 HB); (case side2 => exact HC0_0.out); (case side3 => exact c2_ HR1 HB); (case side4 => exact HC1.out); (case side5 => exact c2_ HR2 HB); (case side6 => exact HC2.out); rintro e w9 ⟨rfl, hb⟩; refine ⟨_, rfl, ?_⟩; replace BK101 := a2_ BK101 hb; replace HB := b1_ HB hb; (try clear hb); (try clear hb2); (try clear hk); (try clear hi)))
  go_ret
  exact ⟨t5_, gb_ HB.out⟩
 rw [if_neg c6] at H
 have c6b0 : ((l1.length : Int) == 0) = false := beq_eq_false_iff_ne.mpr c6
 have c6b1 : ((l1.length : Int) != 0) = true := bne_iff_ne.mpr c6
 have c6b2 : ¬ (l1 = []) := fun h_ => c6 (by rw [h_]; rfl)
 obtain rfl := Option.some.inj H
 go_enter Try.func90, Try.ntmps90
 go_wp2_with (first | ((with_reducible refine gate_dst (N := 3) rfl ?_); refine bx_ (N := 3) (cs := #[.slice A0_0 l0_0.length c0_0]) (t := 26) rfl rfl ?_; intro gb101 hg w10 hbox hb; have n0_ := b1_ HB hb; have n1_ := Aside0.mk (hbox); have n2_ := ge_ hg HB; have n3_ := ge_ hg HB; clear HB; have HB := n0_; have BK101 := n1_; have GW101 := n2_; have GE101 := n3_; clear n0_ n1_ n2_ n3_ hb hbox hg; have hcz11_0 := hz_ BK101; have hfz11_0 := blk_frozen BK101.out 0) | ((with_reducible refine gate_callee (f := 87) rfl ?_); refine gl_ (some 11) rfl rfl Try.func87 #[.agg #[.slice A0_0 l0_0.length c0_0], .slice A1 l1.length c1, .slice A2 l2.length c2] rfl ?_; (with_reducible refine (impl_codeCode.calls k _ _ l0_0 _ _ l1 _ _ l2 t102 _ ?side1 ?side2 ?side3 ?side4 ?side5 ?side6 A4.out).mono ?_); (case side1 => exact c2_ HR0_0 HB); (case side2 => exact HC0_0.out); (case side3 => exact c2_ HR1 HB); (case side4 => exact HC1.out); (case side5 => exact c2_ HR2 HB); (case side6 => exact HC2.out); rintro e w12 ⟨rfl, hb⟩; refine ⟨_, rfl, ?_⟩; replace BK101 := a2_ BK101 hb; replace HB := b1_ HB hb; (try clear hb); (try clear hb2); (try clear hk); (try clear hi)))
 go_ret
 exact ⟨t5_, gb_ HB.out⟩
def spec_l02Farthest.l0 : Nat → List Int → Int → Int → Int → List Int → Option (Int × Int)
  | 0, _, _, _, _, _ => none
  | k + 1, x1, x6, x7, x8, x102000 => (spec_l01N.f k x102000).bind fun t103 => (if x8 < t103 then ((spec_l02To.f k x102000 x1 x8).bind fun t104 => (if t104 > x7 then (spec_l02Farthest.l0 k x1 x8 t104 (wrap64 (x8 + 1)) x102000) else (spec_l02Farthest.l0 k x1 x6 x7 (wrap64 (x8 + 1)) x102000))) else (some (x6, x7)))
def spec_l02Farthest.f (k : Nat) (l0_0 : List Int) (l1 : List Int) : Option (Int × Int) := (spec_l02To.f k l0_0 l1 0).bind fun t102 => (spec_l02Farthest.l0 k l1 0 t102 1 l0_0)
set_option maxHeartbeats 8000000 in
set_option maxRecDepth 100000 in
theorem spec_l02Farthest.calls (k : Nat) (A0_0 : Option Addr) (c0_0 : Nat) (l0_0 : List Int) (A1 : Option Addr) (c1 : Nat) (l1 : List Int) (r1 : Int) (r2 : Int) (w : World) (hr0_0 : Kd.C (Kd.int .i64) w A0_0 l0_0.length l0_0) (hc0_0 : l0_0.length ≤ c0_0) (hr1 : Kd.C (Kd.int .i64) w A1 l1.length l1) (hc1 : l1.length ≤ c1) (h : spec_l02Farthest.f k l0_0 l1 = some (r1, r2)) :
  Calls Try.prog 95 #[.agg #[.slice A0_0 l0_0.length c0_0], .slice A1 l1.length c1] w fun e w' => e = .returned (.tuple #[.int .i64 r1, .int .i64 r2]) ∧ Below w.heap.size w w' := by
 have hu26 := Try.underlying26
 have HR0_0 := Aside0.mk hr0_0
 have HC0_0 := Aside0.mk hc0_0
 clear hr0_0 hc0_0
 have HR1 := Aside0.mk hr1
 have HC1 := Aside0.mk hc1
 clear hr1 hc1
 have HB := Aside0.mk (Below.refl w.heap.size w)
 have H : ((spec_l02To.f k l0_0 l1 0).bind fun t102 => (spec_l02Farthest.l0 k l1 0 t102 1 l0_0)) = some (r1, r2) := h
 clear h
 replace H := Option.bind_eq_some_iff.mp H
 obtain ⟨t102, A30, H⟩ := H
 replace H : (spec_l02Farthest.l0 k l1 0 t102 1 l0_0) = some (r1, r2) := H
 have A3 := Aside0.mk A30
 clear A30
 have H' := Aside0.mk H
 clear H
 go_enter Try.func95, Try.ntmps95
 go_wp2_with (first | ((with_reducible refine gate_dst (N := 2) rfl ?_); refine bx_ (N := 2) (cs := #[.slice A0_0 l0_0.length c0_0]) (t := 26) rfl rfl ?_; intro gb101 hg w4 hbox hb; have n0_ := b1_ HB hb; have n1_ := Aside0.mk (hbox); have n2_ := ge_ hg HB; have n3_ := ge_ hg HB; clear HB; have HB := n0_; have BK101 := n1_; have GW101 := n2_; have GE101 := n3_; clear n0_ n1_ n2_ n3_ hb hbox hg; have hcz5_0 := hz_ BK101; have hfz5_0 := blk_frozen BK101.out 0) | ((with_reducible refine gate_callee (f := 89) rfl ?_); refine gl_ (some 12) rfl rfl Try.func89 #[.agg #[.slice A0_0 l0_0.length c0_0], .slice A1 l1.length c1, .int .i64 0] rfl ?_; (with_reducible refine (spec_l02To.calls k _ _ l0_0 _ _ l1 0 t102 _ ?side1 ?side2 ?side3 ?side4 A3.out).mono ?_); (case side1 => exact c2_ HR0_0 HB); (case side2 => exact HC0_0.out); (case side3 => exact c2_ HR1 HB); (case side4 => exact HC1.out); rintro e w6 ⟨rfl, hb⟩; refine ⟨_, rfl, ?_⟩; replace BK101 := a2_ BK101 hb; replace HB := b1_ HB hb; (try clear hb); (try clear hb2); (try clear hk); (try clear hi)))
 go_loopg [6, 7, 8] k (fun kq v6 v7 v8 w' => ∃ (x6_1 : Int) (x7_1 : Int) (x8_1 : Int), v6 = .int .i64 x6_1 ∧ v7 = .int .i64 x7_1 ∧ v8 = .int .i64 x8_1 ∧ Aside0 (spec_l02Farthest.l0 kq l1 x6_1 x7_1 x8_1 l0_0 = some (r1, r2)) ∧ Aside0 (kq ≤ k) ∧ Aside0 (w'.heap[gb101]? = some (.cells #[(.slice A0_0 l0_0.length c0_0)] 26 (0, 0))) ∧ Aside0 (Below w.heap.size w w'))
 case atStart => exact ⟨(0), (t102), (1), t2_, t2_, t2_, H', ⟨Nat.le_refl _⟩, ⟨bb_ BK101.out⟩, ⟨gb_ HB.out⟩⟩
 clear H'
 try clear c1
 try clear p2
 try clear hcz5_0
 try clear hfz5_0
 obtain ⟨x6_1, x7_1, x8_1, rfl, rfl, rfl, HA, HK1, BK101, HB⟩ := hrel
 obtain _ | k1 := gk
 ·exact absurd HA.out (by simp [spec_l02Farthest.l0])
 have H := HA.out
 clear HA
 simp only [spec_l02Farthest.l0] at H
 replace H := Option.bind_eq_some_iff.mp H
 obtain ⟨t103, A70, H⟩ := H
 replace H : (if x8_1 < t103 then ((spec_l02To.f k1 l0_0 l1 x8_1).bind fun t104 => (if t104 > x7_1 then (spec_l02Farthest.l0 k1 l1 x8_1 t104 (wrap64 (x8_1 + 1)) l0_0) else (spec_l02Farthest.l0 k1 l1 x6_1 x7_1 (wrap64 (x8_1 + 1)) l0_0))) else (some (x6_1, x7_1))) = some (r1, r2) := H
 have A7 := Aside0.mk A70
 clear A70
 by_cases c8 : x8_1 < t103
 rotate_left
 ·rw [if_neg c8] at H
  have c8b0 : decide (x8_1 < t103) = false := decide_eq_false c8
  clear c8
  simp only [Option.some.injEq, Prod.mk.injEq] at H
  obtain ⟨rfl, rfl⟩ := H
  have hcz19_0 := hz_ BK101
  have hfz19_0 := blk_frozen BK101.out 0
  go_wp2_with (first | ((with_reducible refine gate_callee (f := 76) rfl ?_); refine gl_ (some 15) rfl rfl Try.func76 #[.agg #[.slice A0_0 l0_0.length c0_0]] rfl ?_; (with_reducible refine (spec_l01N.calls k1 _ _ l0_0 t103 _ ?side1 ?side2 A7.out).mono ?_); (case side1 => exact c2_ HR0_0 HB); (case side2 => exact HC0_0.out); rintro e w20 ⟨rfl, hb⟩; refine ⟨_, rfl, ?_⟩; replace BK101 := a2_ BK101 hb; replace HB := b1_ HB hb; (try clear hb); (try clear hb2); (try clear hk); (try clear hi)))
  go_ret2
  exact ⟨t5_, gb_ HB.out⟩

 rw [if_pos c8] at H
 have c8b0 : decide (x8_1 < t103) = true := decide_eq_true c8
 clear c8
 replace H := Option.bind_eq_some_iff.mp H
 obtain ⟨t104, A90, H⟩ := H
 replace H : (if t104 > x7_1 then (spec_l02Farthest.l0 k1 l1 x8_1 t104 (wrap64 (x8_1 + 1)) l0_0) else (spec_l02Farthest.l0 k1 l1 x6_1 x7_1 (wrap64 (x8_1 + 1)) l0_0)) = some (r1, r2) := H
 have A9 := Aside0.mk A90
 clear A90
 by_cases c10 : t104 > x7_1
 ·rw [if_pos c10] at H
  have c10b0 : decide (x7_1 < t104) = true := decide_eq_true c10
  clear c10
  have H' := Aside0.mk H
  clear H
  have hcz11_0 := hz_ BK101
  have hfz11_0 := blk_frozen BK101.out 0
  go_wp2_with (first | ((with_reducible refine gate_callee (f := 76) rfl ?_); refine gl_ (some 15) rfl rfl Try.func76 #[.agg #[.slice A0_0 l0_0.length c0_0]] rfl ?_; (with_reducible refine (spec_l01N.calls k1 _ _ l0_0 t103 _ ?side1 ?side2 A7.out).mono ?_); (case side1 => exact c2_ HR0_0 HB); (case side2 => exact HC0_0.out); rintro e w12 ⟨rfl, hb⟩; refine ⟨_, rfl, ?_⟩; replace BK101 := a2_ BK101 hb; replace HB := b1_ HB hb; (try clear hb); (try clear hb2); (try clear hk); (try clear hi); have hcz13_0 := hz_ BK101; have hfz13_0 := blk_frozen BK101.out 0) | ((with_reducible refine gate_callee (f := 89) rfl ?_); refine gl_ (some 22) rfl rfl Try.func89 #[.agg #[.slice A0_0 l0_0.length c0_0], .slice A1 l1.length c1, .int .i64 x8_1] rfl ?_; (with_reducible refine (spec_l02To.calls k1 _ _ l0_0 _ _ l1 x8_1 t104 _ ?side1 ?side2 ?side3 ?side4 A9.out).mono ?_); (case side1 => exact c2_ HR0_0 HB); (case side2 => exact HC0_0.out); (case side3 => exact c2_ HR1 HB); (case side4 => exact HC1.out); rintro e w14 ⟨rfl, hb⟩; refine ⟨_, rfl, ?_⟩; replace BK101 := a2_ BK101 hb; replace HB := b1_ HB hb; (try clear hb); (try clear hb2); (try clear hk); (try clear hi)))
  go_roundg k1
  case measure => have := HK1.out; omega
  case rel => exact ⟨(x8_1), (t104), (wrap64 (x8_1 + 1)), t2_, t2_, t2_, H', ⟨by have := HK1.out; omega⟩, ⟨bb_ BK101.out⟩, ⟨gb_ HB.out⟩⟩
 rw [if_neg c10] at H
 have c10b0 : decide (x7_1 < t104) = false := decide_eq_false c10
 clear c10
 have H' := Aside0.mk H
 clear H
 have hcz15_0 := hz_ BK101
 have hfz15_0 := blk_frozen BK101.out 0
 go_wp2_with (first | ((with_reducible refine gate_callee (f := 76) rfl ?_); refine gl_ (some 15) rfl rfl Try.func76 #[.agg #[.slice A0_0 l0_0.length c0_0]] rfl ?_; (with_reducible refine (spec_l01N.calls k1 _ _ l0_0 t103 _ ?side1 ?side2 A7.out).mono ?_); (case side1 => exact c2_ HR0_0 HB); (case side2 => exact HC0_0.out); rintro e w16 ⟨rfl, hb⟩; refine ⟨_, rfl, ?_⟩; replace BK101 := a2_ BK101 hb; replace HB := b1_ HB hb; (try clear hb); (try clear hb2); (try clear hk); (try clear hi); have hcz17_0 := hz_ BK101; have hfz17_0 := blk_frozen BK101.out 0) | ((with_reducible refine gate_callee (f := 89) rfl ?_); refine gl_ (some 22) rfl rfl Try.func89 #[.agg #[.slice A0_0 l0_0.length c0_0], .slice A1 l1.length c1, .int .i64 x8_1] rfl ?_; (with_reducible refine (spec_l02To.calls k1 _ _ l0_0 _ _ l1 x8_1 t104 _ ?side1 ?side2 ?side3 ?side4 A9.out).mono ?_); (case side1 => exact c2_ HR0_0 HB); (case side2 => exact HC0_0.out); (case side3 => exact c2_ HR1 HB); (case side4 => exact HC1.out); rintro e w18 ⟨rfl, hb⟩; refine ⟨_, rfl, ?_⟩; replace BK101 := a2_ BK101 hb; replace HB := b1_ HB hb; (try clear hb); (try clear hb2); (try clear hk); (try clear hi)))
 go_roundg k1
 case measure => have := HK1.out; omega
 case rel => exact ⟨(x6_1), (x7_1), (wrap64 (x8_1 + 1)), t2_, t2_, t2_, H', ⟨by have := HK1.out; omega⟩, ⟨bb_ BK101.out⟩, ⟨gb_ HB.out⟩⟩


def spec_l02Code.f (k : Nat) (l0_0 : List Int) (l1 : List Int) (a2 : Int) : Option (Int) := (spec_l01Given.f k l0_0 l1).bind fun t102 => (if t102 = 0 then ((spec_l01In.f a2 0 8).bind fun t103 => (if t103 = true then (some t102) else (some 2))) else (some t102))
set_option maxHeartbeats 8000000 in
set_option maxRecDepth 100000 in
theorem spec_l02Code.calls (k : Nat) (A0_0 : Option Addr) (c0_0 : Nat) (l0_0 : List Int) (A1 : Option Addr) (c1 : Nat) (l1 : List Int) (a2 : Int) (r : Int) (w : World) (hr0_0 : Kd.C (Kd.int .i64) w A0_0 l0_0.length l0_0) (hc0_0 : l0_0.length ≤ c0_0) (hr1 : Kd.C (Kd.int .i64) w A1 l1.length l1) (hc1 : l1.length ≤ c1) (h : spec_l02Code.f k l0_0 l1 a2 = some r) :
  Calls Try.prog 102 #[.agg #[.slice A0_0 l0_0.length c0_0], .slice A1 l1.length c1, .int .i64 a2] w fun e w' => e = .returned (.int .i64 r) ∧ Below w.heap.size w w' := by
 have hu26 := Try.underlying26
 have HR0_0 := Aside0.mk hr0_0
 have HC0_0 := Aside0.mk hc0_0
 clear hr0_0 hc0_0
 have HR1 := Aside0.mk hr1
 have HC1 := Aside0.mk hc1
 clear hr1 hc1
 have HB := Aside0.mk (Below.refl w.heap.size w)
 have H : ((spec_l01Given.f k l0_0 l1).bind fun t102 => (if t102 = 0 then ((spec_l01In.f a2 0 8).bind fun t103 => (if t103 = true then (some t102) else (some 2))) else (some t102))) = some r := h
 clear h
 replace H := Option.bind_eq_some_iff.mp H
 obtain ⟨t102, A40, H⟩ := H
 replace H : (if t102 = 0 then ((spec_l01In.f a2 0 8).bind fun t103 => (if t103 = true then (some t102) else (some 2))) else (some t102)) = some r := H
 have A4 := Aside0.mk A40
 clear A40
 by_cases c5 : t102 = 0
 rotate_left
 ·rw [if_neg c5] at H
  have c5b0 : (t102 == 0) = false := beq_eq_false_iff_ne.mpr c5
  have c5b1 : (t102 != 0) = true := bne_iff_ne.mpr c5
  obtain rfl := Option.some.inj H
  go_enter Try.func102, Try.ntmps102
  go_wp2_with (first | ((with_reducible refine gate_dst (N := 3) rfl ?_); refine bx_ (N := 3) (cs := #[.slice A0_0 l0_0.length c0_0]) (t := 26) rfl rfl ?_; intro gb101 hg w14 hbox hb; have n0_ := b1_ HB hb; have n1_ := Aside0.mk (hbox); have n2_ := ge_ hg HB; have n3_ := ge_ hg HB; clear HB; have HB := n0_; have BK101 := n1_; have GW101 := n2_; have GE101 := n3_; clear n0_ n1_ n2_ n3_ hb hbox hg; have hcz15_0 := hz_ BK101; have hfz15_0 := blk_frozen BK101.out 0) | ((with_reducible refine gate_callee (f := 88) rfl ?_); refine gl_ (some 10) rfl rfl Try.func88 #[.agg #[.slice A0_0 l0_0.length c0_0], .slice A1 l1.length c1] rfl ?_; (with_reducible refine (spec_l01Given.calls k _ _ l0_0 _ _ l1 t102 _ ?side1 ?side2 ?side3 ?side4 A4.out).mono ?_); (case side1 => exact c2_ HR0_0 HB); (case side2 => exact HC0_0.out); (case side3 => exact c2_ HR1 HB); (case side4 => exact HC1.out); rintro e w16 ⟨rfl, hb⟩; refine ⟨_, rfl, ?_⟩; replace BK101 := a2_ BK101 hb; replace HB := b1_ HB hb; (try clear hb); (try clear hb2); (try clear hk); (try clear hi)))
  go_ret
  exact ⟨t5_, gb_ HB.out⟩

 rw [if_pos c5] at H
 have c5b0 : (t102 == 0) = true := beq_iff_eq.mpr c5
 have c5b1 : (t102 != 0) = false := bne_eq_false_iff_eq.mpr c5
 clear c5
 replace H := Option.bind_eq_some_iff.mp H
 obtain ⟨t103, A60, H⟩ := H
 replace H : (if t103 = true then (some t102) else (some 2)) = some r := H
 have A6 := Aside0.mk A60
 clear A60
 by_cases c7 : t103 = true
 ·subst c7
  have H1 : (some t102) = some r := by rw [if_pos rfl] at H; exact H
  clear H
  have H := H1
  clear H1
  obtain rfl := Option.some.inj H
  go_enter Try.func102, Try.ntmps102
  go_wp2_with (first | ((with_reducible refine gate_dst (N := 3) rfl ?_); refine bx_ (N := 3) (cs := #[.slice A0_0 l0_0.length c0_0]) (t := 26) rfl rfl ?_; intro gb101 hg w8 hbox hb; have n0_ := b1_ HB hb; have n1_ := Aside0.mk (hbox); have n2_ := ge_ hg HB; have n3_ := ge_ hg HB; clear HB; have HB := n0_; have BK101 := n1_; have GW101 := n2_; have GE101 := n3_; clear n0_ n1_ n2_ n3_ hb hbox hg; have hcz9_0 := hz_ BK101; have hfz9_0 := blk_frozen BK101.out 0) | ((with_reducible refine gate_callee (f := 88) rfl ?_); refine gl_ (some 10) rfl rfl Try.func88 #[.agg #[.slice A0_0 l0_0.length c0_0], .slice A1 l1.length c1] rfl ?_; (with_reducible refine (spec_l01Given.calls k _ _ l0_0 _ _ l1 t102 _ ?side1 ?side2 ?side3 ?side4 A4.out).mono ?_); (case side1 => exact c2_ HR0_0 HB); (case side2 => exact HC0_0.out); (case side3 => exact c2_ HR1 HB); (case side4 => exact HC1.out); rintro e w10 ⟨rfl, hb⟩; refine ⟨_, rfl, ?_⟩; replace BK101 := a2_ BK101 hb; replace HB := b1_ HB hb; (try clear hb); (try clear hb2); (try clear hk); (try clear hi)) | (go_at_call 84; (with_reducible refine (spec_l01In.calls a2 0 8 true _ A6.out).mono ?_); rintro e w' ⟨rfl, ⟨nd, rfl⟩⟩))
  go_ret
  exact ⟨t5_, gb_ HB.out⟩
 replace c7 := Bool.eq_false_iff.mpr c7
 subst c7
 have H1 : (some 2) = some r := by rw [if_neg (show ¬ (false = true) by decide)] at H; exact H
 clear H
 have H := H1
 clear H1
 obtain rfl := Option.some.inj H
 go_enter Try.func102, Try.ntmps102
 go_wp2_with (first | ((with_reducible refine gate_dst (N := 3) rfl ?_); refine bx_ (N := 3) (cs := #[.slice A0_0 l0_0.length c0_0]) (t := 26) rfl rfl ?_; intro gb101 hg w11 hbox hb; have n0_ := b1_ HB hb; have n1_ := Aside0.mk (hbox); have n2_ := ge_ hg HB; have n3_ := ge_ hg HB; clear HB; have HB := n0_; have BK101 := n1_; have GW101 := n2_; have GE101 := n3_; clear n0_ n1_ n2_ n3_ hb hbox hg; have hcz12_0 := hz_ BK101; have hfz12_0 := blk_frozen BK101.out 0) | ((with_reducible refine gate_callee (f := 88) rfl ?_); refine gl_ (some 10) rfl rfl Try.func88 #[.agg #[.slice A0_0 l0_0.length c0_0], .slice A1 l1.length c1] rfl ?_; (with_reducible refine (spec_l01Given.calls k _ _ l0_0 _ _ l1 t102 _ ?side1 ?side2 ?side3 ?side4 A4.out).mono ?_); (case side1 => exact c2_ HR0_0 HB); (case side2 => exact HC0_0.out); (case side3 => exact c2_ HR1 HB); (case side4 => exact HC1.out); rintro e w13 ⟨rfl, hb⟩; refine ⟨_, rfl, ?_⟩; replace BK101 := a2_ BK101 hb; replace HB := b1_ HB hb; (try clear hb); (try clear hb2); (try clear hk); (try clear hi)) | (go_at_call 84; (with_reducible refine (spec_l01In.calls a2 0 8 false _ A6.out).mono ?_); rintro e w' ⟨rfl, ⟨nd, rfl⟩⟩))
 go_ret
 exact ⟨t5_, gb_ HB.out⟩
def impl_coverCode.f (k : Nat) (l0_0 : List Int) (l1 : List Int) (a2 : Int) : Option (Int) := (impl_codeCode.f k l0_0 l1 ([] : List Int)).bind fun t102 => (if t102 = 0 then ((impl_isRadius.f a2).bind fun t103 => (if t103 = true then (some 0) else (some 2))) else (some t102))
set_option maxHeartbeats 8000000 in
set_option maxRecDepth 100000 in
theorem impl_coverCode.calls (k : Nat) (A0_0 : Option Addr) (c0_0 : Nat) (l0_0 : List Int) (A1 : Option Addr) (c1 : Nat) (l1 : List Int) (a2 : Int) (r : Int) (w : World) (hr0_0 : Kd.C (Kd.int .i64) w A0_0 l0_0.length l0_0) (hc0_0 : l0_0.length ≤ c0_0) (hr1 : Kd.C (Kd.int .i64) w A1 l1.length l1) (hc1 : l1.length ≤ c1) (h : impl_coverCode.f k l0_0 l1 a2 = some r) :
  Calls Try.prog 98 #[.agg #[.slice A0_0 l0_0.length c0_0], .slice A1 l1.length c1, .int .i64 a2] w fun e w' => e = .returned (.int .i64 r) ∧ Below w.heap.size w w' := by
 have hu26 := Try.underlying26
 have HR0_0 := Aside0.mk hr0_0
 have HC0_0 := Aside0.mk hc0_0
 clear hr0_0 hc0_0
 have HR1 := Aside0.mk hr1
 have HC1 := Aside0.mk hc1
 clear hr1 hc1
 have HB := Aside0.mk (Below.refl w.heap.size w)
 have H : ((impl_codeCode.f k l0_0 l1 ([] : List Int)).bind fun t102 => (if t102 = 0 then ((impl_isRadius.f a2).bind fun t103 => (if t103 = true then (some 0) else (some 2))) else (some t102))) = some r := h
 clear h
 replace H := Option.bind_eq_some_iff.mp H
 obtain ⟨t102, A40, H⟩ := H
 replace H : (if t102 = 0 then ((impl_isRadius.f a2).bind fun t103 => (if t103 = true then (some 0) else (some 2))) else (some t102)) = some r := H
 have A4 := Aside0.mk A40
 clear A40
 by_cases c5 : t102 = 0
 rotate_left
 ·rw [if_neg c5] at H
  have c5b0 : (t102 == 0) = false := beq_eq_false_iff_ne.mpr c5
  have c5b1 : (t102 != 0) = true := bne_iff_ne.mpr c5
  obtain rfl := Option.some.inj H
  go_enter Try.func98, Try.ntmps98
  go_wp2_with (first | ((with_reducible refine gate_dst (N := 3) rfl ?_); refine bx_ (N := 3) (cs := #[.slice A0_0 l0_0.length c0_0]) (t := 26) rfl rfl ?_; intro gb101 hg w14 hbox hb; have n0_ := b1_ HB hb; have n1_ := Aside0.mk (hbox); have n2_ := ge_ hg HB; have n3_ := ge_ hg HB; clear HB; have HB := n0_; have BK101 := n1_; have GW101 := n2_; have GE101 := n3_; clear n0_ n1_ n2_ n3_ hb hbox hg; have hcz15_0 := hz_ BK101; have hfz15_0 := blk_frozen BK101.out 0) | ((with_reducible refine gate_callee (f := 87) rfl ?_); refine gl_ (some 10) rfl rfl Try.func87 #[.agg #[.slice A0_0 l0_0.length c0_0], .slice A1 l1.length c1, .slice none 0 0] rfl ?_; (refine (impl_codeCode.calls k _ _ l0_0 _ _ l1 _ _ ([] : List Int) t102 _ ?side1 ?side2 ?side3 ?side4 ?side5 ?side6 A4.out).mono ?_); (case side1 => exact c2_ HR0_0 HB); (case side2 => exact HC0_0.out); (case side3 => exact c2_ HR1 HB); (case side4 => exact HC1.out); (case side5 => exact Kd.C_nil _ _); (case side6 => exact Nat.le_refl _); rintro e w16 ⟨rfl, hb⟩; refine ⟨_, rfl, ?_⟩; replace BK101 := a2_ BK101 hb; replace HB := b1_ HB hb; (try clear hb); (try clear hb2); (try clear hk); (try clear hi)))
  go_ret
  exact ⟨t5_, gb_ HB.out⟩

 rw [if_pos c5] at H
 have c5b0 : (t102 == 0) = true := beq_iff_eq.mpr c5
 have c5b1 : (t102 != 0) = false := bne_eq_false_iff_eq.mpr c5
 clear c5
 replace H := Option.bind_eq_some_iff.mp H
 obtain ⟨t103, A60, H⟩ := H
 replace H : (if t103 = true then (some 0) else (some 2)) = some r := H
 have A6 := Aside0.mk A60
 clear A60
 by_cases c7 : t103 = true
 ·subst c7
  have H1 : (some 0) = some r := by rw [if_pos rfl] at H; exact H
  clear H
  have H := H1
  clear H1
  obtain rfl := Option.some.inj H
  go_enter Try.func98, Try.ntmps98
  go_wp2_with (first | ((with_reducible refine gate_dst (N := 3) rfl ?_); refine bx_ (N := 3) (cs := #[.slice A0_0 l0_0.length c0_0]) (t := 26) rfl rfl ?_; intro gb101 hg w8 hbox hb; have n0_ := b1_ HB hb; have n1_ := Aside0.mk (hbox); have n2_ := ge_ hg HB; have n3_ := ge_ hg HB; clear HB; have HB := n0_; have BK101 := n1_; have GW101 := n2_; have GE101 := n3_; clear n0_ n1_ n2_ n3_ hb hbox hg; have hcz9_0 := hz_ BK101; have hfz9_0 := blk_frozen BK101.out 0) | ((with_reducible refine gate_callee (f := 87) rfl ?_); refine gl_ (some 10) rfl rfl Try.func87 #[.agg #[.slice A0_0 l0_0.length c0_0], .slice A1 l1.length c1, .slice none 0 0] rfl ?_; (refine (impl_codeCode.calls k _ _ l0_0 _ _ l1 _ _ ([] : List Int) t102 _ ?side1 ?side2 ?side3 ?side4 ?side5 ?side6 A4.out).mono ?_); (case side1 => exact c2_ HR0_0 HB); (case side2 => exact HC0_0.out); (case side3 => exact c2_ HR1 HB); (case side4 => exact HC1.out); (case side5 => exact Kd.C_nil _ _); (case side6 => exact Nat.le_refl _); rintro e w10 ⟨rfl, hb⟩; refine ⟨_, rfl, ?_⟩; replace BK101 := a2_ BK101 hb; replace HB := b1_ HB hb; (try clear hb); (try clear hb2); (try clear hk); (try clear hi)) | ((with_reducible refine gate_callee (f := 112) rfl ?_); refine gl_ (some 15) rfl rfl Try.func112 #[.int .i64 a2] rfl ?_; (with_reducible refine (impl_isRadius.calls a2 true _ A6.out).mono ?_); rintro e w' ⟨rfl, ⟨nd, rfl⟩⟩; refine ⟨_, rfl, ?_⟩))
  go_ret
  exact ⟨t5_, gb_ HB.out⟩
 replace c7 := Bool.eq_false_iff.mpr c7
 subst c7
 have H1 : (some 2) = some r := by rw [if_neg (show ¬ (false = true) by decide)] at H; exact H
 clear H
 have H := H1
 clear H1
 obtain rfl := Option.some.inj H
 go_enter Try.func98, Try.ntmps98
 go_wp2_with (first | ((with_reducible refine gate_dst (N := 3) rfl ?_); refine bx_ (N := 3) (cs := #[.slice A0_0 l0_0.length c0_0]) (t := 26) rfl rfl ?_; intro gb101 hg w11 hbox hb; have n0_ := b1_ HB hb; have n1_ := Aside0.mk (hbox); have n2_ := ge_ hg HB; have n3_ := ge_ hg HB; clear HB; have HB := n0_; have BK101 := n1_; have GW101 := n2_; have GE101 := n3_; clear n0_ n1_ n2_ n3_ hb hbox hg; have hcz12_0 := hz_ BK101; have hfz12_0 := blk_frozen BK101.out 0) | ((with_reducible refine gate_callee (f := 87) rfl ?_); refine gl_ (some 10) rfl rfl Try.func87 #[.agg #[.slice A0_0 l0_0.length c0_0], .slice A1 l1.length c1, .slice none 0 0] rfl ?_; (refine (impl_codeCode.calls k _ _ l0_0 _ _ l1 _ _ ([] : List Int) t102 _ ?side1 ?side2 ?side3 ?side4 ?side5 ?side6 A4.out).mono ?_); (case side1 => exact c2_ HR0_0 HB); (case side2 => exact HC0_0.out); (case side3 => exact c2_ HR1 HB); (case side4 => exact HC1.out); (case side5 => exact Kd.C_nil _ _); (case side6 => exact Nat.le_refl _); rintro e w13 ⟨rfl, hb⟩; refine ⟨_, rfl, ?_⟩; replace BK101 := a2_ BK101 hb; replace HB := b1_ HB hb; (try clear hb); (try clear hb2); (try clear hk); (try clear hi)) | ((with_reducible refine gate_callee (f := 112) rfl ?_); refine gl_ (some 15) rfl rfl Try.func112 #[.int .i64 a2] rfl ?_; (with_reducible refine (impl_isRadius.calls a2 false _ A6.out).mono ?_); rintro e w' ⟨rfl, ⟨nd, rfl⟩⟩; refine ⟨_, rfl, ?_⟩))
 go_ret
 exact ⟨t5_, gb_ HB.out⟩
mutual
def spec_l02Times.l0 : Nat → List Int → Int → List Int → Int → List Int → Option (List Int)
  | 0, _, _, _, _, _ => none
  | k + 1, x1, x2, x7, x8, x102000 => if x8 < (x1.length : Int) then (if 0 ≤ x8 then ((spec_l01Ball.f k x102000 (rd x1 x8) x2).bind fun t107 => (spec_l02Times.l1 k x1 x2 x7 x8 t107 0 x102000)) else (none)) else (some x7)
def spec_l02Times.l1 : Nat → List Int → Int → List Int → Int → List Int → Int → List Int → Option (List Int)
  | 0, _, _, _, _, _, _, _ => none
  | k + 1, x1, x2, x7, x8, x9, x10, x102000 => if x10 < (x9.length : Int) then (if 0 ≤ x10 then (if 0 ≤ (rd x9 x10) then (if (rd x9 x10) < (x7.length : Int) then (spec_l02Times.l1 k x1 x2 (x7.set ((rd x9 x10) : Int).toNat (wrap64 ((rd x7 (rd x9 x10)) + 1))) x8 x9 (wrap64 (x10 + 1)) x102000) else (none)) else (none)) else (none)) else (spec_l02Times.l0 k x1 x2 x7 (wrap64 (x8 + 1)) x102000)
end
def spec_l02Times.f (k : Nat) (l0_0 : List Int) (l1 : List Int) (a2 : Int) : Option (List Int) := (spec_l01N.f k l0_0).bind fun t102 => (if 0 ≤ t102 then (if (t102 : Int).toNat ≤ 35184372088832 then (spec_l02Times.l0 k l1 a2 (List.replicate (t102 : Int).toNat 0) 0 l0_0) else (none)) else (none))
def spec_l02Times.T5 : Bool × List (List Nat × List Nat) := (true, [([], []), ([], []), ([], []), ([1, 2], [1, 2]), ([3], [3]), ([], []), ([0, 4, 5], [0, 4, 5]), ([6, 6, 0, 1, 2, 3, 4, 5, 6], [6])])
def spec_l02Times.B5 : List Nat := [0, 0, 0, 6, 14, 0, 63, 127]
theorem spec_l02Times.tab5 : rtab .any (opsOf Try.f103 5) = spec_l02Times.T5 := by kernel_rfl
theorem spec_l02Times.bits5 : waitsOk spec_l02Times.T5.2 spec_l02Times.B5 = true := by kernel_rfl
set_option maxHeartbeats 8000000 in
set_option maxRecDepth 100000 in
theorem spec_l02Times.calls (k : Nat) (A0_0 : Option Addr) (c0_0 : Nat) (l0_0 : List Int) (A1 : Option Addr) (c1 : Nat) (l1 : List Int) (a2 : Int) (r : List Int) (w : World) (hr0_0 : Kd.C (Kd.int .i64) w A0_0 l0_0.length l0_0) (hc0_0 : l0_0.length ≤ c0_0) (hr1 : Kd.C (Kd.int .i64) w A1 l1.length l1) (hc1 : l1.length ≤ c1) (h : spec_l02Times.f k l0_0 l1 a2 = some r) :
  Calls Try.prog 103 #[.agg #[.slice A0_0 l0_0.length c0_0], .slice A1 l1.length c1, .int .i64 a2] w fun e w' => ∃ v0_ : Value, e = .returned (v0_) ∧ Kd.R (Kd.int .i64) 2 w' w.heap.size (fun _ => True) v0_ r ∧ Below w.heap.size w w' := by
 have hu26 := Try.underlying26
 have HR0_0 := Aside0.mk hr0_0
 have HC0_0 := Aside0.mk hc0_0
 clear hr0_0 hc0_0
 have HR1 := Aside0.mk hr1
 have HC1 := Aside0.mk hc1
 clear hr1 hc1
 have HB := Aside0.mk (Below.refl w.heap.size w)
 have H : ((spec_l01N.f k l0_0).bind fun t102 => (if 0 ≤ t102 then (if (t102 : Int).toNat ≤ 35184372088832 then (spec_l02Times.l0 k l1 a2 (List.replicate (t102 : Int).toNat 0) 0 l0_0) else (none)) else (none))) = some r := h
 clear h
 replace H := Option.bind_eq_some_iff.mp H
 obtain ⟨t102, A40, H⟩ := H
 replace H : (if 0 ≤ t102 then (if (t102 : Int).toNat ≤ 35184372088832 then (spec_l02Times.l0 k l1 a2 (List.replicate (t102 : Int).toNat 0) 0 l0_0) else (none)) else (none)) = some r := H
 have A4 := Aside0.mk A40
 clear A40
 by_cases c5 : 0 ≤ t102
 rotate_left
 ·rw [if_neg c5] at H
  exact absurd H (by simp)

 rw [if_pos c5] at H
 have c5b0 := eq_true c5
 have c5b1 : decide (0 ≤ t102) = true := decide_eq_true c5
 clear c5
 by_cases c6 : (t102 : Int).toNat ≤ 35184372088832
 rotate_left
 ·rw [if_neg c6] at H
  exact absurd H (by simp)
 rw [if_pos c6] at H
 have c6b0 := eq_true c6
 have c6b1 : decide ((t102 : Int).toNat ≤ 35184372088832) = true := decide_eq_true c6
 clear c6
 obtain ⟨y103, hy103⟩ : ∃ y_ : List Int, y_ = (List.replicate (t102 : Int).toNat 0) := ⟨_, rfl⟩
 replace H : (spec_l02Times.l0 k l1 a2 y103 0 l0_0) = some r := y_ H
 have Ny103 := Aside0.mk hy103
 clear hy103
 have H' := Aside0.mk H
 clear H
 go_enter Try.func103, Try.ntmps103
 go_wp2_with (first | ((with_reducible refine gate_dst (N := 3) rfl ?_); refine bx_ (N := 3) (cs := #[.slice A0_0 l0_0.length c0_0]) (t := 26) rfl rfl ?_; intro gb101 hg w7 hbox hb; have n0_ := b1_ HB hb; have n1_ := Aside0.mk (hbox); have n2_ := ge_ hg HB; have n3_ := ge_ hg HB; clear HB; have HB := n0_; have BK101 := n1_; have GW101 := n2_; have GE101 := n3_; clear n0_ n1_ n2_ n3_ hb hbox hg; have hcz8_0 := hz_ BK101; have hfz8_0 := blk_frozen BK101.out 0) | ((with_reducible refine gate_callee (f := 76) rfl ?_); refine gl_ (some 12) rfl rfl Try.func76 #[.agg #[.slice A0_0 l0_0.length c0_0]] rfl ?_; (with_reducible refine (spec_l01N.calls k _ _ l0_0 t102 _ ?side1 ?side2 A4.out).mono ?_); (case side1 => exact c2_ HR0_0 HB); (case side2 => exact HC0_0.out); rintro e w9 ⟨rfl, hb⟩; refine ⟨_, rfl, ?_⟩; replace BK101 := a2_ BK101 hb; replace HB := b1_ HB hb; (try clear hb); (try clear hb2); (try clear hk); (try clear hi)) | ((with_reducible refine gate_dst (N := 13) rfl ?_); refine Kd.R_make (Kd.int .i64) _ 2 rfl (N := 13) rfl 24 _ _ rfl t102 rfl rfl Try.underlying24 (.int .i64 0) 8 info2 rfl (by decide) (by omega) 0 (ok := fun _ => True) (okp := fun _ => True) rfl (fun _ hk => hk) trivial (of_decide_eq_true t6_) (Nat.le_trans (Nat.mul_le_mul_right _ (of_decide_eq_true t6_ : t102.toNat ≤ 35184372088832)) (by omega)) (Below.refl _ _) (Nat.le_refl _) ?_; intro v104 w10 ho11 hb hg_ hnew_; clear hg_ hnew_; (first | rw [← Ny103.out] at ho11 | (simp only [Int.reduceToNat] at ho11; rw [← Ny103.out] at ho11)); have n0_ := Aside0.mk (Kd.R_lower ho11 (below_size (gb_ HB.out))); have n1_ := a2_ BK101 hb; have n2_ := b1_ HB hb; clear BK101 HB; have HO105 := n0_; have BK101 := n1_; have HB := n2_; clear n0_ n1_ n2_ hb ho11))
 go_loopg [8] k (fun kq v8 w' => ∃ (x7_1 : List Int) (x8_1 : Int), v8 = .int .i64 x8_1 ∧ Aside0 (spec_l02Times.l0 kq l1 a2 x7_1 x8_1 l0_0 = some r) ∧ Aside0 (kq ≤ k) ∧ Aside0 (Kd.R (Kd.int .i64) 2 w' w.heap.size (fun _ => True) v104 x7_1) ∧ Aside0 (w'.heap[gb101]? = some (.cells #[(.slice A0_0 l0_0.length c0_0)] 26 (0, 0))) ∧ Aside0 (Below w.heap.size w w'))
 case atStart => exact ⟨(y103), (0), t2_, H', ⟨Nat.le_refl _⟩, ⟨rb_ HO105.out⟩, ⟨bb_ BK101.out⟩, ⟨gb_ HB.out⟩⟩
 clear H'
 try clear c1
 try clear p2
 try clear c5
 try clear c5b0
 try clear c5b1
 try clear c6
 try clear c6b0
 try clear c6b1
 try clear c7
 try clear c10
 try clear hcz8_0
 try clear hfz8_0
 obtain ⟨x7_1, x8_1, rfl, HA, HK1, HO_7, BK101, HB⟩ := hrel
 obtain _ | k1 := gk
 ·exact absurd HA.out (by simp [spec_l02Times.l0])
 have H := HA.out
 clear HA
 simp only [spec_l02Times.l0] at H
 by_cases c12 : x8_1 < (l1.length : Int)
 rotate_left
 ·rw [if_neg c12] at H
  have c12b0 : decide (x8_1 < (l1.length : Int)) = false := decide_eq_false c12
  clear c12
  obtain rfl := Option.some.inj H
  go_wp2
  go_ret
  exact ⟨_, t5_, rb_ HO_7.out, gb_ HB.out⟩
 rw [if_pos c12] at H
 have c12b0 : decide (x8_1 < (l1.length : Int)) = true := decide_eq_true c12
 clear c12
 by_cases c13 : 0 ≤ x8_1
 rotate_left
 ·rw [if_neg c13] at H
  exact absurd H (by simp)
 rw [if_pos c13] at H
 have c13b0 : decide (0 ≤ x8_1) = true := decide_eq_true c13
 clear c13
 replace H := Option.bind_eq_some_iff.mp H
 obtain ⟨t107, A140, H⟩ := H
 replace H : (spec_l02Times.l1 k1 l1 a2 x7_1 x8_1 t107 0 l0_0) = some r := H
 have A14 := Aside0.mk A140
 clear A140
 have H' := Aside0.mk H
 clear H
 try go_wp2
 replace HO_7 := Aside0.mk (Kd.R_drew HO_7.out)
 replace BK101 := Aside0.mk (blk_drew BK101.out)
 replace HB := Aside0.mk (below_drew1 HB.out)
 have p106 : 0 ≤ (x8_1 : Int) := of_decide_eq_true t6_
 have q106 : x8_1 < (l1.length : Int) := of_decide_eq_true t6_
 obtain ⟨ad106, e106, hx106_0⟩ := Kd.at_int HR1.out x8_1 p106 q106
 have hw106_0 := hx106_0
 cases e106
 replace hx106_0 := (HB.out.cell (World.block_lt_of_cell? _ _ hx106_0)).trans hx106_0
 replace p106 := eq_true p106
 replace q106 := eq_true q106
 refine start_ (n := 8) (S := fun w' => w'.cell? ⟨gb101, 0, none⟩ = some (.slice A0_0 l0_0.length c0_0) ∧ w'.cell? (ad106.add (x8_1).toNat) = some (.int .i64 (rd l1 x8_1))) (ds := []) #[false, false, false, false, false, false, false, false] (by kernel_rfl) rfl rfl ⟨(blk_cell BK101.out 0).trans rfl, ((HB.out.cell (World.block_lt_of_cell? _ _ hw106_0)).trans hw106_0)⟩ (fun hHeld => ?_); refine with_tabW spec_l02Times.tab5 spec_l02Times.bits5 (fun HT_ HW_ => ?_)
 generalize wr.drew = w15 at HO_7 BK101 HB hx106_0 hHeld ⊢
 refine pu_ (i := 1) (N := some 21) (v := ?_) (a' := ?_) #[false, true, false, false, false, false, false, false] rfl rfl HT_ (Or.inl ⟨by rfl, ?_⟩) ?_ ?_
 rotate_left
 ·exact t7_
 rotate_left
 ·exact t4_
 refine pu_ (i := 2) (N := some 22) (v := ?_) (a' := ?_) #[false, true, true, false, false, false, false, false] rfl rfl HT_ (Or.inl ⟨by rfl, ?_⟩) ?_ ?_
 rotate_left
 ·exact t7_
 rotate_left
 ·exact t4_
 refine pu_ (i := 3) (N := some 23) (v := ?_) (a' := ?_) #[false, true, true, true, false, false, false, false] rfl rfl HT_ (Or.inl ⟨by rfl, ?_⟩) ?_ ?_
 rotate_left
 ·exact t7_
 rotate_left
 ·exact t4_
 refine pu_ (i := 5) (N := some 25) (v := ?_) (a' := ?_) #[false, true, true, true, false, true, false, false] rfl rfl HT_ (Or.inl ⟨by rfl, ?_⟩) ?_ ?_
 rotate_left
 ·exact t7_
 rotate_left
 ·exact t4_
 refine tk_ (i := 0) (N := some 20) (v := ?_) (a' := ?_) #[true, true, true, true, false, true, false, false] rfl rfl HT_ HW_ (Or.inl ⟨by rfl, ?_⟩) hHeld ?_ ?_
 rotate_left
 ·rintro w' ⟨s0, s1⟩
  go_simp
  with_reducible rfl
 rotate_left
 ·exact t4_
 refine tk_ (i := 4) (N := some 24) (v := ?_) (a' := ?_) #[true, true, true, true, true, true, false, false] rfl rfl HT_ HW_ (Or.inl ⟨by rfl, ?_⟩) hHeld ?_ ?_
 rotate_left
 ·rintro w' ⟨s0, s1⟩
  go_simp
  with_reducible rfl
 rotate_left
 ·exact t4_
 refine on_ (i := 6) (N := some 26) #[true, true, true, true, true, true, true, false] rfl rfl HT_ (fun K hK => ?_)
 refine goes_ Try.func72 (by kernel_rfl) rfl #[.agg #[.slice A0_0 l0_0.length c0_0], .int .i64 (rd l1 x8_1), .int .i64 a2] (by rfl) rfl rfl t1_ ?_
 with_reducible refine (spec_l01Ball.calls k1 _ _ l0_0 (rd l1 x8_1) a2 t107 _ ?side1 ?side2 A14.out).mono ?_
 (case side1 => exact c2_ HR0_0 HB)
 (case side2 => exact HC0_0.out)
 rintro e w16 ⟨v108, rfl, ho0, hb⟩
 refine ⟨_, rfl, ?_⟩
 have HO109 := Aside0.mk (Kd.R_lower (Kd.R_new' ho0 (Kd.R_lt (rb_ HO_7.out))) (below_size (gb_ HB.out)))
 replace HO_7 := a5_ HO_7 ho0 hb
 replace BK101 := a2_ BK101 hb
 replace HB := b1_ HB hb
 (try clear hb)
 (try clear hb2)
 (try clear hk)
 (try clear hi)
 (try clear ho0)
 refine hK.out _ _ ⟨(blk_cell BK101.out 0).trans rfl, ((HB.out.cell (World.block_lt_of_cell? _ _ hw106_0)).trans hw106_0)⟩ (fun hHeld => ?_)
 clear hK K
 refine norm_ (a' := ?_) ?_ ?_
 rotate_left
 ·show Act.put _ (some 26) _ = _
  simp only [Act.put, List.setIfInBounds_toArray, List.set_cons_zero, List.set_cons_succ, i64_w, i32_w]
  rfl
 refine pu_ (i := 7) (N := some 9) (v := ?_) (a' := ?_) #[true, true, true, true, true, true, true, true] rfl rfl HT_ (Or.inl ⟨by rfl, ?_⟩) ?_ ?_
 rotate_left
 ·exact t7_
 rotate_left
 ·exact t4_
 refine done_ (done_of HT_.out (by kernel_rfl)) ?_
 try go_wp2
 go_loopg [10] k1 (fun kq v10 w' => ∃ (x7_2 : List Int) (x10_2 : Int), v10 = .int .i64 x10_2 ∧ Aside0 (spec_l02Times.l1 kq l1 a2 x7_2 x8_1 t107 x10_2 l0_0 = some r) ∧ Aside0 (kq ≤ k1) ∧ Aside0 (Kd.R (Kd.int .i64) 2 w' w.heap.size (fun k_ => OB_ k_ v108) v104 x7_2) ∧ Aside0 (Kd.R (Kd.int .i64) 2 w' w.heap.size (fun k_ => OB_ k_ v104) v108 t107) ∧ Aside0 (w'.heap[gb101]? = some (.cells #[(.slice A0_0 l0_0.length c0_0)] 26 (0, 0))) ∧ Aside0 (Below w.heap.size w w'))
 case atStart => exact ⟨(x7_1), (0), t2_, H', ⟨Nat.le_refl _⟩, ⟨by (with_reducible repeat (first | apply Kd.R_alloc | apply Kd.R_drewN | apply Kd.R_drew)); exact Kd.R_mono HO_7.out (fun _ hk => hk.2)⟩, ⟨by (with_reducible repeat (first | apply Kd.R_alloc | apply Kd.R_drewN | apply Kd.R_drew)); exact Kd.R_mono HO109.out (fun _ hk => hk.2)⟩, ⟨bb_ BK101.out⟩, ⟨gb_ HB.out⟩⟩
 clear H'
 try clear c1
 try clear p1
 try clear q1
 try clear hx1
 try clear p2
 try clear c5
 try clear c5b0
 try clear c5b1
 try clear c6
 try clear c6b0
 try clear c6b1
 try clear c7
 try clear c10
 try clear p10
 try clear q10
 try clear hx10
 try clear c12
 try clear c12b0
 try clear c13
 try clear c13b0
 try clear hcz8_0
 try clear hfz8_0
 try clear hx106_0
 try clear p106
 try clear p2
 try clear q106
 obtain ⟨x7_2, x10_2, rfl, HA, HK2, HO_7, HO_9, BK101, HB⟩ := hrel
 obtain _ | k2 := gk
 ·exact absurd HA.out (by simp [spec_l02Times.l1])
 have H := HA.out
 clear HA
 simp only [spec_l02Times.l1] at H
 by_cases c17 : x10_2 < (t107.length : Int)
 rotate_left
 ·rw [if_neg c17] at H
  have c17b0 : decide (x10_2 < (t107.length : Int)) = false := decide_eq_false c17
  clear c17
  have H' := Aside0.mk H
  clear H
  obtain ⟨Ao26, co26, eo26⟩ := Kd.R_slice HO_9.out
  subst eo26
  go_wp2
  go_roundg k2
  case measure => have := HK1.out; have := HK2.out; omega
  case rel => exact ⟨(x7_2), (wrap64 (x8_1 + 1)), t2_, H', ⟨by have := HK1.out; have := HK2.out; omega⟩, ⟨by (with_reducible repeat (first | apply Kd.R_alloc | apply Kd.R_drewN | apply Kd.R_drew)); exact Kd.R_mono HO_7.out (fun _ hk => trivial)⟩, ⟨bb_ BK101.out⟩, ⟨gb_ HB.out⟩⟩
 rw [if_pos c17] at H
 have c17b0 : decide (x10_2 < (t107.length : Int)) = true := decide_eq_true c17
 clear c17
 by_cases c18 : 0 ≤ x10_2
 rotate_left
 ·rw [if_neg c18] at H
  exact absurd H (by simp)
 rw [if_pos c18] at H
 have c18b0 : decide (0 ≤ x10_2) = true := decide_eq_true c18
 clear c18
 by_cases c19 : 0 ≤ (rd t107 x10_2)
 rotate_left
 ·rw [if_neg c19] at H
  exact absurd H (by simp)
 rw [if_pos c19] at H
 have c19b0 : decide (0 ≤ (rd t107 x10_2)) = true := decide_eq_true c19
 clear c19
 by_cases c20 : (rd t107 x10_2) < (x7_2.length : Int)
 rotate_left
 ·rw [if_neg c20] at H
  exact absurd H (by simp)
 rw [if_pos c20] at H
 have c20b0 : decide ((rd t107 x10_2) < (x7_2.length : Int)) = true := decide_eq_true c20
 clear c20
 obtain ⟨y112, hy112⟩ : ∃ y_ : List Int, y_ = (x7_2.set ((rd t107 x10_2) : Int).toNat (wrap64 ((rd x7_2 (rd t107 x10_2)) + 1))) := ⟨_, rfl⟩
 replace H : (spec_l02Times.l1 k2 l1 a2 y112 x8_1 t107 (wrap64 (x10_2 + 1)) l0_0) = some r := y_ H
 have Ny112 := Aside0.mk hy112
 clear hy112
 have H' := Aside0.mk H
 clear H
 obtain ⟨Ao22, co22, eo22⟩ := Kd.R_slice HO_9.out
 subst eo22
 have p110 : 0 ≤ (x10_2 : Int) := of_decide_eq_true t6_
 have q110 : x10_2 < (t107.length : Int) := of_decide_eq_true t6_
 obtain ⟨ad110, e110, hx110_0⟩ := Kd.at_int (Kd.R_reads' HO_9.out).2.2 x10_2 p110 q110
 cases e110
 replace p110 := eq_true p110
 replace q110 := eq_true q110
 obtain ⟨Ao23, co23, eo23⟩ := Kd.R_slice HO_7.out
 subst eo23
 have p111 : 0 ≤ ((rd t107 x10_2) : Int) := of_decide_eq_true t6_
 have q111 : (rd t107 x10_2) < (x7_2.length : Int) := of_decide_eq_true t6_
 obtain ⟨ad111, e111, hx111_0⟩ := Kd.at_int (Kd.R_reads' HO_7.out).2.2 (rd t107 x10_2) p111 q111
 cases e111
 replace p111 := eq_true p111
 replace q111 := eq_true q111
 have p21 : 0 ≤ ((rd t107 x10_2) : Int) := of_decide_eq_true t6_
 have q21 : ((rd t107 x10_2) : Int) < ((x7_2.length : Int) : Int) := of_decide_eq_true t6_
 obtain ⟨go21, co21, eo21, gb21, gl21, cl21, HG21⟩ := Kd.R_form HO_7.out (by omega)
 (first | cases eo21 | (injection eo21 with ea_ en_ ec_; (first | subst ea_ | (injection ea_ with ea_; subst ea_)); subst ec_; clear en_))
 have GB21 := Aside0.mk gb21
 have GG21 := Aside0.mk HG21
 clear gb21 gl21 HG21
 (first | simp only [add_plain] at hx111_0 | skip)
 obtain ⟨hx21_0, hf21_0⟩ := Kd.R_celln 0 HO_7.out ((rd t107 x10_2) : Int) p21 q21
 replace p21 := eq_true p21
 replace q21 := eq_true q21
 have HP24 := Kd.R_putg HO_7.out ((rd t107 x10_2) : Int) (wrap64 ((rd x7_2 (rd t107 x10_2)) + 1))
 go_wp2_with (first | ((with_reducible refine gate_store (t := 2) (p := 41) rfl ?_); refine store_event (t := 2) (p := 41) (v := ?vo_w25) (w1 := (wr.setCell ⟨go21, ((rd t107 x10_2) : Int).toNat, none⟩ (.int .i64 (wrap64 ((rd x7_2 (rd t107 x10_2)) + 1))))) ?hg ?ho ?hn ?hr ?_; (case ho => rfl); (case hg => rfl); (case hn => rfl); (case hr => exact t3_); intro w25 hw; have hg : wr.grownBy w25 (some go21) := (by rw [hw]; exact HP24.2); have hp_ : Kd.R (Kd.int .i64) 2 w25 w.heap.size (fun k_ => OB_ k_ (.slice (some ad110) t107.length co22)) (.slice (some ⟨go21, 0, none⟩) x7_2.length co23) y112 := (by rw [hw, Ny112.out]; exact HP24.1); clear HP24; have n0_ := Aside0.mk (hp_); have n1_ := Aside0.mk (Kd.R_after (v := (.slice (some ⟨go21, 0, none⟩) x7_2.length co23)) (v1 := (.slice (some ⟨go21, 0, none⟩) x7_2.length co23)) (ok := (fun _ => True)) (rb_ (Kd.R_mono HO_9.out (fun _ hk => ⟨trivial, hk⟩))) hg (.inl rfl)); have n2_ := Aside0.mk (blk_grown (g := gb101) (o := .cells #[.slice A0_0 l0_0.length c0_0] 26 (0, 0)) (bb_ BK101.out) hg (Kd.R_ne HO_7.out BK101.out (by decide))); have n3_ := Aside0.mk ((by rw [hw]; exact below_set (HB.out) GB21.out : Below w.heap.size w w25)); clear HO_7 HO_9 BK101 HB; have HO_7 := n0_; have HO_9 := n1_; have BK101 := n2_; have HB := n3_; clear n0_ n1_ n2_ n3_ hg hw hp_))
 go_roundg k2
 case measure => have := HK1.out; have := HK2.out; omega
 case rel => exact ⟨(y112), (wrap64 (x10_2 + 1)), t2_, H', ⟨by have := HK1.out; have := HK2.out; omega⟩, ⟨rb_ HO_7.out⟩, ⟨by (with_reducible repeat (first | apply Kd.R_alloc | apply Kd.R_drewN | apply Kd.R_drew)); exact Kd.R_mono HO_9.out (fun _ hk => hk.2)⟩, ⟨bb_ BK101.out⟩, ⟨gb_ HB.out⟩⟩
def spec_l02Needed.l0 : Nat → List Int → List Int → Int → Option (Bool)
  | 0, _, _, _ => none
  | k + 1, x1, x9, x10 => if x10 < (x9.length : Int) then (if 0 ≤ x10 then (if 0 ≤ (rd x9 x10) then (if (rd x9 x10) < (x1.length : Int) then (if (rd x1 (rd x9 x10)) = 1 then (some true) else (spec_l02Needed.l0 k x1 x9 (wrap64 (x10 + 1)))) else (none)) else (none)) else (none)) else (some false)
def spec_l02Needed.f (k : Nat) (l0_0 : List Int) (l1 : List Int) (a2 : Int) (a3 : Int) : Option (Bool) := (spec_l01Ball.f k l0_0 a2 a3).bind fun t102 => (spec_l02Needed.l0 k l1 t102 0)
set_option maxHeartbeats 8000000 in
set_option maxRecDepth 100000 in
theorem spec_l02Needed.calls (k : Nat) (A0_0 : Option Addr) (c0_0 : Nat) (l0_0 : List Int) (A1 : Option Addr) (c1 : Nat) (l1 : List Int) (a2 : Int) (a3 : Int) (r : Bool) (w : World) (hr0_0 : Kd.C (Kd.int .i64) w A0_0 l0_0.length l0_0) (hc0_0 : l0_0.length ≤ c0_0) (hr1 : Kd.C (Kd.int .i64) w A1 l1.length l1) (hc1 : l1.length ≤ c1) (h : spec_l02Needed.f k l0_0 l1 a2 a3 = some r) :
  Calls Try.prog 104 #[.agg #[.slice A0_0 l0_0.length c0_0], .slice A1 l1.length c1, .int .i64 a2, .int .i64 a3] w fun e w' => e = .returned (.bool r) ∧ Below w.heap.size w w' := by
 have hu26 := Try.underlying26
 have HR0_0 := Aside0.mk hr0_0
 have HC0_0 := Aside0.mk hc0_0
 clear hr0_0 hc0_0
 have HR1 := Aside0.mk hr1
 have HC1 := Aside0.mk hc1
 clear hr1 hc1
 have HB := Aside0.mk (Below.refl w.heap.size w)
 have H : ((spec_l01Ball.f k l0_0 a2 a3).bind fun t102 => (spec_l02Needed.l0 k l1 t102 0)) = some r := h
 clear h
 replace H := Option.bind_eq_some_iff.mp H
 obtain ⟨t102, A50, H⟩ := H
 replace H : (spec_l02Needed.l0 k l1 t102 0) = some r := H
 have A5 := Aside0.mk A50
 clear A50
 have H' := Aside0.mk H
 clear H
 go_enter Try.func104, Try.ntmps104
 go_wp2_with (first | ((with_reducible refine gate_dst (N := 4) rfl ?_); refine bx_ (N := 4) (cs := #[.slice A0_0 l0_0.length c0_0]) (t := 26) rfl rfl ?_; intro gb101 hg w6 hbox hb; have n0_ := b1_ HB hb; have n1_ := Aside0.mk (hbox); have n2_ := ge_ hg HB; have n3_ := ge_ hg HB; clear HB; have HB := n0_; have BK101 := n1_; have GW101 := n2_; have GE101 := n3_; clear n0_ n1_ n2_ n3_ hb hbox hg; have hcz7_0 := hz_ BK101; have hfz7_0 := blk_frozen BK101.out 0) | ((with_reducible refine gate_callee (f := 72) rfl ?_); refine gl_ (some 14) rfl rfl Try.func72 #[.agg #[.slice A0_0 l0_0.length c0_0], .int .i64 a2, .int .i64 a3] rfl ?_; (with_reducible refine (spec_l01Ball.calls k _ _ l0_0 a2 a3 t102 _ ?side1 ?side2 A5.out).mono ?_); (case side1 => exact c2_ HR0_0 HB); (case side2 => exact HC0_0.out); rintro e w8 ⟨v103, rfl, ho0, hb⟩; refine ⟨_, rfl, ?_⟩; have HO104 := Aside0.mk (Kd.R_lower ho0 (below_size (gb_ HB.out))); replace BK101 := a2_ BK101 hb; replace HB := b1_ HB hb; (try clear hb); (try clear hb2); (try clear hk); (try clear hi); (try clear ho0)))
 go_loopg [10] k (fun kq v10 w' => ∃ (x10_1 : Int), v10 = .int .i64 x10_1 ∧ Aside0 (spec_l02Needed.l0 kq l1 t102 x10_1 = some r) ∧ Aside0 (kq ≤ k) ∧ Aside0 (Kd.R (Kd.int .i64) 2 w' w.heap.size (fun _ => True) v103 t102) ∧ Aside0 (w'.heap[gb101]? = some (.cells #[(.slice A0_0 l0_0.length c0_0)] 26 (0, 0))) ∧ Aside0 (Below w.heap.size w w'))
 case atStart => exact ⟨(0), t2_, H', ⟨Nat.le_refl _⟩, ⟨rb_ HO104.out⟩, ⟨bb_ BK101.out⟩, ⟨gb_ HB.out⟩⟩
 clear H'
 try clear c1
 try clear p2
 try clear c7
 try clear hcz7_0
 try clear hfz7_0
 obtain ⟨x10_1, rfl, HA, HK1, HO_9, BK101, HB⟩ := hrel
 obtain _ | k1 := gk
 ·exact absurd HA.out (by simp [spec_l02Needed.l0])
 have H := HA.out
 clear HA
 simp only [spec_l02Needed.l0] at H
 by_cases c9 : x10_1 < (t102.length : Int)
 rotate_left
 ·rw [if_neg c9] at H
  have c9b0 : decide (x10_1 < (t102.length : Int)) = false := decide_eq_false c9
  clear c9
  obtain rfl := Option.some.inj H
  obtain ⟨Ao16, co16, eo16⟩ := Kd.R_slice HO_9.out
  subst eo16
  go_wp2
  go_ret
  exact ⟨t5_, gb_ HB.out⟩

 rw [if_pos c9] at H
 have c9b0 : decide (x10_1 < (t102.length : Int)) = true := decide_eq_true c9
 clear c9
 by_cases c10 : 0 ≤ x10_1
 rotate_left
 ·rw [if_neg c10] at H
  exact absurd H (by simp)
 rw [if_pos c10] at H
 have c10b0 : decide (0 ≤ x10_1) = true := decide_eq_true c10
 clear c10
 by_cases c11 : 0 ≤ (rd t102 x10_1)
 rotate_left
 ·rw [if_neg c11] at H
  exact absurd H (by simp)
 rw [if_pos c11] at H
 have c11b0 : decide (0 ≤ (rd t102 x10_1)) = true := decide_eq_true c11
 clear c11
 by_cases c12 : (rd t102 x10_1) < (l1.length : Int)
 rotate_left
 ·rw [if_neg c12] at H
  exact absurd H (by simp)
 rw [if_pos c12] at H
 have c12b0 : decide ((rd t102 x10_1) < (l1.length : Int)) = true := decide_eq_true c12
 clear c12
 by_cases c13 : (rd l1 (rd t102 x10_1)) = 1
 ·rw [if_pos c13] at H
  have c13b0 : ((rd l1 (rd t102 x10_1)) == 1) = true := beq_iff_eq.mpr c13
  have c13b1 : ((rd l1 (rd t102 x10_1)) != 1) = false := bne_eq_false_iff_eq.mpr c13
  clear c13
  obtain rfl := Option.some.inj H
  obtain ⟨Ao14, co14, eo14⟩ := Kd.R_slice HO_9.out
  subst eo14
  have p105 : 0 ≤ (x10_1 : Int) := of_decide_eq_true t6_
  have q105 : x10_1 < (t102.length : Int) := of_decide_eq_true t6_
  obtain ⟨ad105, e105, hx105_0⟩ := Kd.at_int (Kd.R_reads' HO_9.out).2.2 x10_1 p105 q105
  cases e105
  replace p105 := eq_true p105
  replace q105 := eq_true q105
  have p106 : 0 ≤ ((rd t102 x10_1) : Int) := of_decide_eq_true t6_
  have q106 : (rd t102 x10_1) < (l1.length : Int) := of_decide_eq_true t6_
  obtain ⟨ad106, e106, hx106_0⟩ := Kd.at_int HR1.out (rd t102 x10_1) p106 q106
  cases e106
  replace hx106_0 := (HB.out.cell (World.block_lt_of_cell? _ _ hx106_0)).trans hx106_0
  replace p106 := eq_true p106
  replace q106 := eq_true q106
  go_wp2
  go_ret
  exact ⟨t5_, gb_ HB.out⟩
 rw [if_neg c13] at H
 have c13b0 : ((rd l1 (rd t102 x10_1)) == 1) = false := beq_eq_false_iff_ne.mpr c13
 have c13b1 : ((rd l1 (rd t102 x10_1)) != 1) = true := bne_iff_ne.mpr c13
 have H' := Aside0.mk H
 clear H
 obtain ⟨Ao15, co15, eo15⟩ := Kd.R_slice HO_9.out
 subst eo15
 have p105 : 0 ≤ (x10_1 : Int) := of_decide_eq_true t6_
 have q105 : x10_1 < (t102.length : Int) := of_decide_eq_true t6_
 obtain ⟨ad105, e105, hx105_0⟩ := Kd.at_int (Kd.R_reads' HO_9.out).2.2 x10_1 p105 q105
 cases e105
 replace p105 := eq_true p105
 replace q105 := eq_true q105
 have p106 : 0 ≤ ((rd t102 x10_1) : Int) := of_decide_eq_true t6_
 have q106 : (rd t102 x10_1) < (l1.length : Int) := of_decide_eq_true t6_
 obtain ⟨ad106, e106, hx106_0⟩ := Kd.at_int HR1.out (rd t102 x10_1) p106 q106
 cases e106
 replace hx106_0 := (HB.out.cell (World.block_lt_of_cell? _ _ hx106_0)).trans hx106_0
 replace p106 := eq_true p106
 replace q106 := eq_true q106
 go_wp2
 go_roundg k1
 case measure => have := HK1.out; omega
 case rel => exact ⟨(wrap64 (x10_1 + 1)), t2_, H', ⟨by have := HK1.out; omega⟩, ⟨rb_ HO_9.out⟩, ⟨bb_ BK101.out⟩, ⟨gb_ HB.out⟩⟩
def spec_l01Near.f (s0_0 : List Int) (s0_1 : Int) (s0_2 : Int) (a1 : Int) : Option (Int × Int × Int) := (spec_l01Next.f s0_0 s0_1 s0_2 14).bind fun bt101 => (if bt101.1 = 0 then ((spec_l01Pick.f s0_0 bt101.2.1 bt101.2.2 (([(-1), wrap64 (a1 + 1), 1099511627776, (-4611686018427387904)] : List Int))).bind fun bt107 => (some (bt107.1, bt107.2.1, bt107.2.2))) else ((spec_l01Next.f s0_0 bt101.2.1 bt101.2.2 (wrap64 (a1 + 1))).bind fun bt110 => (some (bt110.1, bt110.2.1, bt110.2.2))))
set_option maxHeartbeats 8000000 in
set_option maxRecDepth 100000 in
theorem spec_l01Near.calls (g : Nat) (s0_0 : List Int) (s0_1 : Int) (s0_2 : Int) (a1 : Int) (r1 : Int) (r2 : Int) (r3 : Int) (w0 w : World) (hI : IsS91 w0 w g s0_0 s0_1 s0_2) (hB : Below w0.heap.size w0 w) (h : spec_l01Near.f s0_0 s0_1 s0_2 a1 = some (r1, r2, r3)) :
  Calls Try.prog 80 #[.pointer (some ⟨g, 0, none⟩), .int .i64 a1] w fun e w' => e = .returned (.int .i64 r1) ∧ IsS91 w0 w' g s0_0 r2 r3 ∧ Below w0.heap.size w0 w' ∧ KeepBut w w' g none := by
 have HI0 := Aside0.mk hI
 have HK := Aside0.mk (KeepBut.refl w g none)
 have HL := Aside0.mk hB.size
 clear hI
 have HW0 := Aside0.mk hB.size
 have HB := Aside0.mk hB
 clear hB
 have H : ((spec_l01Next.f s0_0 s0_1 s0_2 14).bind fun bt101 => (if bt101.1 = 0 then ((spec_l01Pick.f s0_0 bt101.2.1 bt101.2.2 (([(-1), wrap64 (a1 + 1), 1099511627776, (-4611686018427387904)] : List Int))).bind fun bt107 => (some (bt107.1, bt107.2.1, bt107.2.2))) else ((spec_l01Next.f s0_0 bt101.2.1 bt101.2.2 (wrap64 (a1 + 1))).bind fun bt110 => (some (bt110.1, bt110.2.1, bt110.2.2))))) = some (r1, r2, r3) := h
 clear h
 replace H := Option.bind_eq_some_iff.mp H
 obtain ⟨⟨t101, t102, t103⟩, A30, H⟩ := H
 replace H : (if t101 = 0 then ((spec_l01Pick.f s0_0 t102 t103 (([(-1), wrap64 (a1 + 1), 1099511627776, (-4611686018427387904)] : List Int))).bind fun bt107 => (some (bt107.1, bt107.2.1, bt107.2.2))) else ((spec_l01Next.f s0_0 t102 t103 (wrap64 (a1 + 1))).bind fun bt110 => (some (bt110.1, bt110.2.1, bt110.2.2)))) = some (r1, r2, r3) := H
 have A3 := Aside0.mk A30
 clear A30
 by_cases c4 : t101 = 0
 rotate_left
 ·rw [if_neg c4] at H
  have c4b0 : (t101 == 0) = false := beq_eq_false_iff_ne.mpr c4
  have c4b1 : (t101 != 0) = true := bne_iff_ne.mpr c4
  replace H := Option.bind_eq_some_iff.mp H
  obtain ⟨⟨t110, t111, t112⟩, A110, H⟩ := H
  replace H : (some (t110, t111, t112)) = some (r1, r2, r3) := H
  have A11 := Aside0.mk A110
  clear A110
  simp only [Option.some.injEq, Prod.mk.injEq] at H
  obtain ⟨rfl, rfl, rfl⟩ := H
  go_enter Try.func80, Try.ntmps80
  go_wp2_with (first | ((with_reducible refine gate_callee (f := 85) rfl ?_); refine gl_ (some 6) rfl rfl Try.func85 #[.pointer (some ⟨g, 0, none⟩), .int .i64 14] rfl ?_; (with_reducible refine (spec_l01Next.calls g s0_0 s0_1 s0_2 14 t101 t102 t103 w0 _ ?side1 ?side2 A3.out).mono ?_); (case side1 => exact i_ HI0); (case side2 => exact gb_ HB.out); rintro e w12 ⟨rfl, hi, hb, hk⟩; refine ⟨_, rfl, ?_⟩; replace HK := Aside0.mk (KeepBut.trans (kb_ HK) hk (.inl rfl)); replace HB := Aside0.mk (hb); replace HI0 := Aside0.mk (hi); (try clear hb); (try clear hb2); (try clear hk); (try clear hi)) | ((with_reducible refine gate_callee (f := 85) rfl ?_); refine gl_ (some 16) rfl rfl Try.func85 #[.pointer (some ⟨g, 0, none⟩), .int .i64 (wrap64 (a1 + 1))] rfl ?_; (with_reducible refine (spec_l01Next.calls g s0_0 t102 t103 (wrap64 (a1 + 1)) t110 t111 t112 w0 _ ?side1 ?side2 A11.out).mono ?_); (case side1 => exact i_ HI0); (case side2 => exact gb_ HB.out); rintro e w13 ⟨rfl, hi, hb, hk⟩; refine ⟨_, rfl, ?_⟩; replace HK := Aside0.mk (KeepBut.trans (kb_ HK) hk (.inl rfl)); replace HB := Aside0.mk (hb); replace HI0 := Aside0.mk (hi); (try clear hb); (try clear hb2); (try clear hk); (try clear hi)))
  go_ret
  exact ⟨t5_, i_ HI0, gb_ HB.out, kb_ HK⟩

 rw [if_pos c4] at H
 have c4b0 : (t101 == 0) = true := beq_iff_eq.mpr c4
 have c4b1 : (t101 != 0) = false := bne_eq_false_iff_eq.mpr c4
 clear c4
 obtain ⟨y104, hy104⟩ : ∃ y_ : List Int, y_ = (([(-1), wrap64 (a1 + 1), 1099511627776, (-4611686018427387904)] : List Int)) := ⟨_, rfl⟩
 replace H : ((spec_l01Pick.f s0_0 t102 t103 y104).bind fun bt107 => (some (bt107.1, bt107.2.1, bt107.2.2))) = some (r1, r2, r3) := y_ H
 have Ny104 := Aside0.mk hy104
 clear hy104
 replace H := Option.bind_eq_some_iff.mp H
 obtain ⟨⟨t107, t108, t109⟩, A50, H⟩ := H
 replace H : (some (t107, t108, t109)) = some (r1, r2, r3) := H
 have A5 := Aside0.mk A50
 clear A50
 simp only [Option.some.injEq, Prod.mk.injEq] at H
 obtain ⟨rfl, rfl, rfl⟩ := H
 go_enter Try.func80, Try.ntmps80
 go_wp2_with (first | ((with_reducible refine gate_callee (f := 85) rfl ?_); refine gl_ (some 6) rfl rfl Try.func85 #[.pointer (some ⟨g, 0, none⟩), .int .i64 14] rfl ?_; (with_reducible refine (spec_l01Next.calls g s0_0 s0_1 s0_2 14 t101 t102 t103 w0 _ ?side1 ?side2 A3.out).mono ?_); (case side1 => exact i_ HI0); (case side2 => exact gb_ HB.out); rintro e w6 ⟨rfl, hi, hb, hk⟩; refine ⟨_, rfl, ?_⟩; replace HK := Aside0.mk (KeepBut.trans (kb_ HK) hk (.inl rfl)); replace HB := Aside0.mk (hb); replace HI0 := Aside0.mk (hi); (try clear hb); (try clear hb2); (try clear hk); (try clear hi)) | ((with_reducible refine gate_dst (N := 11) rfl ?_); refine Kd.R_lit (Kd.int .i64) _ 2 ?hg (N := 11) ?hd (xs := ([(-1), wrap64 (a1 + 1), 1099511627776, (-4611686018427387904)] : List Int)) (inner := [.int .i64 (-1), .int .i64 (wrap64 (a1 + 1)), .int .i64 1099511627776, .int .i64 (-4611686018427387904)]) (ok := fun _ => True) (okp := fun _ => True) ?hr ?hp (fun _ hk => hk) trivial (Below.refl _ _) (Nat.le_refl _) (by simp) ?_; (case hd => rfl); (case hg => rfl); (case hr => exact t3_); (case hp => exact (Reps.one (show Kd.M (Kd.int .i64) _ _ _ (-1) [.int .i64 (-1)] from rfl) (Reps.one (show Kd.M (Kd.int .i64) _ _ _ (wrap64 (a1 + 1)) [.int .i64 (wrap64 (a1 + 1))] from rfl) (Reps.one (show Kd.M (Kd.int .i64) _ _ _ 1099511627776 [.int .i64 1099511627776] from rfl) (Reps.one (show Kd.M (Kd.int .i64) _ _ _ (-4611686018427387904) [.int .i64 (-4611686018427387904)] from rfl) (Reps.none _ _)))))); intro v105 w7 ho8 hb hg_ hnew_; clear hg_ hnew_; (first | rw [← Ny104.out] at ho8 | (simp only [Int.reduceToNat] at ho8; rw [← Ny104.out] at ho8)); have n0_ := Aside0.mk (Kd.R_lower ho8 (keep_size (w := w) (g := g) (row := none) (kb_ HK))); have n1_ := i1_ HI0 hb; have n2_ := k1_ HK hb; have n3_ := b1_ HB hb; clear HI0 HK HB; have HO106 := n0_; have HI0 := n1_; have HK := n2_; have HB := n3_; clear n0_ n1_ n2_ n3_ hb ho8; obtain ⟨Ao9, co9, eo9⟩ := Kd.R_slice HO106.out; subst eo9) | ((with_reducible refine gate_callee (f := 82) rfl ?_); refine gl_ (some 12) rfl rfl Try.func82 #[.pointer (some ⟨g, 0, none⟩), .slice Ao9 y104.length co9] rfl ?_; (with_reducible refine (spec_l01Pick.calls g s0_0 t102 t103 _ _ y104 t107 t108 t109 w0 _ ?side1 ?side2 ?side3 ?side4 ?side5 A5.out).mono ?_); (case side1 => exact i_ HI0); (case side2 => exact gb_ HB.out); (case side3 => exact c1_ HO106); (case side4 => exact (Kd.R_reads' HO106.out).2.1); (case side5 => exact far_slice (IsS91.own_ne HI0.out HO106.out (by decide))); rintro e w10 ⟨rfl, hi, hb, hk⟩; refine ⟨_, rfl, ?_⟩; replace HO106 := kr_ HI0 HO106 hk; replace HK := Aside0.mk (KeepBut.trans (kb_ HK) hk (.inl rfl)); replace HB := Aside0.mk (hb); replace HI0 := Aside0.mk (hi); (try clear hb); (try clear hb2); (try clear hk); (try clear hi)))
 go_ret
 exact ⟨t5_, i_ HI0, gb_ HB.out, kb_ HK⟩
def spec_l01DrawOf.l0 : Nat → Int → Int → Int → List Int → Int → Int → List Int → Option (List Int × Int × Int)
  | 0, _, _, _, _, _, _, _ => none
  | k + 1, x1, x6, x7, x1000, x1001, x1002, x112000 => if x7 > 0 then (if x6 = 0 then ((spec_l01Pick.f x1000 x1001 x1002 (([2, 2, 3, 4] : List Int))).bind fun bt121 => ((spec_l01N.f k x112000).bind fun t124 => (if (wrap64 (t124 * bt121.1)) > x1 then (if (x112000.length : Int) = 0 then (if x112000.length < 17592186044416 then (some ((x112000 ++ [2]), bt121.2.1, bt121.2.2)) else (none)) else (some (x112000, bt121.2.1, bt121.2.2))) else (if x112000.length < 17592186044416 then (spec_l01DrawOf.l0 k x1 x6 (wrap64 (x7 - 1)) x1000 bt121.2.1 bt121.2.2 (x112000 ++ [bt121.1])) else (none))))) else ((spec_l01N.f k x112000).bind fun t131 => (if (wrap64 (t131 * x6)) > x1 then (if (x112000.length : Int) = 0 then (if x112000.length < 17592186044416 then (some ((x112000 ++ [2]), x1001, x1002)) else (none)) else (some (x112000, x1001, x1002))) else (if x112000.length < 17592186044416 then (spec_l01DrawOf.l0 k x1 x6 (wrap64 (x7 - 1)) x1000 x1001 x1002 (x112000 ++ [x6])) else (none))))) else (if (x112000.length : Int) = 0 then (if x112000.length < 17592186044416 then (some ((x112000 ++ [2]), x1001, x1002)) else (none)) else (some (x112000, x1001, x1002)))
def spec_l01DrawOf.f (k : Nat) (s0_0 : List Int) (s0_1 : Int) (s0_2 : Int) (a1 : Int) : Option (List Int × Int × Int) := (spec_l01Pick.f s0_0 s0_1 s0_2 (([0, 2, 2, 3, 3] : List Int))).bind fun bt108 => ((spec_l01Next.f s0_0 bt108.2.1 bt108.2.2 8).bind fun bt112 => (spec_l01DrawOf.l0 k a1 bt108.1 (wrap64 (1 + bt112.1)) s0_0 bt112.2.1 bt112.2.2 (([] : List Int))))
set_option maxHeartbeats 8000000 in
set_option maxRecDepth 100000 in
theorem spec_l01DrawOf.calls (k : Nat) (g : Nat) (s0_0 : List Int) (s0_1 : Int) (s0_2 : Int) (a1 : Int) (r1 : List Int) (r2 : Int) (r3 : Int) (w0 w : World) (hI : IsS91 w0 w g s0_0 s0_1 s0_2) (hB : Below w0.heap.size w0 w) (h : spec_l01DrawOf.f k s0_0 s0_1 s0_2 a1 = some (r1, r2, r3)) :
  Calls Try.prog 114 #[.pointer (some ⟨g, 0, none⟩), .int .i64 a1] w fun e w' => ∃ v0_ : Value, e = .returned (.agg #[v0_]) ∧ Kd.R (Kd.int .i64) 2 w' w.heap.size (fun _ => True) v0_ r1 ∧ IsS91 w0 w' g s0_0 r2 r3 ∧ Below w0.heap.size w0 w' ∧ KeepBut w w' g none := by
 have hu26 := Try.underlying26
 have HI0 := Aside0.mk hI
 have HK := Aside0.mk (KeepBut.refl w g none)
 have HL := Aside0.mk hB.size
 clear hI
 have HW0 := Aside0.mk hB.size
 have HB := Aside0.mk hB
 clear hB
 have H : ((spec_l01Pick.f s0_0 s0_1 s0_2 (([0, 2, 2, 3, 3] : List Int))).bind fun bt108 => ((spec_l01Next.f s0_0 bt108.2.1 bt108.2.2 8).bind fun bt112 => (spec_l01DrawOf.l0 k a1 bt108.1 (wrap64 (1 + bt112.1)) s0_0 bt112.2.1 bt112.2.2 (([] : List Int))))) = some (r1, r2, r3) := h
 clear h
 obtain ⟨y102, hy102⟩ : ∃ y_ : List Int, y_ = (([] : List Int)) := ⟨_, rfl⟩
 replace H : ((spec_l01Pick.f s0_0 s0_1 s0_2 (([0, 2, 2, 3, 3] : List Int))).bind fun bt108 => ((spec_l01Next.f s0_0 bt108.2.1 bt108.2.2 8).bind fun bt112 => (spec_l01DrawOf.l0 k a1 bt108.1 (wrap64 (1 + bt112.1)) s0_0 bt112.2.1 bt112.2.2 y102))) = some (r1, r2, r3) := y_ H
 have Ny102 := Aside0.mk hy102
 clear hy102
 obtain ⟨y105, hy105⟩ : ∃ y_ : List Int, y_ = (([0, 2, 2, 3, 3] : List Int)) := ⟨_, rfl⟩
 replace H : ((spec_l01Pick.f s0_0 s0_1 s0_2 y105).bind fun bt108 => ((spec_l01Next.f s0_0 bt108.2.1 bt108.2.2 8).bind fun bt112 => (spec_l01DrawOf.l0 k a1 bt108.1 (wrap64 (1 + bt112.1)) s0_0 bt112.2.1 bt112.2.2 y102))) = some (r1, r2, r3) := y_ H
 have Ny105 := Aside0.mk hy105
 clear hy105
 replace H := Option.bind_eq_some_iff.mp H
 obtain ⟨⟨t108, t109, t110⟩, A30, H⟩ := H
 replace H : ((spec_l01Next.f s0_0 t109 t110 8).bind fun bt112 => (spec_l01DrawOf.l0 k a1 t108 (wrap64 (1 + bt112.1)) s0_0 bt112.2.1 bt112.2.2 y102)) = some (r1, r2, r3) := H
 have A3 := Aside0.mk A30
 clear A30
 replace H := Option.bind_eq_some_iff.mp H
 obtain ⟨⟨t112, t113, t114⟩, A40, H⟩ := H
 replace H : (spec_l01DrawOf.l0 k a1 t108 (wrap64 (1 + t112)) s0_0 t113 t114 y102) = some (r1, r2, r3) := H
 have A4 := Aside0.mk A40
 clear A40
 have H' := Aside0.mk H
 clear H
 go_enter Try.func114, Try.ntmps114
 go_wp2_with (first | ((with_reducible refine gate_dst (N := 4) rfl ?_); refine bx_ (N := 4) (cs := #[.slice none 0 0]) (t := 26) rfl rfl ?_; intro gb101 hg w5 hbox hb; have n0_ := i1_ HI0 hb; have n1_ := k1_ HK hb; have n2_ := b1_ HB hb; have n3_ := Aside0.mk (hbox); have n4_ := gk_ hg HK; have n5_ := Aside0.mk ((Nat.le_trans HW0.out (by rw [hg]; exact (keep_size (w := w) (g := g) (row := none) (kb_ HK)) : w.heap.size ≤ gb101) : w0.heap.size ≤ gb101)); have n6_ := il_ hg HI0; have n7_ := ir_ hg HI0; clear HI0 HK HB; have HI0 := n0_; have HK := n1_; have HB := n2_; have BK101 := n3_; have GW101 := n4_; have GE101 := n5_; have NB0_101 := n6_; have NB101_0 := n7_; clear n0_ n1_ n2_ n3_ n4_ n5_ n6_ n7_ hb hbox hg) | ((with_reducible refine gate_dst (N := 9) rfl ?_); refine Kd.R_lit (Kd.int .i64) _ 2 ?hg (N := 9) ?hd (xs := ([] : List Int)) (inner := []) (ok := fun _ => True) (okp := fun _ => True) ?hr ?hp (fun _ hk => hk) trivial (Below.refl _ _) (Nat.le_refl _) (by simp) ?_; (case hd => rfl); (case hg => rfl); (case hr => exact t3_); (case hp => exact (Reps.none _ _)); intro v103 w6 ho7 hb hg_ hnew_; clear hg_ hnew_; (first | rw [← Ny102.out] at ho7 | (simp only [Int.reduceToNat] at ho7; rw [← Ny102.out] at ho7)); have n0_ := Aside0.mk (Kd.R_lower ho7 (keep_size (w := w) (g := g) (row := none) (kb_ HK))); have n1_ := i1_ HI0 hb; have n2_ := a2_ BK101 hb; have n3_ := k1_ HK hb; have n4_ := b1_ HB hb; clear HI0 BK101 HK HB; have HO104 := n0_; have HI0 := n1_; have BK101 := n2_; have HK := n3_; have HB := n4_; clear n0_ n1_ n2_ n3_ n4_ hb ho7; obtain ⟨Ao8, co8, eo8⟩ := Kd.R_slice HO104.out; subst eo8) | ((with_reducible refine gate_dst (N := 12) rfl ?_); refine Kd.R_lit (Kd.int .i64) _ 2 ?hg (N := 12) ?hd (xs := ([0, 2, 2, 3, 3] : List Int)) (inner := [.int .i64 0, .int .i64 2, .int .i64 2, .int .i64 3, .int .i64 3]) (ok := fun _ => True) (okp := fun _ => True) ?hr ?hp (fun _ hk => hk) trivial (Below.refl _ _) (Nat.le_refl _) (by simp) ?_; (case hd => rfl); (case hg => rfl); (case hr => exact t3_); (case hp => exact (Reps.one (show Kd.M (Kd.int .i64) _ _ _ 0 [.int .i64 0] from rfl) (Reps.one (show Kd.M (Kd.int .i64) _ _ _ 2 [.int .i64 2] from rfl) (Reps.one (show Kd.M (Kd.int .i64) _ _ _ 2 [.int .i64 2] from rfl) (Reps.one (show Kd.M (Kd.int .i64) _ _ _ 3 [.int .i64 3] from rfl) (Reps.one (show Kd.M (Kd.int .i64) _ _ _ 3 [.int .i64 3] from rfl) (Reps.none _ _))))))); intro v106 w9 ho10 hb hg_ hnew_; clear hg_ hnew_; (first | rw [← Ny105.out] at ho10 | (simp only [Int.reduceToNat] at ho10; rw [← Ny105.out] at ho10)); have n0_ := a5_ HO104 ho10 hb; have n1_ := Aside0.mk (Kd.R_lower (Kd.R_new' ho10 (Kd.R_lt (rb_ HO104.out))) (keep_size (w := w) (g := g) (row := none) (kb_ HK))); have n2_ := i1_ HI0 hb; have n3_ := a2_ BK101 hb; have n4_ := k1_ HK hb; have n5_ := b1_ HB hb; clear HO104 HI0 BK101 HK HB; have HO104 := n0_; have HO107 := n1_; have HI0 := n2_; have BK101 := n3_; have HK := n4_; have HB := n5_; clear n0_ n1_ n2_ n3_ n4_ n5_ hb ho10; obtain ⟨Ao11, co11, eo11⟩ := Kd.R_slice HO107.out; subst eo11) | ((with_reducible refine gate_callee (f := 82) rfl ?_); refine gl_ (some 13) rfl rfl Try.func82 #[.pointer (some ⟨g, 0, none⟩), .slice Ao11 y105.length co11] rfl ?_; (with_reducible refine (spec_l01Pick.calls g s0_0 s0_1 s0_2 _ _ y105 t108 t109 t110 w0 _ ?side1 ?side2 ?side3 ?side4 ?side5 A3.out).mono ?_); (case side1 => exact i_ HI0); (case side2 => exact gb_ HB.out); (case side3 => exact c1_ HO107); (case side4 => exact (Kd.R_reads' HO107.out).2.1); (case side5 => exact far_slice (IsS91.own_ne HI0.out HO107.out (by decide))); rintro e w12 ⟨rfl, hi, hb, hk⟩; refine ⟨_, rfl, ?_⟩; replace BK101 := kx_ BK101 NB101_0 hk; replace HO104 := kr_ HI0 HO104 hk; replace HO107 := kr_ HI0 HO107 hk; replace HK := Aside0.mk (KeepBut.trans (kb_ HK) hk (.inl rfl)); replace HB := Aside0.mk (hb); replace HI0 := Aside0.mk (hi); (try clear hb); (try clear hb2); (try clear hk); (try clear hi)) | ((with_reducible refine gate_dst (N := 5) rfl ?_); refine bx_ (N := 5) (cs := #[.slice none 0 0]) (t := 26) rfl rfl ?_; intro gb111 hg w13 hbox hb; have n0_ := a1_ HO104 hb; have n1_ := a1_ HO107 hb; have n2_ := i1_ HI0 hb; have n3_ := a2_ BK101 hb; have n4_ := k1_ HK hb; have n5_ := b1_ HB hb; have n6_ := Aside0.mk (hbox); have n7_ := gk_ hg HK; have n8_ := Aside0.mk ((Nat.le_trans HW0.out (by rw [hg]; exact (keep_size (w := w) (g := g) (row := none) (kb_ HK)) : w.heap.size ≤ gb111) : w0.heap.size ≤ gb111)); have n9_ := nl_ hg BK101; have n10_ := nr_ hg BK101; have n11_ := il_ hg HI0; have n12_ := ir_ hg HI0; clear HO104 HO107 HI0 BK101 HK HB; have HO104 := n0_; have HO107 := n1_; have HI0 := n2_; have BK101 := n3_; have HK := n4_; have HB := n5_; have BK111 := n6_; have GW111 := n7_; have GE111 := n8_; have NB101_111 := n9_; have NB111_101 := n10_; have NB0_111 := n11_; have NB111_0 := n12_; clear n0_ n1_ n2_ n3_ n4_ n5_ n6_ n7_ n8_ n9_ n10_ n11_ n12_ hb hbox hg; have hnb14 := NB111_101.out; have hnc14 := NB101_111.out; have hnb15 := NB111_0.out; have hnc15 := NB0_111.out; have hcz16_0 := hz_ BK111; have hfz16_0 := blk_frozen BK111.out 0) | ((with_reducible refine gate_callee (f := 85) rfl ?_); refine gl_ (some 15) rfl rfl Try.func85 #[.pointer (some ⟨g, 0, none⟩), .int .i64 8] rfl ?_; (with_reducible refine (spec_l01Next.calls g s0_0 t109 t110 8 t112 t113 t114 w0 _ ?side1 ?side2 A4.out).mono ?_); (case side1 => exact i_ HI0); (case side2 => exact gb_ HB.out); rintro e w17 ⟨rfl, hi, hb, hk⟩; refine ⟨_, rfl, ?_⟩; replace BK101 := Aside0.mk (KeepBut.blk hk (g' := gb101) (o := .cells #[.slice none 0 0] 26 (0, 0)) (by (with_reducible repeat (first | refine blk_drewN ?_ _ | refine blk_drew ?_ | refine blk_alloc ?_ _)); refine blk_far ?_ NB101_111.out _; (with_reducible repeat (first | refine blk_drewN ?_ _ | refine blk_drew ?_ | refine blk_alloc ?_ _)); exact BK101.out) NB101_0.out (by simp)); replace HO104 := Aside0.mk (Kd.R_mono (Kd.R_keep (IsS91.apart (show IsS91 w0 _ g s0_0 t109 t110 from i_ HI0) (rb_ (Kd.R_mono (Kd.R_far (p := ⟨gb111, 0, none⟩) (Kd.R_types HO104.out BK111.out (by decide)) (fun _ hk => hk.2) (.slice Ao8 y102.length co8)) (fun _ h_ => h_.1))) (by decide)) hk (fun _ h => h.2)) (fun _ h => h.1)); replace HO107 := Aside0.mk (Kd.R_mono (Kd.R_keep (IsS91.apart (show IsS91 w0 _ g s0_0 t109 t110 from i_ HI0) (rb_ (Kd.R_mono (Kd.R_far (p := ⟨gb111, 0, none⟩) (Kd.R_types HO107.out BK111.out (by decide)) (fun _ hk => hk.2) (.slice Ao8 y102.length co8)) (fun _ h_ => h_.1))) (by decide)) hk (fun _ h => h.2)) (fun _ h => h.1)); replace BK111 := Aside0.mk (KeepBut.blk hk (g' := gb111) (o := .cells #[.slice Ao8 y102.length co8] 26 (0, 0)) (by (with_reducible repeat (first | refine blk_drewN ?_ _ | refine blk_drew ?_ | refine blk_alloc ?_ _)); refine blk_put (cs := #[.slice none 0 0]) ?_ 0 _ rfl; (with_reducible repeat (first | refine blk_drewN ?_ _ | refine blk_drew ?_ | refine blk_alloc ?_ _)); exact BK111.out) NB111_0.out (by simp)); replace HK := Aside0.mk (KeepBut.trans (kb_ HK) hk (.inl rfl)); replace HB := Aside0.mk (hb); replace HI0 := Aside0.mk (hi); (try clear hb); (try clear hb2); (try clear hk); (try clear hi)))
 go_loopg [7] k (fun kq v7 w' => ∃ (x7_1 : Int) (x1001_1 : Int) (x1002_1 : Int) (x112000_1 : List Int) (u112000 : Value), v7 = .int .i64 x7_1 ∧ Aside0 (spec_l01DrawOf.l0 kq a1 t108 x7_1 s0_0 x1001_1 x1002_1 x112000_1 = some (r1, r2, r3)) ∧ Aside0 (kq ≤ k) ∧ Aside0 (Kd.R (Kd.int .i64) 2 w' w.heap.size (fun _ => True) u112000 x112000_1) ∧ Aside0 (w'.heap[gb101]? = some (.cells #[(.slice none 0 0)] 26 (0, 0))) ∧ Aside0 (w'.heap[gb111]? = some (.cells #[u112000] 26 (0, 0))) ∧ Aside0 (IsS91 w0 w' g s0_0 x1001_1 x1002_1) ∧ Aside0 (KeepBut w w' g none) ∧ Aside0 (Below w0.heap.size w0 w'))
 case atStart => exact ⟨(wrap64 (1 + t112)), (t113), (t114), (y102), (.slice Ao8 y102.length co8), t2_, H', ⟨Nat.le_refl _⟩, ⟨by (with_reducible repeat (first | apply Kd.R_alloc | apply Kd.R_drewN | apply Kd.R_drew)); exact Kd.R_mono HO104.out (fun _ hk => trivial)⟩, ⟨bb_ BK101.out⟩, ⟨bb_ BK111.out⟩, ⟨i_ HI0⟩, ⟨kb_ HK⟩, ⟨gb_ HB.out⟩⟩
 clear H'
 try clear c1
 try clear p2
 try clear p6
 try clear c8
 try clear c11
 try clear c14
 try clear c15
 try clear hcz16_0
 try clear hfz16_0
 obtain ⟨x7_1, x1001_1, x1002_1, x112000_1, u112000, rfl, HA, HK1, HO_112000, BK101, BK111, HI0, HK, HB⟩ := hrel
 obtain _ | k1 := gk
 ·exact absurd HA.out (by simp [spec_l01DrawOf.l0])
 have H := HA.out
 clear HA
 simp only [spec_l01DrawOf.l0] at H
 by_cases c18 : x7_1 > 0
 rotate_left
 ·rw [if_neg c18] at H
  have c18b0 : decide (0 < x7_1) = false := decide_eq_false c18
  clear c18
  by_cases c99 : (x112000_1.length : Int) = 0
  rotate_left
  ·rw [if_neg c99] at H
   have c99b0 : ((x112000_1.length : Int) == 0) = false := beq_eq_false_iff_ne.mpr c99
   have c99b1 : ((x112000_1.length : Int) != 0) = true := bne_iff_ne.mpr c99
   have c99b2 : ¬ (x112000_1 = []) := fun h_ => c99 (by rw [h_]; rfl)
   simp only [Option.some.injEq, Prod.mk.injEq] at H
   obtain ⟨rfl, rfl, rfl⟩ := H
   have hnb110 := NB111_101.out
   have hnc110 := NB101_111.out
   have hnb111 := NB111_0.out
   have hnc111 := NB0_111.out
   have hcz112_0 := hz_ BK111
   have hfz112_0 := blk_frozen BK111.out 0
   obtain ⟨Ao113, co113, eo113⟩ := Kd.R_slice HO_112000.out
   subst eo113
   have hnb114 := NB101_0.out
   have hnc114 := NB0_101.out
   have hcz115_0 := hz_ BK101
   have hfz115_0 := blk_frozen BK101.out 0
   go_wp2
   refine bodyPost_ret (results_cell_row rfl _ _ gb101 26 #[.slice Ao113 x112000_1.length co113] (0, 0) _ rfl (by (with_reducible repeat (first | refine blk_drewN ?_ _ | refine blk_drew ?_ | refine blk_alloc ?_ _)); refine blk_put (cs := #[.slice none 0 0]) ?_ 0 _ rfl; (with_reducible repeat (first | refine blk_drewN ?_ _ | refine blk_drew ?_ | refine blk_alloc ?_ _)); exact BK101.out) Try.underlying26 rfl (by kernel_rfl)) rfl ?_
   exact ⟨_, t5_, by (with_reducible repeat (first | apply Kd.R_alloc | apply Kd.R_drewN | apply Kd.R_drew)); exact Kd.R_mono (Kd.R_far (p := ⟨gb101, 0, none⟩) (Kd.R_types HO_112000.out BK101.out (by decide)) (fun _ hk => hk.2) (.slice Ao113 x112000_1.length co113)) (fun _ hk => trivial), i_ HI0, gb_ HB.out, kb_ HK⟩

  rw [if_pos c99] at H
  have c99b0 : ((x112000_1.length : Int) == 0) = true := beq_iff_eq.mpr c99
  have c99b1 : ((x112000_1.length : Int) != 0) = false := bne_eq_false_iff_eq.mpr c99
  clear c99
  by_cases c100 : x112000_1.length < 17592186044416
  rotate_left
  ·rw [if_neg c100] at H
   exact absurd H (by simp)
  rw [if_pos c100] at H
  have LMc100 := Aside0.mk c100
  clear c100
  obtain ⟨y115, hy115⟩ : ∃ y_ : List Int, y_ = (x112000_1 ++ [2]) := ⟨_, rfl⟩
  replace H : (some (y115, x1001_1, x1002_1)) = some (r1, r2, r3) := y_ H
  have Ny115 := Aside0.mk hy115
  clear hy115
  simp only [Option.some.injEq, Prod.mk.injEq] at H
  obtain ⟨rfl, rfl, rfl⟩ := H
  have hnb101 := NB111_101.out
  have hnc101 := NB101_111.out
  have hnb102 := NB111_0.out
  have hnc102 := NB0_111.out
  have hcz103_0 := hz_ BK111
  have hfz103_0 := blk_frozen BK111.out 0
  obtain ⟨Ao104, co104, eo104⟩ := Kd.R_slice HO_112000.out
  subst eo104
  go_wp2_with (first | ((with_reducible refine gate_builtin (b := .append) (xs := #[.tmp 44, .tmp 45]) rfl ?_); at_builtin; refine Kd.R_append (Kd.int .i64) w.heap.size rfl (.tmp 44) (.tmp 45) 24 2 (.int .i64 0) 8 rfl Try.underlying24 info2 rfl (by decide) (by omega) (.slice Ao104 x112000_1.length co104) x112000_1 2 [.int .i64 2] (fun _ => True) (fun _ => False) rfl rfl ?aP (fun _ hk => hk.elim) ?aF ?aO (Below.refl _ _) ?aS ?aL ?_; (case aP => exact rfl); (case aF => exact (fun _ _ => trivial)); (case aO => exact (rb_ HO_112000.out)); (case aS => exact (keep_size (w := w) (g := g) (row := none) (kb_ HK))); (case aL => have := LMc100.out; omega); intro v116 w105 ho hb hg hat; rw [← Ny115.out] at ho; have n0_ := Aside0.mk (blk_grown (g := gb101) (o := .cells #[.slice none 0 0] 26 (0, 0)) (bb_ BK101.out) hg (Kd.R_ne HO_112000.out BK101.out (by decide))); have n1_ := Aside0.mk (blk_grown (g := gb111) (o := .cells #[.slice Ao104 x112000_1.length co104] 26 (0, 0)) (bb_ BK111.out) hg (Kd.R_ne HO_112000.out BK111.out (by decide))); have n2_ := Aside0.mk (IsS91.grown (i_ HI0) hg (IsS91.own_ne HI0.out HO_112000.out (by decide))); have n3_ := Aside0.mk (below_weaken (gb_ HB.out) HL.out hb); have n4_ := Aside0.mk (KeepBut.trans (kb_ HK) (KeepBut.of_grown hg g) (Kd.R_base2 HO_112000.out)); have n5_ := Aside0.mk (ho); clear BK101 BK111 HI0 HB HK HO_112000; have BK101 := n0_; have BK111 := n1_; have HI0 := n2_; have HB := n3_; have HK := n4_; have HO117 := n5_; clear n0_ n1_ n2_ n3_ n4_ n5_ ho hb hg hat; obtain ⟨Ao106, co106, eo106⟩ := Kd.R_slice HO117.out; subst eo106; have hcz107_0 := hz_ BK111; have hfz107_0 := blk_frozen BK111.out 0; have hnb108 := NB101_0.out; have hnc108 := NB0_101.out; have hcz109_0 := hz_ BK101; have hfz109_0 := blk_frozen BK101.out 0))
  refine bodyPost_ret (results_cell_row rfl _ _ gb101 26 #[.slice Ao106 y115.length co106] (0, 0) _ rfl (by (with_reducible repeat (first | refine blk_drewN ?_ _ | refine blk_drew ?_ | refine blk_alloc ?_ _)); refine blk_put (cs := #[.slice none 0 0]) ?_ 0 _ rfl; (with_reducible repeat (first | refine blk_drewN ?_ _ | refine blk_drew ?_ | refine blk_alloc ?_ _)); refine blk_far ?_ NB101_111.out _; (with_reducible repeat (first | refine blk_drewN ?_ _ | refine blk_drew ?_ | refine blk_alloc ?_ _)); exact BK101.out) Try.underlying26 rfl (by kernel_rfl)) rfl ?_
  exact ⟨_, t5_, by (with_reducible repeat (first | apply Kd.R_alloc | apply Kd.R_drewN | apply Kd.R_drew)); exact Kd.R_mono (Kd.R_far (p := ⟨gb101, 0, none⟩) (Kd.R_far (p := ⟨gb111, 0, none⟩) (Kd.R_types (Kd.R_types HO117.out BK111.out (by decide)) BK101.out (by decide)) (fun _ hk => hk.1.2) (.slice Ao106 y115.length co106)) (fun _ hk => hk.2) (.slice Ao106 y115.length co106)) (fun _ hk => trivial), i_ HI0, gb_ HB.out, kb_ HK⟩
 rw [if_pos c18] at H
 have c18b0 : decide (0 < x7_1) = true := decide_eq_true c18
 clear c18
 by_cases c19 : t108 = 0
 ·rw [if_pos c19] at H
  have c19b0 : (t108 == 0) = true := beq_iff_eq.mpr c19
  have c19b1 : (t108 != 0) = false := bne_eq_false_iff_eq.mpr c19
  clear c19
  obtain ⟨y118, hy118⟩ : ∃ y_ : List Int, y_ = (([2, 2, 3, 4] : List Int)) := ⟨_, rfl⟩
  replace H : ((spec_l01Pick.f s0_0 x1001_1 x1002_1 y118).bind fun bt121 => ((spec_l01N.f k1 x112000_1).bind fun t124 => (if (wrap64 (t124 * bt121.1)) > a1 then (if (x112000_1.length : Int) = 0 then (if x112000_1.length < 17592186044416 then (some ((x112000_1 ++ [2]), bt121.2.1, bt121.2.2)) else (none)) else (some (x112000_1, bt121.2.1, bt121.2.2))) else (if x112000_1.length < 17592186044416 then (spec_l01DrawOf.l0 k1 a1 t108 (wrap64 (x7_1 - 1)) s0_0 bt121.2.1 bt121.2.2 (x112000_1 ++ [bt121.1])) else (none))))) = some (r1, r2, r3) := y_ H
  have Ny118 := Aside0.mk hy118
  clear hy118
  replace H := Option.bind_eq_some_iff.mp H
  obtain ⟨⟨t121, t122, t123⟩, A200, H⟩ := H
  replace H : ((spec_l01N.f k1 x112000_1).bind fun t124 => (if (wrap64 (t124 * t121)) > a1 then (if (x112000_1.length : Int) = 0 then (if x112000_1.length < 17592186044416 then (some ((x112000_1 ++ [2]), t122, t123)) else (none)) else (some (x112000_1, t122, t123))) else (if x112000_1.length < 17592186044416 then (spec_l01DrawOf.l0 k1 a1 t108 (wrap64 (x7_1 - 1)) s0_0 t122 t123 (x112000_1 ++ [t121])) else (none)))) = some (r1, r2, r3) := H
  have A20 := Aside0.mk A200
  clear A200
  replace H := Option.bind_eq_some_iff.mp H
  obtain ⟨t124, A210, H⟩ := H
  replace H : (if (wrap64 (t124 * t121)) > a1 then (if (x112000_1.length : Int) = 0 then (if x112000_1.length < 17592186044416 then (some ((x112000_1 ++ [2]), t122, t123)) else (none)) else (some (x112000_1, t122, t123))) else (if x112000_1.length < 17592186044416 then (spec_l01DrawOf.l0 k1 a1 t108 (wrap64 (x7_1 - 1)) s0_0 t122 t123 (x112000_1 ++ [t121])) else (none))) = some (r1, r2, r3) := H
  have A21 := Aside0.mk A210
  clear A210
  by_cases c22 : (wrap64 (t124 * t121)) > a1
  rotate_left
  ·rw [if_neg c22] at H
   have c22b0 : decide (a1 < (wrap64 (t124 * t121))) = false := decide_eq_false c22
   clear c22
   by_cases c52 : x112000_1.length < 17592186044416
   rotate_left
   ·rw [if_neg c52] at H
    exact absurd H (by simp)
   rw [if_pos c52] at H
   have LMc52 := Aside0.mk c52
   clear c52
   obtain ⟨y128, hy128⟩ : ∃ y_ : List Int, y_ = (x112000_1 ++ [t121]) := ⟨_, rfl⟩
   replace H : (spec_l01DrawOf.l0 k1 a1 t108 (wrap64 (x7_1 - 1)) s0_0 t122 t123 y128) = some (r1, r2, r3) := y_ H
   have Ny128 := Aside0.mk hy128
   clear hy128
   have H' := Aside0.mk H
   clear H
   go_wp2_with (first | ((with_reducible refine gate_dst (N := 25) rfl ?_); refine Kd.R_lit (Kd.int .i64) _ 2 ?hg (N := 25) ?hd (xs := ([2, 2, 3, 4] : List Int)) (inner := [.int .i64 2, .int .i64 2, .int .i64 3, .int .i64 4]) (ok := fun _ => True) (okp := fun _ => True) ?hr ?hp (fun _ hk => hk) trivial (Below.refl _ _) (Nat.le_refl _) (by simp) ?_; (case hd => rfl); (case hg => rfl); (case hr => exact t3_); (case hp => exact (Reps.one (show Kd.M (Kd.int .i64) _ _ _ 2 [.int .i64 2] from rfl) (Reps.one (show Kd.M (Kd.int .i64) _ _ _ 2 [.int .i64 2] from rfl) (Reps.one (show Kd.M (Kd.int .i64) _ _ _ 3 [.int .i64 3] from rfl) (Reps.one (show Kd.M (Kd.int .i64) _ _ _ 4 [.int .i64 4] from rfl) (Reps.none _ _)))))); intro v119 w53 ho54 hb hg_ hnew_; clear hg_ hnew_; (first | rw [← Ny118.out] at ho54 | (simp only [Int.reduceToNat] at ho54; rw [← Ny118.out] at ho54)); have n0_ := a5_ HO_112000 ho54 hb; have n1_ := Aside0.mk (Kd.R_lower (Kd.R_new' ho54 (Kd.R_lt (rb_ HO_112000.out))) (keep_size (w := w) (g := g) (row := none) (kb_ HK))); have n2_ := a2_ BK101 hb; have n3_ := a2_ BK111 hb; have n4_ := i1_ HI0 hb; have n5_ := k1_ HK hb; have n6_ := b1_ HB hb; clear HO_112000 BK101 BK111 HI0 HK HB; have HO_112000 := n0_; have HO120 := n1_; have BK101 := n2_; have BK111 := n3_; have HI0 := n4_; have HK := n5_; have HB := n6_; clear n0_ n1_ n2_ n3_ n4_ n5_ n6_ hb ho54; obtain ⟨Ao55, co55, eo55⟩ := Kd.R_slice HO120.out; subst eo55) | ((with_reducible refine gate_callee (f := 82) rfl ?_); refine gl_ (some 26) rfl rfl Try.func82 #[.pointer (some ⟨g, 0, none⟩), .slice Ao55 y118.length co55] rfl ?_; (with_reducible refine (spec_l01Pick.calls g s0_0 x1001_1 x1002_1 _ _ y118 t121 t122 t123 w0 _ ?side1 ?side2 ?side3 ?side4 ?side5 A20.out).mono ?_); (case side1 => exact i_ HI0); (case side2 => exact gb_ HB.out); (case side3 => exact c1_ HO120); (case side4 => exact (Kd.R_reads' HO120.out).2.1); (case side5 => exact far_slice (IsS91.own_ne HI0.out HO120.out (by decide))); rintro e w56 ⟨rfl, hi, hb, hk⟩; refine ⟨_, rfl, ?_⟩; replace HO_112000 := kr_ HI0 HO_112000 hk; replace BK101 := kx_ BK101 NB101_0 hk; replace BK111 := kx_ BK111 NB111_0 hk; replace HO120 := kr_ HI0 HO120 hk; replace HK := Aside0.mk (KeepBut.trans (kb_ HK) hk (.inl rfl)); replace HB := Aside0.mk (hb); replace HI0 := Aside0.mk (hi); (try clear hb); (try clear hb2); (try clear hk); (try clear hi); have hnb57 := NB111_101.out; have hnc57 := NB101_111.out; have hnb58 := NB111_0.out; have hnc58 := NB0_111.out; have hcz59_0 := hz_ BK111; have hfz59_0 := blk_frozen BK111.out 0; obtain ⟨Ao60, co60, eo60⟩ := Kd.R_slice HO_112000.out; subst eo60) | ((with_reducible refine gate_callee (f := 76) rfl ?_); refine gl_ (some 28) rfl rfl Try.func76 #[.agg #[.slice Ao60 x112000_1.length co60]] rfl ?_; (with_reducible refine (spec_l01N.calls k1 _ _ x112000_1 t124 _ ?side1 ?side2 A21.out).mono ?_); (case side1 => exact c1_ HO_112000); (case side2 => exact (Kd.R_reads' HO_112000.out).2.1); rintro e w61 ⟨rfl, hb⟩; refine ⟨_, rfl, ?_⟩; replace HO_112000 := a1_ HO_112000 hb; replace HO120 := a1_ HO120 hb; replace BK101 := a2_ BK101 hb; replace BK111 := a2_ BK111 hb; replace HI0 := i1_ HI0 hb; replace HK := k1_ HK hb; replace HB := b1_ HB hb; (try clear hb); (try clear hb2); (try clear hk); (try clear hi); have hcz62_0 := hz_ BK111; have hfz62_0 := blk_frozen BK111.out 0) | ((with_reducible refine gate_builtin (b := .append) (xs := #[.tmp 34, .tmp 36]) rfl ?_); at_builtin; refine Kd.R_append (Kd.int .i64) w.heap.size rfl (.tmp 34) (.tmp 36) 24 2 (.int .i64 0) 8 rfl Try.underlying24 info2 rfl (by decide) (by omega) (.slice Ao60 x112000_1.length co60) x112000_1 t121 [.int .i64 t121] (fun k_ => OB_ k_ (.slice Ao55 y118.length co55)) (fun _ => False) rfl rfl ?aP (fun _ hk => hk.elim) ?aF ?aO (Below.refl _ _) ?aS ?aL ?_; (case aP => exact rfl); (case aF => exact (fun k_ hk => Kd.fresh' (Kd.R_lt (rb_ HO120.out)) k_ hk)); (case aO => exact (rb_ (Kd.R_mono HO_112000.out (fun _ hk => hk.2)))); (case aS => exact (keep_size (w := w) (g := g) (row := none) (kb_ HK))); (case aL => have := LMc52.out; omega); intro v129 w63 ho hb hg hat; rw [← Ny128.out] at ho; have n0_ := Aside0.mk (blk_grown (g := gb101) (o := .cells #[.slice none 0 0] 26 (0, 0)) (bb_ BK101.out) hg (Kd.R_ne HO_112000.out BK101.out (by decide))); have n1_ := Aside0.mk (blk_grown (g := gb111) (o := .cells #[.slice Ao60 x112000_1.length co60] 26 (0, 0)) (bb_ BK111.out) hg (Kd.R_ne HO_112000.out BK111.out (by decide))); have n2_ := Aside0.mk (IsS91.grown (i_ HI0) hg (IsS91.own_ne HI0.out HO_112000.out (by decide))); have n3_ := Aside0.mk (Kd.R_after (ok := (fun _ => True)) (rb_ HO120.out) hg hat); have n4_ := Aside0.mk (below_weaken (gb_ HB.out) HL.out hb); have n5_ := Aside0.mk (KeepBut.trans (kb_ HK) (KeepBut.of_grown hg g) (Kd.R_base2 HO_112000.out)); have n6_ := Aside0.mk (ho); clear BK101 BK111 HI0 HO120 HB HK HO_112000; have BK101 := n0_; have BK111 := n1_; have HI0 := n2_; have HO120 := n3_; have HB := n4_; have HK := n5_; have HO130 := n6_; clear n0_ n1_ n2_ n3_ n4_ n5_ n6_ ho hb hg hat; obtain ⟨Ao64, co64, eo64⟩ := Kd.R_slice HO130.out; subst eo64; have hcz65_0 := hz_ BK111; have hfz65_0 := blk_frozen BK111.out 0))
   go_roundg k1
   case measure => have := HK1.out; omega
   case rel => exact ⟨(wrap64 (x7_1 - 1)), (t122), (t123), (y128), (.slice Ao64 y128.length co64), t2_, H', ⟨by have := HK1.out; omega⟩, ⟨by (with_reducible repeat (first | apply Kd.R_alloc | apply Kd.R_drewN | apply Kd.R_drew)); exact Kd.R_mono (Kd.R_far (p := ⟨gb111, 0, none⟩) (Kd.R_types HO130.out BK111.out (by decide)) (fun _ hk => hk.2) (.slice Ao64 y128.length co64)) (fun _ hk => trivial)⟩, ⟨by (with_reducible repeat (first | refine blk_drewN ?_ _ | refine blk_drew ?_ | refine blk_alloc ?_ _)); refine blk_far ?_ NB101_111.out _; (with_reducible repeat (first | refine blk_drewN ?_ _ | refine blk_drew ?_ | refine blk_alloc ?_ _)); exact BK101.out⟩, ⟨by (with_reducible repeat (first | refine blk_drewN ?_ _ | refine blk_drew ?_ | refine blk_alloc ?_ _)); refine blk_put (cs := #[.slice Ao60 x112000_1.length co60]) ?_ 0 _ rfl; (with_reducible repeat (first | refine blk_drewN ?_ _ | refine blk_drew ?_ | refine blk_alloc ?_ _)); exact BK111.out⟩, ⟨i_ HI0⟩, ⟨kb_ HK⟩, ⟨gb_ HB.out⟩⟩
  rw [if_pos c22] at H
  have c22b0 : decide (a1 < (wrap64 (t124 * t121))) = true := decide_eq_true c22
  clear c22
  by_cases c23 : (x112000_1.length : Int) = 0
  rotate_left
  ·rw [if_neg c23] at H
   have c23b0 : ((x112000_1.length : Int) == 0) = false := beq_eq_false_iff_ne.mpr c23
   have c23b1 : ((x112000_1.length : Int) != 0) = true := bne_iff_ne.mpr c23
   have c23b2 : ¬ (x112000_1 = []) := fun h_ => c23 (by rw [h_]; rfl)
   simp only [Option.some.injEq, Prod.mk.injEq] at H
   obtain ⟨rfl, rfl, rfl⟩ := H
   go_wp2_with (first | ((with_reducible refine gate_dst (N := 25) rfl ?_); refine Kd.R_lit (Kd.int .i64) _ 2 ?hg (N := 25) ?hd (xs := ([2, 2, 3, 4] : List Int)) (inner := [.int .i64 2, .int .i64 2, .int .i64 3, .int .i64 4]) (ok := fun _ => True) (okp := fun _ => True) ?hr ?hp (fun _ hk => hk) trivial (Below.refl _ _) (Nat.le_refl _) (by simp) ?_; (case hd => rfl); (case hg => rfl); (case hr => exact t3_); (case hp => exact (Reps.one (show Kd.M (Kd.int .i64) _ _ _ 2 [.int .i64 2] from rfl) (Reps.one (show Kd.M (Kd.int .i64) _ _ _ 2 [.int .i64 2] from rfl) (Reps.one (show Kd.M (Kd.int .i64) _ _ _ 3 [.int .i64 3] from rfl) (Reps.one (show Kd.M (Kd.int .i64) _ _ _ 4 [.int .i64 4] from rfl) (Reps.none _ _)))))); intro v119 w40 ho41 hb hg_ hnew_; clear hg_ hnew_; (first | rw [← Ny118.out] at ho41 | (simp only [Int.reduceToNat] at ho41; rw [← Ny118.out] at ho41)); have n0_ := a5_ HO_112000 ho41 hb; have n1_ := Aside0.mk (Kd.R_lower (Kd.R_new' ho41 (Kd.R_lt (rb_ HO_112000.out))) (keep_size (w := w) (g := g) (row := none) (kb_ HK))); have n2_ := a2_ BK101 hb; have n3_ := a2_ BK111 hb; have n4_ := i1_ HI0 hb; have n5_ := k1_ HK hb; have n6_ := b1_ HB hb; clear HO_112000 BK101 BK111 HI0 HK HB; have HO_112000 := n0_; have HO120 := n1_; have BK101 := n2_; have BK111 := n3_; have HI0 := n4_; have HK := n5_; have HB := n6_; clear n0_ n1_ n2_ n3_ n4_ n5_ n6_ hb ho41; obtain ⟨Ao42, co42, eo42⟩ := Kd.R_slice HO120.out; subst eo42) | ((with_reducible refine gate_callee (f := 82) rfl ?_); refine gl_ (some 26) rfl rfl Try.func82 #[.pointer (some ⟨g, 0, none⟩), .slice Ao42 y118.length co42] rfl ?_; (with_reducible refine (spec_l01Pick.calls g s0_0 x1001_1 x1002_1 _ _ y118 t121 t122 t123 w0 _ ?side1 ?side2 ?side3 ?side4 ?side5 A20.out).mono ?_); (case side1 => exact i_ HI0); (case side2 => exact gb_ HB.out); (case side3 => exact c1_ HO120); (case side4 => exact (Kd.R_reads' HO120.out).2.1); (case side5 => exact far_slice (IsS91.own_ne HI0.out HO120.out (by decide))); rintro e w43 ⟨rfl, hi, hb, hk⟩; refine ⟨_, rfl, ?_⟩; replace HO_112000 := kr_ HI0 HO_112000 hk; replace BK101 := kx_ BK101 NB101_0 hk; replace BK111 := kx_ BK111 NB111_0 hk; replace HO120 := kr_ HI0 HO120 hk; replace HK := Aside0.mk (KeepBut.trans (kb_ HK) hk (.inl rfl)); replace HB := Aside0.mk (hb); replace HI0 := Aside0.mk (hi); (try clear hb); (try clear hb2); (try clear hk); (try clear hi); have hnb44 := NB111_101.out; have hnc44 := NB101_111.out; have hnb45 := NB111_0.out; have hnc45 := NB0_111.out; have hcz46_0 := hz_ BK111; have hfz46_0 := blk_frozen BK111.out 0; obtain ⟨Ao47, co47, eo47⟩ := Kd.R_slice HO_112000.out; subst eo47) | ((with_reducible refine gate_callee (f := 76) rfl ?_); refine gl_ (some 28) rfl rfl Try.func76 #[.agg #[.slice Ao47 x112000_1.length co47]] rfl ?_; (with_reducible refine (spec_l01N.calls k1 _ _ x112000_1 t124 _ ?side1 ?side2 A21.out).mono ?_); (case side1 => exact c1_ HO_112000); (case side2 => exact (Kd.R_reads' HO_112000.out).2.1); rintro e w48 ⟨rfl, hb⟩; refine ⟨_, rfl, ?_⟩; replace HO_112000 := a1_ HO_112000 hb; replace HO120 := a1_ HO120 hb; replace BK101 := a2_ BK101 hb; replace BK111 := a2_ BK111 hb; replace HI0 := i1_ HI0 hb; replace HK := k1_ HK hb; replace HB := b1_ HB hb; (try clear hb); (try clear hb2); (try clear hk); (try clear hi); have hcz49_0 := hz_ BK111; have hfz49_0 := blk_frozen BK111.out 0; have hnb50 := NB101_0.out; have hnc50 := NB0_101.out; have hcz51_0 := hz_ BK101; have hfz51_0 := blk_frozen BK101.out 0))
   refine bodyPost_ret (results_cell_row rfl _ _ gb101 26 #[.slice Ao47 x112000_1.length co47] (0, 0) _ rfl (by (with_reducible repeat (first | refine blk_drewN ?_ _ | refine blk_drew ?_ | refine blk_alloc ?_ _)); refine blk_put (cs := #[.slice none 0 0]) ?_ 0 _ rfl; (with_reducible repeat (first | refine blk_drewN ?_ _ | refine blk_drew ?_ | refine blk_alloc ?_ _)); exact BK101.out) Try.underlying26 rfl (by kernel_rfl)) rfl ?_
   exact ⟨_, t5_, by (with_reducible repeat (first | apply Kd.R_alloc | apply Kd.R_drewN | apply Kd.R_drew)); exact Kd.R_mono (Kd.R_far (p := ⟨gb101, 0, none⟩) (Kd.R_types HO_112000.out BK101.out (by decide)) (fun _ hk => hk.2) (.slice Ao47 x112000_1.length co47)) (fun _ hk => trivial), i_ HI0, gb_ HB.out, kb_ HK⟩
  rw [if_pos c23] at H
  have c23b0 : ((x112000_1.length : Int) == 0) = true := beq_iff_eq.mpr c23
  have c23b1 : ((x112000_1.length : Int) != 0) = false := bne_eq_false_iff_eq.mpr c23
  clear c23
  by_cases c24 : x112000_1.length < 17592186044416
  rotate_left
  ·rw [if_neg c24] at H
   exact absurd H (by simp)
  rw [if_pos c24] at H
  have LMc24 := Aside0.mk c24
  clear c24
  obtain ⟨y125, hy125⟩ : ∃ y_ : List Int, y_ = (x112000_1 ++ [2]) := ⟨_, rfl⟩
  replace H : (some (y125, t122, t123)) = some (r1, r2, r3) := y_ H
  have Ny125 := Aside0.mk hy125
  clear hy125
  simp only [Option.some.injEq, Prod.mk.injEq] at H
  obtain ⟨rfl, rfl, rfl⟩ := H
  go_wp2_with (first | ((with_reducible refine gate_dst (N := 25) rfl ?_); refine Kd.R_lit (Kd.int .i64) _ 2 ?hg (N := 25) ?hd (xs := ([2, 2, 3, 4] : List Int)) (inner := [.int .i64 2, .int .i64 2, .int .i64 3, .int .i64 4]) (ok := fun _ => True) (okp := fun _ => True) ?hr ?hp (fun _ hk => hk) trivial (Below.refl _ _) (Nat.le_refl _) (by simp) ?_; (case hd => rfl); (case hg => rfl); (case hr => exact t3_); (case hp => exact (Reps.one (show Kd.M (Kd.int .i64) _ _ _ 2 [.int .i64 2] from rfl) (Reps.one (show Kd.M (Kd.int .i64) _ _ _ 2 [.int .i64 2] from rfl) (Reps.one (show Kd.M (Kd.int .i64) _ _ _ 3 [.int .i64 3] from rfl) (Reps.one (show Kd.M (Kd.int .i64) _ _ _ 4 [.int .i64 4] from rfl) (Reps.none _ _)))))); intro v119 w25 ho26 hb hg_ hnew_; clear hg_ hnew_; (first | rw [← Ny118.out] at ho26 | (simp only [Int.reduceToNat] at ho26; rw [← Ny118.out] at ho26)); have n0_ := a5_ HO_112000 ho26 hb; have n1_ := Aside0.mk (Kd.R_lower (Kd.R_new' ho26 (Kd.R_lt (rb_ HO_112000.out))) (keep_size (w := w) (g := g) (row := none) (kb_ HK))); have n2_ := a2_ BK101 hb; have n3_ := a2_ BK111 hb; have n4_ := i1_ HI0 hb; have n5_ := k1_ HK hb; have n6_ := b1_ HB hb; clear HO_112000 BK101 BK111 HI0 HK HB; have HO_112000 := n0_; have HO120 := n1_; have BK101 := n2_; have BK111 := n3_; have HI0 := n4_; have HK := n5_; have HB := n6_; clear n0_ n1_ n2_ n3_ n4_ n5_ n6_ hb ho26; obtain ⟨Ao27, co27, eo27⟩ := Kd.R_slice HO120.out; subst eo27) | ((with_reducible refine gate_callee (f := 82) rfl ?_); refine gl_ (some 26) rfl rfl Try.func82 #[.pointer (some ⟨g, 0, none⟩), .slice Ao27 y118.length co27] rfl ?_; (with_reducible refine (spec_l01Pick.calls g s0_0 x1001_1 x1002_1 _ _ y118 t121 t122 t123 w0 _ ?side1 ?side2 ?side3 ?side4 ?side5 A20.out).mono ?_); (case side1 => exact i_ HI0); (case side2 => exact gb_ HB.out); (case side3 => exact c1_ HO120); (case side4 => exact (Kd.R_reads' HO120.out).2.1); (case side5 => exact far_slice (IsS91.own_ne HI0.out HO120.out (by decide))); rintro e w28 ⟨rfl, hi, hb, hk⟩; refine ⟨_, rfl, ?_⟩; replace HO_112000 := kr_ HI0 HO_112000 hk; replace BK101 := kx_ BK101 NB101_0 hk; replace BK111 := kx_ BK111 NB111_0 hk; replace HO120 := kr_ HI0 HO120 hk; replace HK := Aside0.mk (KeepBut.trans (kb_ HK) hk (.inl rfl)); replace HB := Aside0.mk (hb); replace HI0 := Aside0.mk (hi); (try clear hb); (try clear hb2); (try clear hk); (try clear hi); have hnb29 := NB111_101.out; have hnc29 := NB101_111.out; have hnb30 := NB111_0.out; have hnc30 := NB0_111.out; have hcz31_0 := hz_ BK111; have hfz31_0 := blk_frozen BK111.out 0; obtain ⟨Ao32, co32, eo32⟩ := Kd.R_slice HO_112000.out; subst eo32) | ((with_reducible refine gate_callee (f := 76) rfl ?_); refine gl_ (some 28) rfl rfl Try.func76 #[.agg #[.slice Ao32 x112000_1.length co32]] rfl ?_; (with_reducible refine (spec_l01N.calls k1 _ _ x112000_1 t124 _ ?side1 ?side2 A21.out).mono ?_); (case side1 => exact c1_ HO_112000); (case side2 => exact (Kd.R_reads' HO_112000.out).2.1); rintro e w33 ⟨rfl, hb⟩; refine ⟨_, rfl, ?_⟩; replace HO_112000 := a1_ HO_112000 hb; replace HO120 := a1_ HO120 hb; replace BK101 := a2_ BK101 hb; replace BK111 := a2_ BK111 hb; replace HI0 := i1_ HI0 hb; replace HK := k1_ HK hb; replace HB := b1_ HB hb; (try clear hb); (try clear hb2); (try clear hk); (try clear hi); have hcz34_0 := hz_ BK111; have hfz34_0 := blk_frozen BK111.out 0) | ((with_reducible refine gate_builtin (b := .append) (xs := #[.tmp 44, .tmp 45]) rfl ?_); at_builtin; refine Kd.R_append (Kd.int .i64) w.heap.size rfl (.tmp 44) (.tmp 45) 24 2 (.int .i64 0) 8 rfl Try.underlying24 info2 rfl (by decide) (by omega) (.slice Ao32 x112000_1.length co32) x112000_1 2 [.int .i64 2] (fun k_ => OB_ k_ (.slice Ao27 y118.length co27)) (fun _ => False) rfl rfl ?aP (fun _ hk => hk.elim) ?aF ?aO (Below.refl _ _) ?aS ?aL ?_; (case aP => exact rfl); (case aF => exact (fun k_ hk => Kd.fresh' (Kd.R_lt (rb_ HO120.out)) k_ hk)); (case aO => exact (rb_ (Kd.R_mono HO_112000.out (fun _ hk => hk.2)))); (case aS => exact (keep_size (w := w) (g := g) (row := none) (kb_ HK))); (case aL => have := LMc24.out; omega); intro v126 w35 ho hb hg hat; rw [← Ny125.out] at ho; have n0_ := Aside0.mk (blk_grown (g := gb101) (o := .cells #[.slice none 0 0] 26 (0, 0)) (bb_ BK101.out) hg (Kd.R_ne HO_112000.out BK101.out (by decide))); have n1_ := Aside0.mk (blk_grown (g := gb111) (o := .cells #[.slice Ao32 x112000_1.length co32] 26 (0, 0)) (bb_ BK111.out) hg (Kd.R_ne HO_112000.out BK111.out (by decide))); have n2_ := Aside0.mk (IsS91.grown (i_ HI0) hg (IsS91.own_ne HI0.out HO_112000.out (by decide))); have n3_ := Aside0.mk (Kd.R_after (ok := (fun _ => True)) (rb_ HO120.out) hg hat); have n4_ := Aside0.mk (below_weaken (gb_ HB.out) HL.out hb); have n5_ := Aside0.mk (KeepBut.trans (kb_ HK) (KeepBut.of_grown hg g) (Kd.R_base2 HO_112000.out)); have n6_ := Aside0.mk (ho); clear BK101 BK111 HI0 HO120 HB HK HO_112000; have BK101 := n0_; have BK111 := n1_; have HI0 := n2_; have HO120 := n3_; have HB := n4_; have HK := n5_; have HO127 := n6_; clear n0_ n1_ n2_ n3_ n4_ n5_ n6_ ho hb hg hat; obtain ⟨Ao36, co36, eo36⟩ := Kd.R_slice HO127.out; subst eo36; have hcz37_0 := hz_ BK111; have hfz37_0 := blk_frozen BK111.out 0; have hnb38 := NB101_0.out; have hnc38 := NB0_101.out; have hcz39_0 := hz_ BK101; have hfz39_0 := blk_frozen BK101.out 0))
  refine bodyPost_ret (results_cell_row rfl _ _ gb101 26 #[.slice Ao36 y125.length co36] (0, 0) _ rfl (by (with_reducible repeat (first | refine blk_drewN ?_ _ | refine blk_drew ?_ | refine blk_alloc ?_ _)); refine blk_put (cs := #[.slice none 0 0]) ?_ 0 _ rfl; (with_reducible repeat (first | refine blk_drewN ?_ _ | refine blk_drew ?_ | refine blk_alloc ?_ _)); refine blk_far ?_ NB101_111.out _; (with_reducible repeat (first | refine blk_drewN ?_ _ | refine blk_drew ?_ | refine blk_alloc ?_ _)); exact BK101.out) Try.underlying26 rfl (by kernel_rfl)) rfl ?_
  exact ⟨_, t5_, by (with_reducible repeat (first | apply Kd.R_alloc | apply Kd.R_drewN | apply Kd.R_drew)); exact Kd.R_mono (Kd.R_far (p := ⟨gb101, 0, none⟩) (Kd.R_far (p := ⟨gb111, 0, none⟩) (Kd.R_types (Kd.R_types HO127.out BK111.out (by decide)) BK101.out (by decide)) (fun _ hk => hk.1.2) (.slice Ao36 y125.length co36)) (fun _ hk => hk.2) (.slice Ao36 y125.length co36)) (fun _ hk => trivial), i_ HI0, gb_ HB.out, kb_ HK⟩
 rw [if_neg c19] at H
 have c19b0 : (t108 == 0) = false := beq_eq_false_iff_ne.mpr c19
 have c19b1 : (t108 != 0) = true := bne_iff_ne.mpr c19
 replace H := Option.bind_eq_some_iff.mp H
 obtain ⟨t131, A660, H⟩ := H
 replace H : (if (wrap64 (t131 * t108)) > a1 then (if (x112000_1.length : Int) = 0 then (if x112000_1.length < 17592186044416 then (some ((x112000_1 ++ [2]), x1001_1, x1002_1)) else (none)) else (some (x112000_1, x1001_1, x1002_1))) else (if x112000_1.length < 17592186044416 then (spec_l01DrawOf.l0 k1 a1 t108 (wrap64 (x7_1 - 1)) s0_0 x1001_1 x1002_1 (x112000_1 ++ [t108])) else (none))) = some (r1, r2, r3) := H
 have A66 := Aside0.mk A660
 clear A660
 by_cases c67 : (wrap64 (t131 * t108)) > a1
 rotate_left
 ·rw [if_neg c67] at H
  have c67b0 : decide (a1 < (wrap64 (t131 * t108))) = false := decide_eq_false c67
  clear c67
  by_cases c89 : x112000_1.length < 17592186044416
  rotate_left
  ·rw [if_neg c89] at H
   exact absurd H (by simp)
  rw [if_pos c89] at H
  have LMc89 := Aside0.mk c89
  clear c89
  obtain ⟨y135, hy135⟩ : ∃ y_ : List Int, y_ = (x112000_1 ++ [t108]) := ⟨_, rfl⟩
  replace H : (spec_l01DrawOf.l0 k1 a1 t108 (wrap64 (x7_1 - 1)) s0_0 x1001_1 x1002_1 y135) = some (r1, r2, r3) := y_ H
  have Ny135 := Aside0.mk hy135
  clear hy135
  have H' := Aside0.mk H
  clear H
  have hnb90 := NB111_101.out
  have hnc90 := NB101_111.out
  have hnb91 := NB111_0.out
  have hnc91 := NB0_111.out
  have hcz92_0 := hz_ BK111
  have hfz92_0 := blk_frozen BK111.out 0
  obtain ⟨Ao93, co93, eo93⟩ := Kd.R_slice HO_112000.out
  subst eo93
  go_wp2_with (first | ((with_reducible refine gate_callee (f := 76) rfl ?_); refine gl_ (some 28) rfl rfl Try.func76 #[.agg #[.slice Ao93 x112000_1.length co93]] rfl ?_; (with_reducible refine (spec_l01N.calls k1 _ _ x112000_1 t131 _ ?side1 ?side2 A66.out).mono ?_); (case side1 => exact c1_ HO_112000); (case side2 => exact (Kd.R_reads' HO_112000.out).2.1); rintro e w94 ⟨rfl, hb⟩; refine ⟨_, rfl, ?_⟩; replace HO_112000 := a1_ HO_112000 hb; replace BK101 := a2_ BK101 hb; replace BK111 := a2_ BK111 hb; replace HI0 := i1_ HI0 hb; replace HK := k1_ HK hb; replace HB := b1_ HB hb; (try clear hb); (try clear hb2); (try clear hk); (try clear hi); have hcz95_0 := hz_ BK111; have hfz95_0 := blk_frozen BK111.out 0) | ((with_reducible refine gate_builtin (b := .append) (xs := #[.tmp 34, .tmp 36]) rfl ?_); at_builtin; refine Kd.R_append (Kd.int .i64) w.heap.size rfl (.tmp 34) (.tmp 36) 24 2 (.int .i64 0) 8 rfl Try.underlying24 info2 rfl (by decide) (by omega) (.slice Ao93 x112000_1.length co93) x112000_1 t108 [.int .i64 t108] (fun _ => True) (fun _ => False) rfl rfl ?aP (fun _ hk => hk.elim) ?aF ?aO (Below.refl _ _) ?aS ?aL ?_; (case aP => exact rfl); (case aF => exact (fun _ _ => trivial)); (case aO => exact (rb_ HO_112000.out)); (case aS => exact (keep_size (w := w) (g := g) (row := none) (kb_ HK))); (case aL => have := LMc89.out; omega); intro v136 w96 ho hb hg hat; rw [← Ny135.out] at ho; have n0_ := Aside0.mk (blk_grown (g := gb101) (o := .cells #[.slice none 0 0] 26 (0, 0)) (bb_ BK101.out) hg (Kd.R_ne HO_112000.out BK101.out (by decide))); have n1_ := Aside0.mk (blk_grown (g := gb111) (o := .cells #[.slice Ao93 x112000_1.length co93] 26 (0, 0)) (bb_ BK111.out) hg (Kd.R_ne HO_112000.out BK111.out (by decide))); have n2_ := Aside0.mk (IsS91.grown (i_ HI0) hg (IsS91.own_ne HI0.out HO_112000.out (by decide))); have n3_ := Aside0.mk (below_weaken (gb_ HB.out) HL.out hb); have n4_ := Aside0.mk (KeepBut.trans (kb_ HK) (KeepBut.of_grown hg g) (Kd.R_base2 HO_112000.out)); have n5_ := Aside0.mk (ho); clear BK101 BK111 HI0 HB HK HO_112000; have BK101 := n0_; have BK111 := n1_; have HI0 := n2_; have HB := n3_; have HK := n4_; have HO137 := n5_; clear n0_ n1_ n2_ n3_ n4_ n5_ ho hb hg hat; obtain ⟨Ao97, co97, eo97⟩ := Kd.R_slice HO137.out; subst eo97; have hcz98_0 := hz_ BK111; have hfz98_0 := blk_frozen BK111.out 0))
  go_roundg k1
  case measure => have := HK1.out; omega
  case rel => exact ⟨(wrap64 (x7_1 - 1)), (x1001_1), (x1002_1), (y135), (.slice Ao97 y135.length co97), t2_, H', ⟨by have := HK1.out; omega⟩, ⟨by (with_reducible repeat (first | apply Kd.R_alloc | apply Kd.R_drewN | apply Kd.R_drew)); exact Kd.R_mono (Kd.R_far (p := ⟨gb111, 0, none⟩) (Kd.R_types HO137.out BK111.out (by decide)) (fun _ hk => hk.2) (.slice Ao97 y135.length co97)) (fun _ hk => trivial)⟩, ⟨by (with_reducible repeat (first | refine blk_drewN ?_ _ | refine blk_drew ?_ | refine blk_alloc ?_ _)); refine blk_far ?_ NB101_111.out _; (with_reducible repeat (first | refine blk_drewN ?_ _ | refine blk_drew ?_ | refine blk_alloc ?_ _)); exact BK101.out⟩, ⟨by (with_reducible repeat (first | refine blk_drewN ?_ _ | refine blk_drew ?_ | refine blk_alloc ?_ _)); refine blk_put (cs := #[.slice Ao93 x112000_1.length co93]) ?_ 0 _ rfl; (with_reducible repeat (first | refine blk_drewN ?_ _ | refine blk_drew ?_ | refine blk_alloc ?_ _)); exact BK111.out⟩, ⟨i_ HI0⟩, ⟨kb_ HK⟩, ⟨gb_ HB.out⟩⟩
 rw [if_pos c67] at H
 have c67b0 : decide (a1 < (wrap64 (t131 * t108))) = true := decide_eq_true c67
 clear c67
 by_cases c68 : (x112000_1.length : Int) = 0
 rotate_left
 ·rw [if_neg c68] at H
  have c68b0 : ((x112000_1.length : Int) == 0) = false := beq_eq_false_iff_ne.mpr c68
  have c68b1 : ((x112000_1.length : Int) != 0) = true := bne_iff_ne.mpr c68
  have c68b2 : ¬ (x112000_1 = []) := fun h_ => c68 (by rw [h_]; rfl)
  simp only [Option.some.injEq, Prod.mk.injEq] at H
  obtain ⟨rfl, rfl, rfl⟩ := H
  have hnb81 := NB111_101.out
  have hnc81 := NB101_111.out
  have hnb82 := NB111_0.out
  have hnc82 := NB0_111.out
  have hcz83_0 := hz_ BK111
  have hfz83_0 := blk_frozen BK111.out 0
  obtain ⟨Ao84, co84, eo84⟩ := Kd.R_slice HO_112000.out
  subst eo84
  go_wp2_with (first | ((with_reducible refine gate_callee (f := 76) rfl ?_); refine gl_ (some 28) rfl rfl Try.func76 #[.agg #[.slice Ao84 x112000_1.length co84]] rfl ?_; (with_reducible refine (spec_l01N.calls k1 _ _ x112000_1 t131 _ ?side1 ?side2 A66.out).mono ?_); (case side1 => exact c1_ HO_112000); (case side2 => exact (Kd.R_reads' HO_112000.out).2.1); rintro e w85 ⟨rfl, hb⟩; refine ⟨_, rfl, ?_⟩; replace HO_112000 := a1_ HO_112000 hb; replace BK101 := a2_ BK101 hb; replace BK111 := a2_ BK111 hb; replace HI0 := i1_ HI0 hb; replace HK := k1_ HK hb; replace HB := b1_ HB hb; (try clear hb); (try clear hb2); (try clear hk); (try clear hi); have hcz86_0 := hz_ BK111; have hfz86_0 := blk_frozen BK111.out 0; have hnb87 := NB101_0.out; have hnc87 := NB0_101.out; have hcz88_0 := hz_ BK101; have hfz88_0 := blk_frozen BK101.out 0))
  refine bodyPost_ret (results_cell_row rfl _ _ gb101 26 #[.slice Ao84 x112000_1.length co84] (0, 0) _ rfl (by (with_reducible repeat (first | refine blk_drewN ?_ _ | refine blk_drew ?_ | refine blk_alloc ?_ _)); refine blk_put (cs := #[.slice none 0 0]) ?_ 0 _ rfl; (with_reducible repeat (first | refine blk_drewN ?_ _ | refine blk_drew ?_ | refine blk_alloc ?_ _)); exact BK101.out) Try.underlying26 rfl (by kernel_rfl)) rfl ?_
  exact ⟨_, t5_, by (with_reducible repeat (first | apply Kd.R_alloc | apply Kd.R_drewN | apply Kd.R_drew)); exact Kd.R_mono (Kd.R_far (p := ⟨gb101, 0, none⟩) (Kd.R_types HO_112000.out BK101.out (by decide)) (fun _ hk => hk.2) (.slice Ao84 x112000_1.length co84)) (fun _ hk => trivial), i_ HI0, gb_ HB.out, kb_ HK⟩
 rw [if_pos c68] at H
 have c68b0 : ((x112000_1.length : Int) == 0) = true := beq_iff_eq.mpr c68
 have c68b1 : ((x112000_1.length : Int) != 0) = false := bne_eq_false_iff_eq.mpr c68
 clear c68
 by_cases c69 : x112000_1.length < 17592186044416
 rotate_left
 ·rw [if_neg c69] at H
  exact absurd H (by simp)
 rw [if_pos c69] at H
 have LMc69 := Aside0.mk c69
 clear c69
 obtain ⟨y132, hy132⟩ : ∃ y_ : List Int, y_ = (x112000_1 ++ [2]) := ⟨_, rfl⟩
 replace H : (some (y132, x1001_1, x1002_1)) = some (r1, r2, r3) := y_ H
 have Ny132 := Aside0.mk hy132
 clear hy132
 simp only [Option.some.injEq, Prod.mk.injEq] at H
 obtain ⟨rfl, rfl, rfl⟩ := H
 have hnb70 := NB111_101.out
 have hnc70 := NB101_111.out
 have hnb71 := NB111_0.out
 have hnc71 := NB0_111.out
 have hcz72_0 := hz_ BK111
 have hfz72_0 := blk_frozen BK111.out 0
 obtain ⟨Ao73, co73, eo73⟩ := Kd.R_slice HO_112000.out
 subst eo73
 go_wp2_with (first | ((with_reducible refine gate_callee (f := 76) rfl ?_); refine gl_ (some 28) rfl rfl Try.func76 #[.agg #[.slice Ao73 x112000_1.length co73]] rfl ?_; (with_reducible refine (spec_l01N.calls k1 _ _ x112000_1 t131 _ ?side1 ?side2 A66.out).mono ?_); (case side1 => exact c1_ HO_112000); (case side2 => exact (Kd.R_reads' HO_112000.out).2.1); rintro e w74 ⟨rfl, hb⟩; refine ⟨_, rfl, ?_⟩; replace HO_112000 := a1_ HO_112000 hb; replace BK101 := a2_ BK101 hb; replace BK111 := a2_ BK111 hb; replace HI0 := i1_ HI0 hb; replace HK := k1_ HK hb; replace HB := b1_ HB hb; (try clear hb); (try clear hb2); (try clear hk); (try clear hi); have hcz75_0 := hz_ BK111; have hfz75_0 := blk_frozen BK111.out 0) | ((with_reducible refine gate_builtin (b := .append) (xs := #[.tmp 44, .tmp 45]) rfl ?_); at_builtin; refine Kd.R_append (Kd.int .i64) w.heap.size rfl (.tmp 44) (.tmp 45) 24 2 (.int .i64 0) 8 rfl Try.underlying24 info2 rfl (by decide) (by omega) (.slice Ao73 x112000_1.length co73) x112000_1 2 [.int .i64 2] (fun _ => True) (fun _ => False) rfl rfl ?aP (fun _ hk => hk.elim) ?aF ?aO (Below.refl _ _) ?aS ?aL ?_; (case aP => exact rfl); (case aF => exact (fun _ _ => trivial)); (case aO => exact (rb_ HO_112000.out)); (case aS => exact (keep_size (w := w) (g := g) (row := none) (kb_ HK))); (case aL => have := LMc69.out; omega); intro v133 w76 ho hb hg hat; rw [← Ny132.out] at ho; have n0_ := Aside0.mk (blk_grown (g := gb101) (o := .cells #[.slice none 0 0] 26 (0, 0)) (bb_ BK101.out) hg (Kd.R_ne HO_112000.out BK101.out (by decide))); have n1_ := Aside0.mk (blk_grown (g := gb111) (o := .cells #[.slice Ao73 x112000_1.length co73] 26 (0, 0)) (bb_ BK111.out) hg (Kd.R_ne HO_112000.out BK111.out (by decide))); have n2_ := Aside0.mk (IsS91.grown (i_ HI0) hg (IsS91.own_ne HI0.out HO_112000.out (by decide))); have n3_ := Aside0.mk (below_weaken (gb_ HB.out) HL.out hb); have n4_ := Aside0.mk (KeepBut.trans (kb_ HK) (KeepBut.of_grown hg g) (Kd.R_base2 HO_112000.out)); have n5_ := Aside0.mk (ho); clear BK101 BK111 HI0 HB HK HO_112000; have BK101 := n0_; have BK111 := n1_; have HI0 := n2_; have HB := n3_; have HK := n4_; have HO134 := n5_; clear n0_ n1_ n2_ n3_ n4_ n5_ ho hb hg hat; obtain ⟨Ao77, co77, eo77⟩ := Kd.R_slice HO134.out; subst eo77; have hcz78_0 := hz_ BK111; have hfz78_0 := blk_frozen BK111.out 0; have hnb79 := NB101_0.out; have hnc79 := NB0_101.out; have hcz80_0 := hz_ BK101; have hfz80_0 := blk_frozen BK101.out 0))
 refine bodyPost_ret (results_cell_row rfl _ _ gb101 26 #[.slice Ao77 y132.length co77] (0, 0) _ rfl (by (with_reducible repeat (first | refine blk_drewN ?_ _ | refine blk_drew ?_ | refine blk_alloc ?_ _)); refine blk_put (cs := #[.slice none 0 0]) ?_ 0 _ rfl; (with_reducible repeat (first | refine blk_drewN ?_ _ | refine blk_drew ?_ | refine blk_alloc ?_ _)); refine blk_far ?_ NB101_111.out _; (with_reducible repeat (first | refine blk_drewN ?_ _ | refine blk_drew ?_ | refine blk_alloc ?_ _)); exact BK101.out) Try.underlying26 rfl (by kernel_rfl)) rfl ?_
 exact ⟨_, t5_, by (with_reducible repeat (first | apply Kd.R_alloc | apply Kd.R_drewN | apply Kd.R_drew)); exact Kd.R_mono (Kd.R_far (p := ⟨gb101, 0, none⟩) (Kd.R_far (p := ⟨gb111, 0, none⟩) (Kd.R_types (Kd.R_types HO134.out BK111.out (by decide)) BK101.out (by decide)) (fun _ hk => hk.1.2) (.slice Ao77 y132.length co77)) (fun _ hk => hk.2) (.slice Ao77 y132.length co77)) (fun _ hk => trivial), i_ HI0, gb_ HB.out, kb_ HK⟩
def spec_l01Bad.l0 : Nat → List Int → Int → Int → List Int → Option (List Int × Int × Int)
  | 0, _, _, _, _ => none
  | k + 1, x1000, x1001, x1002, x107000 => if (x107000.length : Int) < 6 then (if x107000.length < 17592186044416 then (spec_l01Bad.l0 k x1000 x1001 x1002 (x107000 ++ [4])) else (none)) else (some (x107000, x1001, x1002))
def spec_l01Bad.f (k : Nat) (s0_0 : List Int) (s0_1 : Int) (s0_2 : Int) (l1_0 : List Int) : Option (List Int × Int × Int) := (spec_l01Own.f l1_0).bind fun t103 => ((spec_l01Next.f s0_0 s0_1 s0_2 50).bind fun bt107 => (if bt107.1 = 0 then (some (([] : List Int), bt107.2.1, bt107.2.2)) else (if bt107.1 = 1 then ((spec_l01Next.f s0_0 bt107.2.1 bt107.2.2 (t103.length : Int)).bind fun bt110 => ((spec_l01Pick.f s0_0 bt110.2.1 bt110.2.2 (([1, 5, 0, (-1), 1099511627776] : List Int))).bind fun bt116 => (if 0 ≤ bt110.1 then (if bt110.1 < (t103.length : Int) then (some ((t103.set (bt110.1 : Int).toNat bt116.1), bt116.2.1, bt116.2.2)) else (none)) else (none)))) else (if bt107.1 = 2 then (spec_l01Bad.l0 k s0_0 bt107.2.1 bt107.2.2 t103) else (some (l1_0, bt107.2.1, bt107.2.2))))))
def spec_l01Bad.T6 : Bool × List (List Nat × List Nat) := (true, [([], []), ([0], [0]), ([], []), ([], []), ([3], [3]), ([4], [4]), ([2, 5], [2, 5]), ([], []), ([], []), ([7, 8, 6], [7, 8]), ([1, 6, 0, 1, 2, 3, 4, 5, 6, 7, 8, 9], [1, 6]), ([10, 9, 9, 0, 1, 2, 3, 4, 5, 6, 7, 8, 9], [9, 10])])
def spec_l01Bad.B6 : List Nat := [0, 1, 0, 0, 8, 24, 60, 0, 0, 508, 1023, 2047]
theorem spec_l01Bad.tab6 : rtab .any (opsOf Try.f81 6) = spec_l01Bad.T6 := by kernel_rfl
theorem spec_l01Bad.bits6 : waitsOk spec_l01Bad.T6.2 spec_l01Bad.B6 = true := by kernel_rfl
set_option maxHeartbeats 8000000 in
set_option maxRecDepth 100000 in
theorem spec_l01Bad.callsS (k : Nat) (g : Nat) (s0_0 : List Int) (s0_1 : Int) (s0_2 : Int) (PX_ : Nat → Prop) (P1_0_ : Nat → Prop) (u9000_ : Value) (l1_0 : List Int) (r1 : List Int) (r2 : Int) (r3 : Int) (w0 w : World) (hI : IsS91 w0 w g s0_0 s0_1 s0_2) (hB : Below w0.heap.size w0 w) (ho1_0 : Kd.R (Kd.int .i64) 2 w w0.heap.size PX_ u9000_ l1_0) (h : spec_l01Bad.f k s0_0 s0_1 s0_2 l1_0 = some (r1, r2, r3)) :
  Calls Try.prog 81 #[.pointer (some ⟨g, 0, none⟩), .agg #[u9000_]] w fun e w' => ∃ v0_ : Value, e = .returned (.agg #[v0_]) ∧ Kd.R (Kd.int .i64) 2 w' w0.heap.size (fun k_ => ((PX_ k_ ∨ P1_0_ k_) ∨ w.heap.size ≤ k_)) v0_ r1 ∧ IsS91 w0 w' g s0_0 r2 r3 ∧ Below w0.heap.size w0 w' ∧ Kept w w' (fun k_ => (P1_0_ k_) ∨ k_ = g) := by
 have hu26 := Try.underlying26
 have HO1_0 := Aside0.mk (show Kd.R (Kd.int .i64) 2 w w0.heap.size (fun k_ => (PX_ k_ ∨ w.heap.size ≤ k_)) u9000_ l1_0 from Kd.R_mono ho1_0 (fun k_ hk => (.inl hk)))
 have HI0 := Aside0.mk hI
 have HL := Aside0.mk hB.size
 clear hI
 have HK := Aside0.mk (Kept.refl w (fun k_ => (P1_0_ k_) ∨ k_ = g))
 have HW0 := Aside0.mk hB.size
 have HB := Aside0.mk hB
 clear hB
 have H : ((spec_l01Own.f l1_0).bind fun t103 => ((spec_l01Next.f s0_0 s0_1 s0_2 50).bind fun bt107 => (if bt107.1 = 0 then (some (([] : List Int), bt107.2.1, bt107.2.2)) else (if bt107.1 = 1 then ((spec_l01Next.f s0_0 bt107.2.1 bt107.2.2 (t103.length : Int)).bind fun bt110 => ((spec_l01Pick.f s0_0 bt110.2.1 bt110.2.2 (([1, 5, 0, (-1), 1099511627776] : List Int))).bind fun bt116 => (if 0 ≤ bt110.1 then (if bt110.1 < (t103.length : Int) then (some ((t103.set (bt110.1 : Int).toNat bt116.1), bt116.2.1, bt116.2.2)) else (none)) else (none)))) else (if bt107.1 = 2 then (spec_l01Bad.l0 k s0_0 bt107.2.1 bt107.2.2 t103) else (some (l1_0, bt107.2.1, bt107.2.2))))))) = some (r1, r2, r3) := h
 clear h
 replace H := Option.bind_eq_some_iff.mp H
 obtain ⟨t103, A30, H⟩ := H
 replace H : ((spec_l01Next.f s0_0 s0_1 s0_2 50).bind fun bt107 => (if bt107.1 = 0 then (some (([] : List Int), bt107.2.1, bt107.2.2)) else (if bt107.1 = 1 then ((spec_l01Next.f s0_0 bt107.2.1 bt107.2.2 (t103.length : Int)).bind fun bt110 => ((spec_l01Pick.f s0_0 bt110.2.1 bt110.2.2 (([1, 5, 0, (-1), 1099511627776] : List Int))).bind fun bt116 => (if 0 ≤ bt110.1 then (if bt110.1 < (t103.length : Int) then (some ((t103.set (bt110.1 : Int).toNat bt116.1), bt116.2.1, bt116.2.2)) else (none)) else (none)))) else (if bt107.1 = 2 then (spec_l01Bad.l0 k s0_0 bt107.2.1 bt107.2.2 t103) else (some (l1_0, bt107.2.1, bt107.2.2)))))) = some (r1, r2, r3) := H
 have A3 := Aside0.mk A30
 clear A30
 replace H := Option.bind_eq_some_iff.mp H
 obtain ⟨⟨t107, t108, t109⟩, A40, H⟩ := H
 replace H : (if t107 = 0 then (some (([] : List Int), t108, t109)) else (if t107 = 1 then ((spec_l01Next.f s0_0 t108 t109 (t103.length : Int)).bind fun bt110 => ((spec_l01Pick.f s0_0 bt110.2.1 bt110.2.2 (([1, 5, 0, (-1), 1099511627776] : List Int))).bind fun bt116 => (if 0 ≤ bt110.1 then (if bt110.1 < (t103.length : Int) then (some ((t103.set (bt110.1 : Int).toNat bt116.1), bt116.2.1, bt116.2.2)) else (none)) else (none)))) else (if t107 = 2 then (spec_l01Bad.l0 k s0_0 t108 t109 t103) else (some (l1_0, t108, t109))))) = some (r1, r2, r3) := H
 have A4 := Aside0.mk A40
 clear A40
 by_cases c5 : t107 = 0
 ·rw [if_pos c5] at H
  have c5b0 : (t107 == 0) = true := beq_iff_eq.mpr c5
  have c5b1 : (t107 != 0) = false := bne_eq_false_iff_eq.mpr c5
  clear c5
  simp only [Option.some.injEq, Prod.mk.injEq] at H
  obtain ⟨rfl, rfl, rfl⟩ := H
  obtain ⟨Ao6, co6, eo6⟩ := Kd.R_slice HO1_0.out
  subst eo6
  go_enter Try.func81, Try.ntmps81
  go_wp2_with (first | ((with_reducible refine gate_dst (N := 3) rfl ?_); refine bx_ (N := 3) (cs := #[.slice Ao6 l1_0.length co6]) (t := 26) rfl rfl ?_; intro gb101 hg w7 hbox hb; have n0_ := a1_ HO1_0 hb; have n1_ := i1_ HI0 hb; have n2_ := Aside0.mk (Kept.below (S := (fun k_ => (P1_0_ k_) ∨ k_ = g)) (kt_ HK) hb); have n3_ := b1_ HB hb; have n4_ := Aside0.mk (hbox); have n5_ := Aside0.mk ((by rw [hg]; exact (by first | exact HK.out.1 | exact (show Kept w _ (fun k_ => (P1_0_ k_) ∨ k_ = g) from kt_ HK).1) : w.heap.size ≤ gb101)); have n6_ := ge_ hg HB; have n7_ := il_ hg HI0; have n8_ := ir_ hg HI0; clear HO1_0 HI0 HK HB; have HO1_0 := n0_; have HI0 := n1_; have HK := n2_; have HB := n3_; have BK101 := n4_; have GW101 := n5_; have GE101 := n6_; have NB0_101 := n7_; have NB101_0 := n8_; clear n0_ n1_ n2_ n3_ n4_ n5_ n6_ n7_ n8_ hb hbox hg) | ((with_reducible refine gate_dst (N := 4) rfl ?_); refine bx_ (N := 4) (cs := #[.slice none 0 0]) (t := 26) rfl rfl ?_; intro gb102 hg w8 hbox hb; have n0_ := a1_ HO1_0 hb; have n1_ := i1_ HI0 hb; have n2_ := a2_ BK101 hb; have n3_ := Aside0.mk (Kept.below (S := (fun k_ => (P1_0_ k_) ∨ k_ = g)) (kt_ HK) hb); have n4_ := b1_ HB hb; have n5_ := Aside0.mk (hbox); have n6_ := Aside0.mk ((by rw [hg]; exact (by first | exact HK.out.1 | exact (show Kept w _ (fun k_ => (P1_0_ k_) ∨ k_ = g) from kt_ HK).1) : w.heap.size ≤ gb102)); have n7_ := ge_ hg HB; have n8_ := nl_ hg BK101; have n9_ := nr_ hg BK101; have n10_ := il_ hg HI0; have n11_ := ir_ hg HI0; clear HO1_0 HI0 BK101 HK HB; have HO1_0 := n0_; have HI0 := n1_; have BK101 := n2_; have HK := n3_; have HB := n4_; have BK102 := n5_; have GW102 := n6_; have GE102 := n7_; have NB101_102 := n8_; have NB102_101 := n9_; have NB0_102 := n10_; have NB102_0 := n11_; clear n0_ n1_ n2_ n3_ n4_ n5_ n6_ n7_ n8_ n9_ n10_ n11_ hb hbox hg; have hnb9 := NB101_102.out; have hnc9 := NB102_101.out; have hnb10 := NB101_0.out; have hnc10 := NB0_101.out; have hcz11_0 := hz_ BK101; have hfz11_0 := blk_frozen BK101.out 0) | ((with_reducible refine gate_callee (f := 115) rfl ?_); refine gl_ (some 8) rfl rfl Try.func115 #[.slice Ao6 l1_0.length co6] rfl ?_; (with_reducible refine (spec_l01Own.calls _ _ l1_0 t103 _ ?side1 ?side2 A3.out).mono ?_); (case side1 => exact c1_ HO1_0); (case side2 => exact (Kd.R_reads' HO1_0.out).2.1); rintro e w12 ⟨v104, rfl, ho0, hb⟩; refine ⟨_, rfl, ?_⟩; have HO105 := Aside0.mk (Kd.R_lower (Kd.R_new' (Kd.R_newM (M := fun k_ => (P1_0_ k_ ∨ w.heap.size ≤ k_)) ho0 (by first | exact HK.out.1 | exact (show Kept w _ (fun k_ => (P1_0_ k_) ∨ k_ = g) from kt_ HK).1) (fun k_ h_ => .inr h_)) (Kd.R_lt (rb_ HO1_0.out))) (below_size (gb_ HB.out))); replace HO1_0 := a5_ HO1_0 ho0 hb; replace HI0 := i1_ HI0 hb; replace BK101 := a2_ BK101 hb; replace BK102 := a2_ BK102 hb; replace HK := Aside0.mk (Kept.below (S := (fun k_ => (P1_0_ k_) ∨ k_ = g)) (kt_ HK) hb); replace HB := b1_ HB hb; (try clear hb); (try clear hb2); (try clear hk); (try clear hi); (try clear ho0); obtain ⟨Ao13, co13, eo13⟩ := Kd.R_slice HO105.out; subst eo13) | ((with_reducible refine gate_dst (N := 5) rfl ?_); refine bx_ (N := 5) (cs := #[.slice none 0 0]) (t := 26) rfl rfl ?_; intro gb106 hg w14 hbox hb; have n0_ := a1_ HO1_0 hb; have n1_ := a1_ HO105 hb; have n2_ := i1_ HI0 hb; have n3_ := a2_ BK101 hb; have n4_ := a2_ BK102 hb; have n5_ := Aside0.mk (Kept.below (S := (fun k_ => (P1_0_ k_) ∨ k_ = g)) (kt_ HK) hb); have n6_ := b1_ HB hb; have n7_ := Aside0.mk (hbox); have n8_ := Aside0.mk ((by rw [hg]; exact (by first | exact HK.out.1 | exact (show Kept w _ (fun k_ => (P1_0_ k_) ∨ k_ = g) from kt_ HK).1) : w.heap.size ≤ gb106)); have n9_ := ge_ hg HB; have n10_ := nl_ hg BK101; have n11_ := nr_ hg BK101; have n12_ := nl_ hg BK102; have n13_ := nr_ hg BK102; have n14_ := il_ hg HI0; have n15_ := ir_ hg HI0; clear HO1_0 HO105 HI0 BK101 BK102 HK HB; have HO1_0 := n0_; have HO105 := n1_; have HI0 := n2_; have BK101 := n3_; have BK102 := n4_; have HK := n5_; have HB := n6_; have BK106 := n7_; have GW106 := n8_; have GE106 := n9_; have NB101_106 := n10_; have NB106_101 := n11_; have NB102_106 := n12_; have NB106_102 := n13_; have NB0_106 := n14_; have NB106_0 := n15_; clear n0_ n1_ n2_ n3_ n4_ n5_ n6_ n7_ n8_ n9_ n10_ n11_ n12_ n13_ n14_ n15_ hb hbox hg; have hnb15 := NB106_101.out; have hnc15 := NB101_106.out; have hnb16 := NB106_102.out; have hnc16 := NB102_106.out; have hnb17 := NB106_0.out; have hnc17 := NB0_106.out; have hcz18_0 := hz_ BK106; have hfz18_0 := blk_frozen BK106.out 0) | ((with_reducible refine gate_callee (f := 85) rfl ?_); refine gl_ (some 11) rfl rfl Try.func85 #[.pointer (some ⟨g, 0, none⟩), .int .i64 50] rfl ?_; (with_reducible refine (spec_l01Next.calls g s0_0 s0_1 s0_2 50 t107 t108 t109 w0 _ ?side1 ?side2 A4.out).mono ?_); (case side1 => exact i_ HI0); (case side2 => exact gb_ HB.out); rintro e w19 ⟨rfl, hi, hb, hk⟩; refine ⟨_, rfl, ?_⟩; replace HO1_0 := Aside0.mk (Kd.R_mono (Kd.R_keep (IsS91.apart (show IsS91 w0 _ g s0_0 s0_1 s0_2 from i_ HI0) (rb_ (Kd.R_mono (Kd.R_far (p := ⟨gb106, 0, none⟩) (Kd.R_types HO1_0.out BK106.out (by decide)) (fun _ hk => hk.2) (.slice Ao13 t103.length co13)) (fun _ h_ => h_.1))) (by decide)) hk (fun _ h => h.2)) (fun _ h => h.1)); replace BK101 := Aside0.mk (KeepBut.blk hk (g' := gb101) (o := .cells #[.slice Ao6 l1_0.length co6] 26 (0, 0)) (by (with_reducible repeat (first | refine blk_drewN ?_ _ | refine blk_drew ?_ | refine blk_alloc ?_ _)); refine blk_far ?_ NB101_106.out _; (with_reducible repeat (first | refine blk_drewN ?_ _ | refine blk_drew ?_ | refine blk_alloc ?_ _)); exact BK101.out) NB101_0.out (by simp)); replace BK102 := Aside0.mk (KeepBut.blk hk (g' := gb102) (o := .cells #[.slice none 0 0] 26 (0, 0)) (by (with_reducible repeat (first | refine blk_drewN ?_ _ | refine blk_drew ?_ | refine blk_alloc ?_ _)); refine blk_far ?_ NB102_106.out _; (with_reducible repeat (first | refine blk_drewN ?_ _ | refine blk_drew ?_ | refine blk_alloc ?_ _)); exact BK102.out) NB102_0.out (by simp)); replace HO105 := Aside0.mk (Kd.R_mono (Kd.R_keep (IsS91.apart (show IsS91 w0 _ g s0_0 s0_1 s0_2 from i_ HI0) (rb_ (Kd.R_mono (Kd.R_far (p := ⟨gb106, 0, none⟩) (Kd.R_types HO105.out BK106.out (by decide)) (fun _ hk => hk.2) (.slice Ao13 t103.length co13)) (fun _ h_ => h_.1))) (by decide)) hk (fun _ h => h.2)) (fun _ h => h.1)); replace BK106 := Aside0.mk (KeepBut.blk hk (g' := gb106) (o := .cells #[.slice Ao13 t103.length co13] 26 (0, 0)) (by (with_reducible repeat (first | refine blk_drewN ?_ _ | refine blk_drew ?_ | refine blk_alloc ?_ _)); refine blk_put (cs := #[.slice none 0 0]) ?_ 0 _ rfl; (with_reducible repeat (first | refine blk_drewN ?_ _ | refine blk_drew ?_ | refine blk_alloc ?_ _)); exact BK106.out) NB106_0.out (by simp)); replace HK := Aside0.mk (Kept.of_keep (S := (fun k_ => (P1_0_ k_) ∨ k_ = g)) (kt_ HK) hk (.inl (.inr rfl))); replace HB := Aside0.mk (hb); replace HI0 := Aside0.mk (hi); (try clear hb); (try clear hb2); (try clear hk); (try clear hi); have hnb20 := NB102_0.out; have hnc20 := NB0_102.out; have hcz21_0 := hz_ BK102; have hfz21_0 := blk_frozen BK102.out 0))
  refine bodyPost_ret (results_cell_row rfl _ _ gb102 26 #[.slice none 0 0] (0, 0) _ rfl (by (with_reducible repeat (first | refine blk_drewN ?_ _ | refine blk_drew ?_ | refine blk_alloc ?_ _)); refine blk_put (cs := #[.slice none 0 0]) ?_ 0 _ rfl; (with_reducible repeat (first | refine blk_drewN ?_ _ | refine blk_drew ?_ | refine blk_alloc ?_ _)); exact BK102.out) Try.underlying26 rfl (by kernel_rfl)) rfl ?_
  exact ⟨_, t5_, by first | exact Kd.R_nil _ _ _ _ _ | exact Kd.N_nil _ _ _ _ _ | exact Kd.V_nil _ _ _ _ _ | exact Kd.Q_nil _ _ _ _ _ | exact Kd.S_nil _ _ _ _ _, i_ HI0, gb_ HB.out, kt_ HK⟩
 rw [if_neg c5] at H
 have c5b0 : (t107 == 0) = false := beq_eq_false_iff_ne.mpr c5
 have c5b1 : (t107 != 0) = true := bne_iff_ne.mpr c5
 by_cases c22 : t107 = 1
 rotate_left
 ·rw [if_neg c22] at H
  have c22b0 : (t107 == 1) = false := beq_eq_false_iff_ne.mpr c22
  have c22b1 : (t107 != 1) = true := bne_iff_ne.mpr c22
  by_cases c54 : t107 = 2
  rotate_left
  ·rw [if_neg c54] at H
   have c54b0 : (t107 == 2) = false := beq_eq_false_iff_ne.mpr c54
   have c54b1 : (t107 != 2) = true := bne_iff_ne.mpr c54
   simp only [Option.some.injEq, Prod.mk.injEq] at H
   obtain ⟨rfl, rfl, rfl⟩ := H
   obtain ⟨Ao87, co87, eo87⟩ := Kd.R_slice HO1_0.out
   subst eo87
   go_enter Try.func81, Try.ntmps81
   go_wp2_with (first | ((with_reducible refine gate_dst (N := 3) rfl ?_); refine bx_ (N := 3) (cs := #[.slice Ao87 l1_0.length co87]) (t := 26) rfl rfl ?_; intro gb101 hg w88 hbox hb; have n0_ := a1_ HO1_0 hb; have n1_ := i1_ HI0 hb; have n2_ := Aside0.mk (Kept.below (S := (fun k_ => (P1_0_ k_) ∨ k_ = g)) (kt_ HK) hb); have n3_ := b1_ HB hb; have n4_ := Aside0.mk (hbox); have n5_ := Aside0.mk ((by rw [hg]; exact (by first | exact HK.out.1 | exact (show Kept w _ (fun k_ => (P1_0_ k_) ∨ k_ = g) from kt_ HK).1) : w.heap.size ≤ gb101)); have n6_ := ge_ hg HB; have n7_ := il_ hg HI0; have n8_ := ir_ hg HI0; clear HO1_0 HI0 HK HB; have HO1_0 := n0_; have HI0 := n1_; have HK := n2_; have HB := n3_; have BK101 := n4_; have GW101 := n5_; have GE101 := n6_; have NB0_101 := n7_; have NB101_0 := n8_; clear n0_ n1_ n2_ n3_ n4_ n5_ n6_ n7_ n8_ hb hbox hg) | ((with_reducible refine gate_dst (N := 4) rfl ?_); refine bx_ (N := 4) (cs := #[.slice none 0 0]) (t := 26) rfl rfl ?_; intro gb102 hg w89 hbox hb; have n0_ := a1_ HO1_0 hb; have n1_ := i1_ HI0 hb; have n2_ := a2_ BK101 hb; have n3_ := Aside0.mk (Kept.below (S := (fun k_ => (P1_0_ k_) ∨ k_ = g)) (kt_ HK) hb); have n4_ := b1_ HB hb; have n5_ := Aside0.mk (hbox); have n6_ := Aside0.mk ((by rw [hg]; exact (by first | exact HK.out.1 | exact (show Kept w _ (fun k_ => (P1_0_ k_) ∨ k_ = g) from kt_ HK).1) : w.heap.size ≤ gb102)); have n7_ := ge_ hg HB; have n8_ := nl_ hg BK101; have n9_ := nr_ hg BK101; have n10_ := il_ hg HI0; have n11_ := ir_ hg HI0; clear HO1_0 HI0 BK101 HK HB; have HO1_0 := n0_; have HI0 := n1_; have BK101 := n2_; have HK := n3_; have HB := n4_; have BK102 := n5_; have GW102 := n6_; have GE102 := n7_; have NB101_102 := n8_; have NB102_101 := n9_; have NB0_102 := n10_; have NB102_0 := n11_; clear n0_ n1_ n2_ n3_ n4_ n5_ n6_ n7_ n8_ n9_ n10_ n11_ hb hbox hg; have hnb90 := NB101_102.out; have hnc90 := NB102_101.out; have hnb91 := NB101_0.out; have hnc91 := NB0_101.out; have hcz92_0 := hz_ BK101; have hfz92_0 := blk_frozen BK101.out 0) | ((with_reducible refine gate_callee (f := 115) rfl ?_); refine gl_ (some 8) rfl rfl Try.func115 #[.slice Ao87 l1_0.length co87] rfl ?_; (with_reducible refine (spec_l01Own.calls _ _ l1_0 t103 _ ?side1 ?side2 A3.out).mono ?_); (case side1 => exact c1_ HO1_0); (case side2 => exact (Kd.R_reads' HO1_0.out).2.1); rintro e w93 ⟨v104, rfl, ho0, hb⟩; refine ⟨_, rfl, ?_⟩; have HO105 := Aside0.mk (Kd.R_lower (Kd.R_new' (Kd.R_newM (M := fun k_ => (P1_0_ k_ ∨ w.heap.size ≤ k_)) ho0 (by first | exact HK.out.1 | exact (show Kept w _ (fun k_ => (P1_0_ k_) ∨ k_ = g) from kt_ HK).1) (fun k_ h_ => .inr h_)) (Kd.R_lt (rb_ HO1_0.out))) (below_size (gb_ HB.out))); replace HO1_0 := a5_ HO1_0 ho0 hb; replace HI0 := i1_ HI0 hb; replace BK101 := a2_ BK101 hb; replace BK102 := a2_ BK102 hb; replace HK := Aside0.mk (Kept.below (S := (fun k_ => (P1_0_ k_) ∨ k_ = g)) (kt_ HK) hb); replace HB := b1_ HB hb; (try clear hb); (try clear hb2); (try clear hk); (try clear hi); (try clear ho0); obtain ⟨Ao94, co94, eo94⟩ := Kd.R_slice HO105.out; subst eo94) | ((with_reducible refine gate_dst (N := 5) rfl ?_); refine bx_ (N := 5) (cs := #[.slice none 0 0]) (t := 26) rfl rfl ?_; intro gb106 hg w95 hbox hb; have n0_ := a1_ HO1_0 hb; have n1_ := a1_ HO105 hb; have n2_ := i1_ HI0 hb; have n3_ := a2_ BK101 hb; have n4_ := a2_ BK102 hb; have n5_ := Aside0.mk (Kept.below (S := (fun k_ => (P1_0_ k_) ∨ k_ = g)) (kt_ HK) hb); have n6_ := b1_ HB hb; have n7_ := Aside0.mk (hbox); have n8_ := Aside0.mk ((by rw [hg]; exact (by first | exact HK.out.1 | exact (show Kept w _ (fun k_ => (P1_0_ k_) ∨ k_ = g) from kt_ HK).1) : w.heap.size ≤ gb106)); have n9_ := ge_ hg HB; have n10_ := nl_ hg BK101; have n11_ := nr_ hg BK101; have n12_ := nl_ hg BK102; have n13_ := nr_ hg BK102; have n14_ := il_ hg HI0; have n15_ := ir_ hg HI0; clear HO1_0 HO105 HI0 BK101 BK102 HK HB; have HO1_0 := n0_; have HO105 := n1_; have HI0 := n2_; have BK101 := n3_; have BK102 := n4_; have HK := n5_; have HB := n6_; have BK106 := n7_; have GW106 := n8_; have GE106 := n9_; have NB101_106 := n10_; have NB106_101 := n11_; have NB102_106 := n12_; have NB106_102 := n13_; have NB0_106 := n14_; have NB106_0 := n15_; clear n0_ n1_ n2_ n3_ n4_ n5_ n6_ n7_ n8_ n9_ n10_ n11_ n12_ n13_ n14_ n15_ hb hbox hg; have hnb96 := NB106_101.out; have hnc96 := NB101_106.out; have hnb97 := NB106_102.out; have hnc97 := NB102_106.out; have hnb98 := NB106_0.out; have hnc98 := NB0_106.out; have hcz99_0 := hz_ BK106; have hfz99_0 := blk_frozen BK106.out 0) | ((with_reducible refine gate_callee (f := 85) rfl ?_); refine gl_ (some 11) rfl rfl Try.func85 #[.pointer (some ⟨g, 0, none⟩), .int .i64 50] rfl ?_; (with_reducible refine (spec_l01Next.calls g s0_0 s0_1 s0_2 50 t107 t108 t109 w0 _ ?side1 ?side2 A4.out).mono ?_); (case side1 => exact i_ HI0); (case side2 => exact gb_ HB.out); rintro e w100 ⟨rfl, hi, hb, hk⟩; refine ⟨_, rfl, ?_⟩; replace HO1_0 := Aside0.mk (Kd.R_mono (Kd.R_keep (IsS91.apart (show IsS91 w0 _ g s0_0 s0_1 s0_2 from i_ HI0) (rb_ (Kd.R_mono (Kd.R_far (p := ⟨gb106, 0, none⟩) (Kd.R_types HO1_0.out BK106.out (by decide)) (fun _ hk => hk.2) (.slice Ao94 t103.length co94)) (fun _ h_ => h_.1))) (by decide)) hk (fun _ h => h.2)) (fun _ h => h.1)); replace BK101 := Aside0.mk (KeepBut.blk hk (g' := gb101) (o := .cells #[.slice Ao87 l1_0.length co87] 26 (0, 0)) (by (with_reducible repeat (first | refine blk_drewN ?_ _ | refine blk_drew ?_ | refine blk_alloc ?_ _)); refine blk_far ?_ NB101_106.out _; (with_reducible repeat (first | refine blk_drewN ?_ _ | refine blk_drew ?_ | refine blk_alloc ?_ _)); exact BK101.out) NB101_0.out (by simp)); replace BK102 := Aside0.mk (KeepBut.blk hk (g' := gb102) (o := .cells #[.slice none 0 0] 26 (0, 0)) (by (with_reducible repeat (first | refine blk_drewN ?_ _ | refine blk_drew ?_ | refine blk_alloc ?_ _)); refine blk_far ?_ NB102_106.out _; (with_reducible repeat (first | refine blk_drewN ?_ _ | refine blk_drew ?_ | refine blk_alloc ?_ _)); exact BK102.out) NB102_0.out (by simp)); replace HO105 := Aside0.mk (Kd.R_mono (Kd.R_keep (IsS91.apart (show IsS91 w0 _ g s0_0 s0_1 s0_2 from i_ HI0) (rb_ (Kd.R_mono (Kd.R_far (p := ⟨gb106, 0, none⟩) (Kd.R_types HO105.out BK106.out (by decide)) (fun _ hk => hk.2) (.slice Ao94 t103.length co94)) (fun _ h_ => h_.1))) (by decide)) hk (fun _ h => h.2)) (fun _ h => h.1)); replace BK106 := Aside0.mk (KeepBut.blk hk (g' := gb106) (o := .cells #[.slice Ao94 t103.length co94] 26 (0, 0)) (by (with_reducible repeat (first | refine blk_drewN ?_ _ | refine blk_drew ?_ | refine blk_alloc ?_ _)); refine blk_put (cs := #[.slice none 0 0]) ?_ 0 _ rfl; (with_reducible repeat (first | refine blk_drewN ?_ _ | refine blk_drew ?_ | refine blk_alloc ?_ _)); exact BK106.out) NB106_0.out (by simp)); replace HK := Aside0.mk (Kept.of_keep (S := (fun k_ => (P1_0_ k_) ∨ k_ = g)) (kt_ HK) hk (.inl (.inr rfl))); replace HB := Aside0.mk (hb); replace HI0 := Aside0.mk (hi); (try clear hb); (try clear hb2); (try clear hk); (try clear hi); have hcz101_0 := hz_ BK101; have hfz101_0 := blk_frozen BK101.out 0; have hnb102 := NB102_0.out; have hnc102 := NB0_102.out; have hcz103_0 := hz_ BK102; have hfz103_0 := blk_frozen BK102.out 0))
   refine bodyPost_ret (results_cell_row rfl _ _ gb102 26 #[.slice Ao87 l1_0.length co87] (0, 0) _ rfl (by (with_reducible repeat (first | refine blk_drewN ?_ _ | refine blk_drew ?_ | refine blk_alloc ?_ _)); refine blk_put (cs := #[.slice none 0 0]) ?_ 0 _ rfl; (with_reducible repeat (first | refine blk_drewN ?_ _ | refine blk_drew ?_ | refine blk_alloc ?_ _)); exact BK102.out) Try.underlying26 rfl (by kernel_rfl)) rfl ?_
   exact ⟨_, t5_, by (with_reducible repeat (first | apply Kd.R_alloc | apply Kd.R_drewN | apply Kd.R_drew)); refine Kd.R_mono (show Kd.R (Kd.int .i64) 2 _ w0.heap.size (fun k_ => (PX_ k_ ∨ w.heap.size ≤ k_)) _ _ from ?_) (fun k_ h_ => Or.imp_left Or.inl h_); exact Kd.R_mono (Kd.R_far (p := ⟨gb102, 0, none⟩) (Kd.R_types HO1_0.out BK102.out (by decide)) (fun _ hk => hk.2) (.slice Ao87 l1_0.length co87)) (fun _ hk => hk.1.1), i_ HI0, gb_ HB.out, kt_ HK⟩
  rw [if_pos c54] at H
  have c54b0 : (t107 == 2) = true := beq_iff_eq.mpr c54
  have c54b1 : (t107 != 2) = false := bne_eq_false_iff_eq.mpr c54
  clear c54
  have H' := Aside0.mk H
  clear H
  obtain ⟨Ao55, co55, eo55⟩ := Kd.R_slice HO1_0.out
  subst eo55
  go_enter Try.func81, Try.ntmps81
  go_wp2_with (first | ((with_reducible refine gate_dst (N := 3) rfl ?_); refine bx_ (N := 3) (cs := #[.slice Ao55 l1_0.length co55]) (t := 26) rfl rfl ?_; intro gb101 hg w56 hbox hb; have n0_ := a1_ HO1_0 hb; have n1_ := i1_ HI0 hb; have n2_ := Aside0.mk (Kept.below (S := (fun k_ => (P1_0_ k_) ∨ k_ = g)) (kt_ HK) hb); have n3_ := b1_ HB hb; have n4_ := Aside0.mk (hbox); have n5_ := Aside0.mk ((by rw [hg]; exact (by first | exact HK.out.1 | exact (show Kept w _ (fun k_ => (P1_0_ k_) ∨ k_ = g) from kt_ HK).1) : w.heap.size ≤ gb101)); have n6_ := ge_ hg HB; have n7_ := il_ hg HI0; have n8_ := ir_ hg HI0; clear HO1_0 HI0 HK HB; have HO1_0 := n0_; have HI0 := n1_; have HK := n2_; have HB := n3_; have BK101 := n4_; have GW101 := n5_; have GE101 := n6_; have NB0_101 := n7_; have NB101_0 := n8_; clear n0_ n1_ n2_ n3_ n4_ n5_ n6_ n7_ n8_ hb hbox hg) | ((with_reducible refine gate_dst (N := 4) rfl ?_); refine bx_ (N := 4) (cs := #[.slice none 0 0]) (t := 26) rfl rfl ?_; intro gb102 hg w57 hbox hb; have n0_ := a1_ HO1_0 hb; have n1_ := i1_ HI0 hb; have n2_ := a2_ BK101 hb; have n3_ := Aside0.mk (Kept.below (S := (fun k_ => (P1_0_ k_) ∨ k_ = g)) (kt_ HK) hb); have n4_ := b1_ HB hb; have n5_ := Aside0.mk (hbox); have n6_ := Aside0.mk ((by rw [hg]; exact (by first | exact HK.out.1 | exact (show Kept w _ (fun k_ => (P1_0_ k_) ∨ k_ = g) from kt_ HK).1) : w.heap.size ≤ gb102)); have n7_ := ge_ hg HB; have n8_ := nl_ hg BK101; have n9_ := nr_ hg BK101; have n10_ := il_ hg HI0; have n11_ := ir_ hg HI0; clear HO1_0 HI0 BK101 HK HB; have HO1_0 := n0_; have HI0 := n1_; have BK101 := n2_; have HK := n3_; have HB := n4_; have BK102 := n5_; have GW102 := n6_; have GE102 := n7_; have NB101_102 := n8_; have NB102_101 := n9_; have NB0_102 := n10_; have NB102_0 := n11_; clear n0_ n1_ n2_ n3_ n4_ n5_ n6_ n7_ n8_ n9_ n10_ n11_ hb hbox hg; have hnb58 := NB101_102.out; have hnc58 := NB102_101.out; have hnb59 := NB101_0.out; have hnc59 := NB0_101.out; have hcz60_0 := hz_ BK101; have hfz60_0 := blk_frozen BK101.out 0) | ((with_reducible refine gate_callee (f := 115) rfl ?_); refine gl_ (some 8) rfl rfl Try.func115 #[.slice Ao55 l1_0.length co55] rfl ?_; (with_reducible refine (spec_l01Own.calls _ _ l1_0 t103 _ ?side1 ?side2 A3.out).mono ?_); (case side1 => exact c1_ HO1_0); (case side2 => exact (Kd.R_reads' HO1_0.out).2.1); rintro e w61 ⟨v104, rfl, ho0, hb⟩; refine ⟨_, rfl, ?_⟩; have HO105 := Aside0.mk (Kd.R_lower (Kd.R_new' (Kd.R_newM (M := fun k_ => (P1_0_ k_ ∨ w.heap.size ≤ k_)) ho0 (by first | exact HK.out.1 | exact (show Kept w _ (fun k_ => (P1_0_ k_) ∨ k_ = g) from kt_ HK).1) (fun k_ h_ => .inr h_)) (Kd.R_lt (rb_ HO1_0.out))) (below_size (gb_ HB.out))); replace HO1_0 := a5_ HO1_0 ho0 hb; replace HI0 := i1_ HI0 hb; replace BK101 := a2_ BK101 hb; replace BK102 := a2_ BK102 hb; replace HK := Aside0.mk (Kept.below (S := (fun k_ => (P1_0_ k_) ∨ k_ = g)) (kt_ HK) hb); replace HB := b1_ HB hb; (try clear hb); (try clear hb2); (try clear hk); (try clear hi); (try clear ho0); obtain ⟨Ao62, co62, eo62⟩ := Kd.R_slice HO105.out; subst eo62) | ((with_reducible refine gate_dst (N := 5) rfl ?_); refine bx_ (N := 5) (cs := #[.slice none 0 0]) (t := 26) rfl rfl ?_; intro gb106 hg w63 hbox hb; have n0_ := a1_ HO1_0 hb; have n1_ := a1_ HO105 hb; have n2_ := i1_ HI0 hb; have n3_ := a2_ BK101 hb; have n4_ := a2_ BK102 hb; have n5_ := Aside0.mk (Kept.below (S := (fun k_ => (P1_0_ k_) ∨ k_ = g)) (kt_ HK) hb); have n6_ := b1_ HB hb; have n7_ := Aside0.mk (hbox); have n8_ := Aside0.mk ((by rw [hg]; exact (by first | exact HK.out.1 | exact (show Kept w _ (fun k_ => (P1_0_ k_) ∨ k_ = g) from kt_ HK).1) : w.heap.size ≤ gb106)); have n9_ := ge_ hg HB; have n10_ := nl_ hg BK101; have n11_ := nr_ hg BK101; have n12_ := nl_ hg BK102; have n13_ := nr_ hg BK102; have n14_ := il_ hg HI0; have n15_ := ir_ hg HI0; clear HO1_0 HO105 HI0 BK101 BK102 HK HB; have HO1_0 := n0_; have HO105 := n1_; have HI0 := n2_; have BK101 := n3_; have BK102 := n4_; have HK := n5_; have HB := n6_; have BK106 := n7_; have GW106 := n8_; have GE106 := n9_; have NB101_106 := n10_; have NB106_101 := n11_; have NB102_106 := n12_; have NB106_102 := n13_; have NB0_106 := n14_; have NB106_0 := n15_; clear n0_ n1_ n2_ n3_ n4_ n5_ n6_ n7_ n8_ n9_ n10_ n11_ n12_ n13_ n14_ n15_ hb hbox hg; have hnb64 := NB106_101.out; have hnc64 := NB101_106.out; have hnb65 := NB106_102.out; have hnc65 := NB102_106.out; have hnb66 := NB106_0.out; have hnc66 := NB0_106.out; have hcz67_0 := hz_ BK106; have hfz67_0 := blk_frozen BK106.out 0) | ((with_reducible refine gate_callee (f := 85) rfl ?_); refine gl_ (some 11) rfl rfl Try.func85 #[.pointer (some ⟨g, 0, none⟩), .int .i64 50] rfl ?_; (with_reducible refine (spec_l01Next.calls g s0_0 s0_1 s0_2 50 t107 t108 t109 w0 _ ?side1 ?side2 A4.out).mono ?_); (case side1 => exact i_ HI0); (case side2 => exact gb_ HB.out); rintro e w68 ⟨rfl, hi, hb, hk⟩; refine ⟨_, rfl, ?_⟩; replace HO1_0 := Aside0.mk (Kd.R_mono (Kd.R_keep (IsS91.apart (show IsS91 w0 _ g s0_0 s0_1 s0_2 from i_ HI0) (rb_ (Kd.R_mono (Kd.R_far (p := ⟨gb106, 0, none⟩) (Kd.R_types HO1_0.out BK106.out (by decide)) (fun _ hk => hk.2) (.slice Ao62 t103.length co62)) (fun _ h_ => h_.1))) (by decide)) hk (fun _ h => h.2)) (fun _ h => h.1)); replace BK101 := Aside0.mk (KeepBut.blk hk (g' := gb101) (o := .cells #[.slice Ao55 l1_0.length co55] 26 (0, 0)) (by (with_reducible repeat (first | refine blk_drewN ?_ _ | refine blk_drew ?_ | refine blk_alloc ?_ _)); refine blk_far ?_ NB101_106.out _; (with_reducible repeat (first | refine blk_drewN ?_ _ | refine blk_drew ?_ | refine blk_alloc ?_ _)); exact BK101.out) NB101_0.out (by simp)); replace BK102 := Aside0.mk (KeepBut.blk hk (g' := gb102) (o := .cells #[.slice none 0 0] 26 (0, 0)) (by (with_reducible repeat (first | refine blk_drewN ?_ _ | refine blk_drew ?_ | refine blk_alloc ?_ _)); refine blk_far ?_ NB102_106.out _; (with_reducible repeat (first | refine blk_drewN ?_ _ | refine blk_drew ?_ | refine blk_alloc ?_ _)); exact BK102.out) NB102_0.out (by simp)); replace HO105 := Aside0.mk (Kd.R_mono (Kd.R_keep (IsS91.apart (show IsS91 w0 _ g s0_0 s0_1 s0_2 from i_ HI0) (rb_ (Kd.R_mono (Kd.R_far (p := ⟨gb106, 0, none⟩) (Kd.R_types HO105.out BK106.out (by decide)) (fun _ hk => hk.2) (.slice Ao62 t103.length co62)) (fun _ h_ => h_.1))) (by decide)) hk (fun _ h => h.2)) (fun _ h => h.1)); replace BK106 := Aside0.mk (KeepBut.blk hk (g' := gb106) (o := .cells #[.slice Ao62 t103.length co62] 26 (0, 0)) (by (with_reducible repeat (first | refine blk_drewN ?_ _ | refine blk_drew ?_ | refine blk_alloc ?_ _)); refine blk_put (cs := #[.slice none 0 0]) ?_ 0 _ rfl; (with_reducible repeat (first | refine blk_drewN ?_ _ | refine blk_drew ?_ | refine blk_alloc ?_ _)); exact BK106.out) NB106_0.out (by simp)); replace HK := Aside0.mk (Kept.of_keep (S := (fun k_ => (P1_0_ k_) ∨ k_ = g)) (kt_ HK) hk (.inl (.inr rfl))); replace HB := Aside0.mk (hb); replace HI0 := Aside0.mk (hi); (try clear hb); (try clear hb2); (try clear hk); (try clear hi)))
  go_loopg [] k (fun kq w' => ∃ (x107000_1 : List Int) (u107000 : Value), Aside0 (spec_l01Bad.l0 kq s0_0 t108 t109 x107000_1 = some (r1, r2, r3)) ∧ Aside0 (kq ≤ k) ∧ Aside0 (Kd.R (Kd.int .i64) 2 w' w0.heap.size (fun k_ => (PX_ k_ ∨ w.heap.size ≤ k_) ∧ OB_ k_ u107000) (.slice Ao55 l1_0.length co55) l1_0) ∧ Aside0 (Kd.R (Kd.int .i64) 2 w' w0.heap.size (fun k_ => (P1_0_ k_ ∨ w.heap.size ≤ k_) ∧ OB_ k_ (.slice Ao55 l1_0.length co55)) u107000 x107000_1) ∧ Aside0 (w'.heap[gb101]? = some (.cells #[(.slice Ao55 l1_0.length co55)] 26 (0, 0))) ∧ Aside0 (w'.heap[gb102]? = some (.cells #[(.slice none 0 0)] 26 (0, 0))) ∧ Aside0 (w'.heap[gb106]? = some (.cells #[u107000] 26 (0, 0))) ∧ Aside0 (IsS91 w0 w' g s0_0 t108 t109) ∧ Aside0 (Kept w w' (fun k_ => (P1_0_ k_) ∨ k_ = g)) ∧ Aside0 (Below w0.heap.size w0 w'))
  case atStart => exact ⟨(t103), (.slice Ao62 t103.length co62), H', ⟨Nat.le_refl _⟩, ⟨rb_ HO1_0.out⟩, ⟨by (with_reducible repeat (first | apply Kd.R_alloc | apply Kd.R_drewN | apply Kd.R_drew)); exact Kd.R_mono HO105.out (fun _ hk => ⟨hk.1.1, hk.2⟩)⟩, ⟨bb_ BK101.out⟩, ⟨bb_ BK102.out⟩, ⟨bb_ BK106.out⟩, ⟨i_ HI0⟩, ⟨kt_ HK⟩, ⟨gb_ HB.out⟩⟩
  clear H'
  try clear c1
  try clear c2
  try clear p2
  try clear q2
  try clear hx2
  try clear hf2
  try clear c3
  try clear c5
  try clear c5b0
  try clear c5b1
  try clear c6
  try clear c8
  try clear c9
  try clear c10
  try clear c11
  try clear c15
  try clear c16
  try clear c17
  try clear c20
  try clear c22
  try clear c22b0
  try clear c22b1
  try clear c25
  try clear c25b0
  try clear c26
  try clear c26b0
  try clear p27
  try clear q27
  try clear hx27
  try clear hf27
  try clear c31
  try clear c32
  try clear c37
  try clear c38
  try clear c39
  try clear c52
  try clear c54
  try clear c54b0
  try clear c54b1
  try clear c58
  try clear c59
  try clear c64
  try clear c65
  try clear c66
  try clear hcz11_0
  try clear hcz18_0
  try clear hcz21_0
  try clear hcz33_0
  try clear hcz40_0
  try clear hcz51_0
  try clear hcz53_0
  try clear hcz60_0
  try clear hcz67_0
  try clear hfz11_0
  try clear hfz18_0
  try clear hfz21_0
  try clear hfz33_0
  try clear hfz40_0
  try clear hfz51_0
  try clear hfz53_0
  try clear hfz60_0
  try clear hfz67_0
  try clear hx27_0
  try clear p27
  try clear q27
  obtain ⟨x107000_1, u107000, HA, HK1, HO_102000, HO_107000, BK101, BK102, BK106, HI0, HK, HB⟩ := hrel
  obtain _ | k1 := gk
  ·exact absurd HA.out (by simp [spec_l01Bad.l0])
  have H := HA.out
  clear HA
  simp only [spec_l01Bad.l0] at H
  by_cases c69 : (x107000_1.length : Int) < 6
  rotate_left
  ·rw [if_neg c69] at H
   have c69b0 : decide ((x107000_1.length : Int) < 6) = false := decide_eq_false c69
   have c69b1 : decide (x107000_1.length < 6) = false := decide_eq_false (by omega)
   clear c69
   simp only [Option.some.injEq, Prod.mk.injEq] at H
   obtain ⟨rfl, rfl, rfl⟩ := H
   have hnb79 := NB106_101.out
   have hnc79 := NB101_106.out
   have hnb80 := NB106_102.out
   have hnc80 := NB102_106.out
   have hnb81 := NB106_0.out
   have hnc81 := NB0_106.out
   have hcz82_0 := hz_ BK106
   have hfz82_0 := blk_frozen BK106.out 0
   obtain ⟨Ao83, co83, eo83⟩ := Kd.R_slice HO_107000.out
   subst eo83
   have hnb84 := NB102_101.out
   have hnc84 := NB101_102.out
   have hnb85 := NB102_0.out
   have hnc85 := NB0_102.out
   have hcz86_0 := hz_ BK102
   have hfz86_0 := blk_frozen BK102.out 0
   go_wp2
   refine bodyPost_ret (results_cell_row rfl _ _ gb102 26 #[.slice Ao83 x107000_1.length co83] (0, 0) _ rfl (by (with_reducible repeat (first | refine blk_drewN ?_ _ | refine blk_drew ?_ | refine blk_alloc ?_ _)); refine blk_put (cs := #[.slice none 0 0]) ?_ 0 _ rfl; (with_reducible repeat (first | refine blk_drewN ?_ _ | refine blk_drew ?_ | refine blk_alloc ?_ _)); exact BK102.out) Try.underlying26 rfl (by kernel_rfl)) rfl ?_
   exact ⟨_, t5_, by (with_reducible repeat (first | apply Kd.R_alloc | apply Kd.R_drewN | apply Kd.R_drew)); refine Kd.R_mono (show Kd.R (Kd.int .i64) 2 _ w0.heap.size (fun k_ => (P1_0_ k_ ∨ w.heap.size ≤ k_)) _ _ from ?_) (fun k_ h_ => Or.imp_left Or.inr h_); exact Kd.R_mono (Kd.R_far (p := ⟨gb102, 0, none⟩) (Kd.R_types HO_107000.out BK102.out (by decide)) (fun _ hk => hk.2) (.slice Ao83 x107000_1.length co83)) (fun _ hk => hk.1.1), i_ HI0, gb_ HB.out, kt_ HK⟩
  rw [if_pos c69] at H
  have c69b0 : decide ((x107000_1.length : Int) < 6) = true := decide_eq_true c69
  have c69b1 : decide (x107000_1.length < 6) = true := decide_eq_true (by omega)
  clear c69
  by_cases c70 : x107000_1.length < 17592186044416
  rotate_left
  ·rw [if_neg c70] at H
   exact absurd H (by simp)
  rw [if_pos c70] at H
  have LMc70 := Aside0.mk c70
  clear c70
  obtain ⟨y120, hy120⟩ : ∃ y_ : List Int, y_ = (x107000_1 ++ [4]) := ⟨_, rfl⟩
  replace H : (spec_l01Bad.l0 k1 s0_0 t108 t109 y120) = some (r1, r2, r3) := y_ H
  have Ny120 := Aside0.mk hy120
  clear hy120
  have H' := Aside0.mk H
  clear H
  have hnb71 := NB106_101.out
  have hnc71 := NB101_106.out
  have hnb72 := NB106_102.out
  have hnc72 := NB102_106.out
  have hnb73 := NB106_0.out
  have hnc73 := NB0_106.out
  have hcz74_0 := hz_ BK106
  have hfz74_0 := blk_frozen BK106.out 0
  obtain ⟨Ao75, co75, eo75⟩ := Kd.R_slice HO_107000.out
  subst eo75
  go_wp2_with (first | ((with_reducible refine gate_builtin (b := .append) (xs := #[.tmp 36, .tmp 37]) rfl ?_); at_builtin; refine Kd.R_append (Kd.int .i64) (w0 := w0) w0.heap.size rfl (.tmp 36) (.tmp 37) 24 2 (.int .i64 0) 8 rfl Try.underlying24 info2 rfl (by decide) (by omega) (.slice Ao75 x107000_1.length co75) x107000_1 4 [.int .i64 4] (fun k_ => (P1_0_ k_ ∨ w.heap.size ≤ k_) ∧ OB_ k_ (.slice Ao55 l1_0.length co55)) (fun _ => False) rfl rfl ?aP (fun _ hk => hk.elim) ?aF ?aO ?aB ?aS ?aL ?_; (case aP => exact rfl); (case aB => exact (gb_ HB.out)); (case aF => exact (fun k_ hk => ⟨(.inr (Nat.le_trans (by first | exact HK.out.1 | exact (show Kept w _ (fun k_ => (P1_0_ k_) ∨ k_ = g) from kt_ HK).1) hk)), Kd.fresh' (Kd.R_lt (rb_ HO_102000.out)) k_ hk⟩)); (case aO => exact (rb_ HO_107000.out)); (case aS => exact (below_size (gb_ HB.out))); (case aL => have := LMc70.out; omega); intro v121 w76 ho hb hg hat; rw [← Ny120.out] at ho; have n0_ := Aside0.mk (Kd.R_after (ok := (fun k_ => (PX_ k_ ∨ w.heap.size ≤ k_))) (rb_ HO_102000.out) hg hat); have n1_ := Aside0.mk (blk_grown (g := gb101) (o := .cells #[.slice Ao55 l1_0.length co55] 26 (0, 0)) (bb_ BK101.out) hg (Kd.R_ne HO_107000.out BK101.out (by decide))); have n2_ := Aside0.mk (blk_grown (g := gb102) (o := .cells #[.slice none 0 0] 26 (0, 0)) (bb_ BK102.out) hg (Kd.R_ne HO_107000.out BK102.out (by decide))); have n3_ := Aside0.mk (blk_grown (g := gb106) (o := .cells #[.slice Ao75 x107000_1.length co75] 26 (0, 0)) (bb_ BK106.out) hg (Kd.R_ne HO_107000.out BK106.out (by decide))); have n4_ := Aside0.mk (IsS91.grown (i_ HI0) hg (IsS91.own_ne HI0.out HO_107000.out (by decide))); have n5_ := Aside0.mk (hb); have n6_ := Aside0.mk (Kept.of_grown (S := (fun k_ => (P1_0_ k_) ∨ k_ = g)) hg (kt_ HK) (fun k_ e_ => Or.imp_left Or.inl ((HO_107000.out.1 k_ e_).1))); have n7_ := Aside0.mk (ho); clear HO_102000 BK101 BK102 BK106 HI0 HB HK HO_107000; have HO_102000 := n0_; have BK101 := n1_; have BK102 := n2_; have BK106 := n3_; have HI0 := n4_; have HB := n5_; have HK := n6_; have HO122 := n7_; clear n0_ n1_ n2_ n3_ n4_ n5_ n6_ n7_ ho hb hg hat; obtain ⟨Ao77, co77, eo77⟩ := Kd.R_slice HO122.out; subst eo77; have hcz78_0 := hz_ BK106; have hfz78_0 := blk_frozen BK106.out 0))
  go_roundg k1
  case measure => have := HK1.out; omega
  case rel => exact ⟨(y120), (.slice Ao77 y120.length co77), H', ⟨by have := HK1.out; omega⟩, ⟨by (with_reducible repeat (first | apply Kd.R_alloc | apply Kd.R_drewN | apply Kd.R_drew)); exact Kd.R_mono (Kd.R_far (p := ⟨gb106, 0, none⟩) (Kd.R_types HO_102000.out BK106.out (by decide)) (fun _ hk => hk.2) (.slice Ao77 y120.length co77)) (fun _ hk => ⟨hk.1.1, hk.1.2⟩)⟩, ⟨by (with_reducible repeat (first | apply Kd.R_alloc | apply Kd.R_drewN | apply Kd.R_drew)); exact Kd.R_mono (Kd.R_far (p := ⟨gb106, 0, none⟩) (Kd.R_types HO122.out BK106.out (by decide)) (fun _ hk => hk.2) (.slice Ao77 y120.length co77)) (fun _ hk => ⟨hk.1.1, hk.1.2⟩)⟩, ⟨by (with_reducible repeat (first | refine blk_drewN ?_ _ | refine blk_drew ?_ | refine blk_alloc ?_ _)); refine blk_far ?_ NB101_106.out _; (with_reducible repeat (first | refine blk_drewN ?_ _ | refine blk_drew ?_ | refine blk_alloc ?_ _)); exact BK101.out⟩, ⟨by (with_reducible repeat (first | refine blk_drewN ?_ _ | refine blk_drew ?_ | refine blk_alloc ?_ _)); refine blk_far ?_ NB102_106.out _; (with_reducible repeat (first | refine blk_drewN ?_ _ | refine blk_drew ?_ | refine blk_alloc ?_ _)); exact BK102.out⟩, ⟨by (with_reducible repeat (first | refine blk_drewN ?_ _ | refine blk_drew ?_ | refine blk_alloc ?_ _)); refine blk_put (cs := #[.slice Ao75 x107000_1.length co75]) ?_ 0 _ rfl; (with_reducible repeat (first | refine blk_drewN ?_ _ | refine blk_drew ?_ | refine blk_alloc ?_ _)); exact BK106.out⟩, ⟨i_ HI0⟩, ⟨kt_ HK⟩, ⟨gb_ HB.out⟩⟩
 rw [if_pos c22] at H
 have c22b0 : (t107 == 1) = true := beq_iff_eq.mpr c22
 have c22b1 : (t107 != 1) = false := bne_eq_false_iff_eq.mpr c22
 clear c22
 replace H := Option.bind_eq_some_iff.mp H
 obtain ⟨⟨t110, t111, t112⟩, A230, H⟩ := H
 replace H : ((spec_l01Pick.f s0_0 t111 t112 (([1, 5, 0, (-1), 1099511627776] : List Int))).bind fun bt116 => (if 0 ≤ t110 then (if t110 < (t103.length : Int) then (some ((t103.set (t110 : Int).toNat bt116.1), bt116.2.1, bt116.2.2)) else (none)) else (none))) = some (r1, r2, r3) := H
 have A23 := Aside0.mk A230
 clear A230
 obtain ⟨y113, hy113⟩ : ∃ y_ : List Int, y_ = (([1, 5, 0, (-1), 1099511627776] : List Int)) := ⟨_, rfl⟩
 replace H : ((spec_l01Pick.f s0_0 t111 t112 y113).bind fun bt116 => (if 0 ≤ t110 then (if t110 < (t103.length : Int) then (some ((t103.set (t110 : Int).toNat bt116.1), bt116.2.1, bt116.2.2)) else (none)) else (none))) = some (r1, r2, r3) := y_ H
 have Ny113 := Aside0.mk hy113
 clear hy113
 replace H := Option.bind_eq_some_iff.mp H
 obtain ⟨⟨t116, t117, t118⟩, A240, H⟩ := H
 replace H : (if 0 ≤ t110 then (if t110 < (t103.length : Int) then (some ((t103.set (t110 : Int).toNat t116), t117, t118)) else (none)) else (none)) = some (r1, r2, r3) := H
 have A24 := Aside0.mk A240
 clear A240
 by_cases c25 : 0 ≤ t110
 rotate_left
 ·rw [if_neg c25] at H
  exact absurd H (by simp)
 rw [if_pos c25] at H
 have c25b0 : decide (0 ≤ t110) = true := decide_eq_true c25
 clear c25
 by_cases c26 : t110 < (t103.length : Int)
 rotate_left
 ·rw [if_neg c26] at H
  exact absurd H (by simp)
 rw [if_pos c26] at H
 have c26b0 : decide (t110 < (t103.length : Int)) = true := decide_eq_true c26
 clear c26
 obtain ⟨y119, hy119⟩ : ∃ y_ : List Int, y_ = (t103.set (t110 : Int).toNat t116) := ⟨_, rfl⟩
 replace H : (some (y119, t117, t118)) = some (r1, r2, r3) := y_ H
 have Ny119 := Aside0.mk hy119
 clear hy119
 simp only [Option.some.injEq, Prod.mk.injEq] at H
 obtain ⟨rfl, rfl, rfl⟩ := H
 obtain ⟨Ao28, co28, eo28⟩ := Kd.R_slice HO1_0.out
 subst eo28
 go_enter Try.func81, Try.ntmps81
 try go_wp2_with (first | ((with_reducible refine gate_dst (N := 3) rfl ?_); refine bx_ (N := 3) (cs := #[.slice Ao28 l1_0.length co28]) (t := 26) rfl rfl ?_; intro gb101 hg w29 hbox hb; have n0_ := a1_ HO1_0 hb; have n1_ := i1_ HI0 hb; have n2_ := Aside0.mk (Kept.below (S := (fun k_ => (P1_0_ k_) ∨ k_ = g)) (kt_ HK) hb); have n3_ := b1_ HB hb; have n4_ := Aside0.mk (hbox); have n5_ := Aside0.mk ((by rw [hg]; exact (by first | exact HK.out.1 | exact (show Kept w _ (fun k_ => (P1_0_ k_) ∨ k_ = g) from kt_ HK).1) : w.heap.size ≤ gb101)); have n6_ := ge_ hg HB; have n7_ := il_ hg HI0; have n8_ := ir_ hg HI0; clear HO1_0 HI0 HK HB; have HO1_0 := n0_; have HI0 := n1_; have HK := n2_; have HB := n3_; have BK101 := n4_; have GW101 := n5_; have GE101 := n6_; have NB0_101 := n7_; have NB101_0 := n8_; clear n0_ n1_ n2_ n3_ n4_ n5_ n6_ n7_ n8_ hb hbox hg) | ((with_reducible refine gate_dst (N := 4) rfl ?_); refine bx_ (N := 4) (cs := #[.slice none 0 0]) (t := 26) rfl rfl ?_; intro gb102 hg w30 hbox hb; have n0_ := a1_ HO1_0 hb; have n1_ := i1_ HI0 hb; have n2_ := a2_ BK101 hb; have n3_ := Aside0.mk (Kept.below (S := (fun k_ => (P1_0_ k_) ∨ k_ = g)) (kt_ HK) hb); have n4_ := b1_ HB hb; have n5_ := Aside0.mk (hbox); have n6_ := Aside0.mk ((by rw [hg]; exact (by first | exact HK.out.1 | exact (show Kept w _ (fun k_ => (P1_0_ k_) ∨ k_ = g) from kt_ HK).1) : w.heap.size ≤ gb102)); have n7_ := ge_ hg HB; have n8_ := nl_ hg BK101; have n9_ := nr_ hg BK101; have n10_ := il_ hg HI0; have n11_ := ir_ hg HI0; clear HO1_0 HI0 BK101 HK HB; have HO1_0 := n0_; have HI0 := n1_; have BK101 := n2_; have HK := n3_; have HB := n4_; have BK102 := n5_; have GW102 := n6_; have GE102 := n7_; have NB101_102 := n8_; have NB102_101 := n9_; have NB0_102 := n10_; have NB102_0 := n11_; clear n0_ n1_ n2_ n3_ n4_ n5_ n6_ n7_ n8_ n9_ n10_ n11_ hb hbox hg; have hnb31 := NB101_102.out; have hnc31 := NB102_101.out; have hnb32 := NB101_0.out; have hnc32 := NB0_101.out; have hcz33_0 := hz_ BK101; have hfz33_0 := blk_frozen BK101.out 0) | ((with_reducible refine gate_callee (f := 115) rfl ?_); refine gl_ (some 8) rfl rfl Try.func115 #[.slice Ao28 l1_0.length co28] rfl ?_; (with_reducible refine (spec_l01Own.calls _ _ l1_0 t103 _ ?side1 ?side2 A3.out).mono ?_); (case side1 => exact c1_ HO1_0); (case side2 => exact (Kd.R_reads' HO1_0.out).2.1); rintro e w34 ⟨v104, rfl, ho0, hb⟩; refine ⟨_, rfl, ?_⟩; have HO105 := Aside0.mk (Kd.R_lower (Kd.R_new' (Kd.R_newM (M := fun k_ => (P1_0_ k_ ∨ w.heap.size ≤ k_)) ho0 (by first | exact HK.out.1 | exact (show Kept w _ (fun k_ => (P1_0_ k_) ∨ k_ = g) from kt_ HK).1) (fun k_ h_ => .inr h_)) (Kd.R_lt (rb_ HO1_0.out))) (below_size (gb_ HB.out))); replace HO1_0 := a5_ HO1_0 ho0 hb; replace HI0 := i1_ HI0 hb; replace BK101 := a2_ BK101 hb; replace BK102 := a2_ BK102 hb; replace HK := Aside0.mk (Kept.below (S := (fun k_ => (P1_0_ k_) ∨ k_ = g)) (kt_ HK) hb); replace HB := b1_ HB hb; (try clear hb); (try clear hb2); (try clear hk); (try clear hi); (try clear ho0); obtain ⟨Ao35, co35, eo35⟩ := Kd.R_slice HO105.out; subst eo35) | ((with_reducible refine gate_dst (N := 5) rfl ?_); refine bx_ (N := 5) (cs := #[.slice none 0 0]) (t := 26) rfl rfl ?_; intro gb106 hg w36 hbox hb; have n0_ := a1_ HO1_0 hb; have n1_ := a1_ HO105 hb; have n2_ := i1_ HI0 hb; have n3_ := a2_ BK101 hb; have n4_ := a2_ BK102 hb; have n5_ := Aside0.mk (Kept.below (S := (fun k_ => (P1_0_ k_) ∨ k_ = g)) (kt_ HK) hb); have n6_ := b1_ HB hb; have n7_ := Aside0.mk (hbox); have n8_ := Aside0.mk ((by rw [hg]; exact (by first | exact HK.out.1 | exact (show Kept w _ (fun k_ => (P1_0_ k_) ∨ k_ = g) from kt_ HK).1) : w.heap.size ≤ gb106)); have n9_ := ge_ hg HB; have n10_ := nl_ hg BK101; have n11_ := nr_ hg BK101; have n12_ := nl_ hg BK102; have n13_ := nr_ hg BK102; have n14_ := il_ hg HI0; have n15_ := ir_ hg HI0; clear HO1_0 HO105 HI0 BK101 BK102 HK HB; have HO1_0 := n0_; have HO105 := n1_; have HI0 := n2_; have BK101 := n3_; have BK102 := n4_; have HK := n5_; have HB := n6_; have BK106 := n7_; have GW106 := n8_; have GE106 := n9_; have NB101_106 := n10_; have NB106_101 := n11_; have NB102_106 := n12_; have NB106_102 := n13_; have NB0_106 := n14_; have NB106_0 := n15_; clear n0_ n1_ n2_ n3_ n4_ n5_ n6_ n7_ n8_ n9_ n10_ n11_ n12_ n13_ n14_ n15_ hb hbox hg; have hnb37 := NB106_101.out; have hnc37 := NB101_106.out; have hnb38 := NB106_102.out; have hnc38 := NB102_106.out; have hnb39 := NB106_0.out; have hnc39 := NB0_106.out; have hcz40_0 := hz_ BK106; have hfz40_0 := blk_frozen BK106.out 0) | ((with_reducible refine gate_callee (f := 85) rfl ?_); refine gl_ (some 11) rfl rfl Try.func85 #[.pointer (some ⟨g, 0, none⟩), .int .i64 50] rfl ?_; (with_reducible refine (spec_l01Next.calls g s0_0 s0_1 s0_2 50 t107 t108 t109 w0 _ ?side1 ?side2 A4.out).mono ?_); (case side1 => exact i_ HI0); (case side2 => exact gb_ HB.out); rintro e w41 ⟨rfl, hi, hb, hk⟩; refine ⟨_, rfl, ?_⟩; replace HO1_0 := Aside0.mk (Kd.R_mono (Kd.R_keep (IsS91.apart (show IsS91 w0 _ g s0_0 s0_1 s0_2 from i_ HI0) (rb_ (Kd.R_mono (Kd.R_far (p := ⟨gb106, 0, none⟩) (Kd.R_types HO1_0.out BK106.out (by decide)) (fun _ hk => hk.2) (.slice Ao35 t103.length co35)) (fun _ h_ => h_.1))) (by decide)) hk (fun _ h => h.2)) (fun _ h => h.1)); replace BK101 := Aside0.mk (KeepBut.blk hk (g' := gb101) (o := .cells #[.slice Ao28 l1_0.length co28] 26 (0, 0)) (by (with_reducible repeat (first | refine blk_drewN ?_ _ | refine blk_drew ?_ | refine blk_alloc ?_ _)); refine blk_far ?_ NB101_106.out _; (with_reducible repeat (first | refine blk_drewN ?_ _ | refine blk_drew ?_ | refine blk_alloc ?_ _)); exact BK101.out) NB101_0.out (by simp)); replace BK102 := Aside0.mk (KeepBut.blk hk (g' := gb102) (o := .cells #[.slice none 0 0] 26 (0, 0)) (by (with_reducible repeat (first | refine blk_drewN ?_ _ | refine blk_drew ?_ | refine blk_alloc ?_ _)); refine blk_far ?_ NB102_106.out _; (with_reducible repeat (first | refine blk_drewN ?_ _ | refine blk_drew ?_ | refine blk_alloc ?_ _)); exact BK102.out) NB102_0.out (by simp)); replace HO105 := Aside0.mk (Kd.R_mono (Kd.R_keep (IsS91.apart (show IsS91 w0 _ g s0_0 s0_1 s0_2 from i_ HI0) (rb_ (Kd.R_mono (Kd.R_far (p := ⟨gb106, 0, none⟩) (Kd.R_types HO105.out BK106.out (by decide)) (fun _ hk => hk.2) (.slice Ao35 t103.length co35)) (fun _ h_ => h_.1))) (by decide)) hk (fun _ h => h.2)) (fun _ h => h.1)); replace BK106 := Aside0.mk (KeepBut.blk hk (g' := gb106) (o := .cells #[.slice Ao35 t103.length co35] 26 (0, 0)) (by (with_reducible repeat (first | refine blk_drewN ?_ _ | refine blk_drew ?_ | refine blk_alloc ?_ _)); refine blk_put (cs := #[.slice none 0 0]) ?_ 0 _ rfl; (with_reducible repeat (first | refine blk_drewN ?_ _ | refine blk_drew ?_ | refine blk_alloc ?_ _)); exact BK106.out) NB106_0.out (by simp)); replace HK := Aside0.mk (Kept.of_keep (S := (fun k_ => (P1_0_ k_) ∨ k_ = g)) (kt_ HK) hk (.inl (.inr rfl))); replace HB := Aside0.mk (hb); replace HI0 := Aside0.mk (hi); (try clear hb); (try clear hb2); (try clear hk); (try clear hi)))
 replace HO1_0 := Aside0.mk (Kd.R_drew HO1_0.out)
 replace HO105 := Aside0.mk (Kd.R_drew HO105.out)
 replace BK101 := Aside0.mk (blk_drew BK101.out)
 replace BK102 := Aside0.mk (blk_drew BK102.out)
 replace BK106 := Aside0.mk (blk_drew BK106.out)
 replace HI0 := Aside0.mk (IsS91.drew HI0.out)
 replace HK := Aside0.mk (Kept.drew HK.out)
 replace HB := Aside0.mk (below_drew1 HB.out)
 refine start_ (n := 12) (S := fun w' => w'.cell? ⟨gb106, 0, none⟩ = some (.slice Ao35 t103.length co35)) (ds := [11]) #[false, false, false, false, false, false, false, false, false, false, false, false] (by kernel_rfl) rfl rfl ((blk_cell BK106.out 0).trans rfl) (fun hHeld => ?_); refine with_tabW spec_l01Bad.tab6 spec_l01Bad.bits6 (fun HT_ HW_ => ?_)
 generalize w41.drew = w42 at HO1_0 HO105 BK101 BK102 BK106 HI0 HK HB hHeld ⊢
 refine pu_ (i := 0) (N := some 17) (v := ?_) (a' := ?_) #[true, false, false, false, false, false, false, false, false, false, false, false] rfl rfl HT_ (Or.inl ⟨by rfl, ?_⟩) ?_ ?_
 rotate_left
 ·exact t7_
 rotate_left
 ·exact t4_
 refine pu_ (i := 2) (N := some 19) (v := ?_) (a' := ?_) #[true, false, true, false, false, false, false, false, false, false, false, false] rfl rfl HT_ (Or.inl ⟨by rfl, ?_⟩) ?_ ?_
 rotate_left
 ·exact t7_
 rotate_left
 ·exact t4_
 refine pu_ (i := 3) (N := some 20) (v := ?_) (a' := ?_) #[true, false, true, true, false, false, false, false, false, false, false, false] rfl rfl HT_ (Or.inl ⟨by rfl, ?_⟩) ?_ ?_
 rotate_left
 ·exact t7_
 rotate_left
 ·exact t4_
 refine pu_ (i := 7) (N := some 24) (v := ?_) (a' := ?_) #[true, false, true, true, false, false, false, true, false, false, false, false] rfl rfl HT_ (Or.inl ⟨by rfl, ?_⟩) ?_ ?_
 rotate_left
 ·exact t7_
 rotate_left
 ·exact t4_
 refine tk_ (i := 1) (N := some 18) (v := ?_) (a' := ?_) #[true, true, true, true, false, false, false, true, false, false, false, false] rfl rfl HT_ HW_ (Or.inl ⟨by rfl, ?_⟩) hHeld ?_ ?_
 rotate_left
 ·intro w' s0
  go_simp
  with_reducible rfl
 rotate_left
 ·exact t4_
 refine tk_ (i := 4) (N := some 21) (v := ?_) (a' := ?_) #[true, true, true, true, true, false, false, true, false, false, false, false] rfl rfl HT_ HW_ (Or.inl ⟨by rfl, ?_⟩) hHeld ?_ ?_
 rotate_left
 ·intro w' s0
  go_simp
  with_reducible rfl
 rotate_left
 ·exact t4_
 refine pu_ (i := 5) (N := some 22) (v := ?_) (a' := ?_) #[true, true, true, true, true, true, false, true, false, false, false, false] rfl rfl HT_ (Or.inl ⟨by rfl, ?_⟩) ?_ ?_
 rotate_left
 ·exact t7_
 rotate_left
 ·exact t4_
 refine join_ (σ := Value) 3 #[true, true, true, true, true, true, true, true, true, false, false, false] (fun s_ => [(23, .int .i64 t110), (25, s_)]) (fun s_ w' => (w'.cell? ⟨gb106, 0, none⟩ = some (.slice Ao35 t103.length co35)) ∧ (Kd.R (Kd.int .i64) 2 w' w0.heap.size (fun k_ => (P1_0_ k_ ∨ w.heap.size ≤ k_) ∧ OB_ k_ s_ ∧ OB_ k_ (.slice Ao28 l1_0.length co28)) (.slice Ao35 t103.length co35) t103) ∧ (Kd.R (Kd.int .i64) 2 w' w0.heap.size (fun k_ => (P1_0_ k_ ∨ w.heap.size ≤ k_) ∧ OB_ k_ (.slice Ao35 t103.length co35) ∧ OB_ k_ (.slice Ao28 l1_0.length co28)) s_ y113) ∧ (Kd.R (Kd.int .i64) 2 w' w0.heap.size (fun k_ => (PX_ k_ ∨ w.heap.size ≤ k_) ∧ OB_ k_ (.slice Ao35 t103.length co35) ∧ OB_ k_ s_) (.slice Ao28 l1_0.length co28) l1_0) ∧ (w'.heap[gb101]? = some (.cells #[.slice Ao28 l1_0.length co28] 26 (0, 0))) ∧ (w'.heap[gb102]? = some (.cells #[.slice none 0 0] 26 (0, 0))) ∧ (w'.heap[gb106]? = some (.cells #[.slice Ao35 t103.length co35] 26 (0, 0))) ∧ (IsS91 w0 w' g s0_0 t111 t112) ∧ (Kept w w' (fun k_ => (P1_0_ k_) ∨ k_ = g)) ∧ (Below w0.heap.size w0 w')) ?_ ?_
 rotate_left
 ·intro hCont
  refine two_ (i := 6) (j := 8) (Ni := some 23) (Nj := some 25) #[true, true, true, true, true, true, true, true, false, false, false, false] #[true, true, true, true, true, true, false, true, true, false, false, false] rfl rfl rfl rfl (two_of HT_.out (by kernel_rfl)) (by decide) (by decide) (fun K hK => ?_) (fun K hK => ?_)
  ·skip
   refine goes_ Try.func85 (by kernel_rfl) rfl #[.pointer (some ⟨g, 0, none⟩), .int .i64 (t103.length : Int)] (by rfl) rfl rfl t1_ ?_
   with_reducible refine (spec_l01Next.calls g s0_0 t108 t109 (t103.length : Int) t110 t111 t112 w0 _ ?side1 ?side2 A23.out).mono ?_
   (case side1 => exact i_ HI0)
   (case side2 => exact gb_ HB.out)
   rintro e w43 ⟨rfl, hi, hb, hk⟩
   refine ⟨_, rfl, ?_⟩
   replace HO1_0 := kr_ HI0 HO1_0 hk
   replace BK101 := kx_ BK101 NB101_0 hk
   replace BK102 := kx_ BK102 NB102_0 hk
   replace HO105 := kr_ HI0 HO105 hk
   replace BK106 := kx_ BK106 NB106_0 hk
   replace HK := Aside0.mk (Kept.of_keep (S := (fun k_ => (P1_0_ k_) ∨ k_ = g)) (kt_ HK) hk (.inl (.inr rfl)))
   replace HB := Aside0.mk (hb)
   replace HI0 := Aside0.mk (hi)
   (try clear hb)
   (try clear hb2)
   (try clear hk)
   (try clear hi)
   refine hK.out _ _ ((blk_cell BK106.out 0).trans rfl) (fun hHeld => ?_)
   clear hK K
   refine norm_ (a' := ?_) ?_ ?_
   rotate_left
   ·show Act.put _ (some 23) _ = _
    simp only [Act.put, List.setIfInBounds_toArray, List.set_cons_zero, List.set_cons_succ, i64_w, i32_w]
    rfl
   refine on_ (i := 8) (N := some 25) #[true, true, true, true, true, true, true, true, true, false, false, false] rfl rfl HT_ (fun K hK => ?_)
   refine Kd.R_lit_step (Kd.int .i64) _ 2 ?hg (N := 25) ?hd (xs := ([1, 5, 0, (-1), 1099511627776] : List Int)) (inner := [.int .i64 1, .int .i64 5, .int .i64 0, .int .i64 (-1), .int .i64 1099511627776]) (ok := fun _ => True) (okp := fun _ => True) ?hr ?hp (fun _ hk => hk) trivial (Below.refl _ _) (Nat.le_refl _) (by simp) ?_; (case hd => rfl); (case hg => rfl); (case hr => exact t3_); (case hp => exact (Reps.one (show Kd.M (Kd.int .i64) _ _ _ 1 [.int .i64 1] from rfl) (Reps.one (show Kd.M (Kd.int .i64) _ _ _ 5 [.int .i64 5] from rfl) (Reps.one (show Kd.M (Kd.int .i64) _ _ _ 0 [.int .i64 0] from rfl) (Reps.one (show Kd.M (Kd.int .i64) _ _ _ (-1) [.int .i64 (-1)] from rfl) (Reps.one (show Kd.M (Kd.int .i64) _ _ _ 1099511627776 [.int .i64 1099511627776] from rfl) (Reps.none _ _)))))))
   intro v114 w44 ho45 hb hg_ hnew_
   clear hg_ hnew_
   (first | rw [← Ny113.out] at ho45 | (simp only [Int.reduceToNat] at ho45; rw [← Ny113.out] at ho45))
   have n0_ := a5_ HO1_0 ho45 hb
   have n1_ := a5_ HO105 ho45 hb
   have n2_ := Aside0.mk (Kd.R_lower (Kd.R_new' (Kd.R_new' (Kd.R_newM (M := fun k_ => (P1_0_ k_ ∨ w.heap.size ≤ k_)) ho45 (by first | exact HK.out.1 | exact (show Kept w _ (fun k_ => (P1_0_ k_) ∨ k_ = g) from kt_ HK).1) (fun k_ h_ => .inr h_)) (Kd.R_lt (rb_ HO1_0.out))) (Kd.R_lt (rb_ HO105.out))) (below_size (gb_ HB.out)))
   have n3_ := i1_ HI0 hb
   have n4_ := a2_ BK101 hb
   have n5_ := a2_ BK102 hb
   have n6_ := a2_ BK106 hb
   have n7_ := Aside0.mk (Kept.below (S := (fun k_ => (P1_0_ k_) ∨ k_ = g)) (kt_ HK) hb)
   have n8_ := b1_ HB hb
   clear HO1_0 HO105 HI0 BK101 BK102 BK106 HK HB
   have HO1_0 := n0_
   have HO105 := n1_
   have HO115 := n2_
   have HI0 := n3_
   have BK101 := n4_
   have BK102 := n5_
   have BK106 := n6_
   have HK := n7_
   have HB := n8_
   clear n0_ n1_ n2_ n3_ n4_ n5_ n6_ n7_ n8_ hb ho45
   refine hK.out _ _ ((blk_cell BK106.out 0).trans rfl) (fun hHeld => ?_)
   clear hK K
   refine norm_ (a' := ?_) ?_ ?_
   rotate_left
   ·show Act.put _ (some 25) _ = _
    simp only [Act.put, List.setIfInBounds_toArray, List.set_cons_zero, List.set_cons_succ, i64_w, i32_w]
    rfl
   exact norm_ (by simp only [putAll, Act.put, List.setIfInBounds_toArray, List.set_cons_zero, List.set_cons_succ]) (hCont (v114) _ ⟨hHeld, (rb_ (Kd.R_mono HO105.out (fun _ hk => ⟨hk.1.1.1, ⟨hk.2, hk.1.2⟩⟩))), (rb_ (Kd.R_mono HO115.out (fun _ hk => ⟨hk.1.1.1, ⟨hk.2, hk.1.2⟩⟩))), (rb_ (Kd.R_mono HO1_0.out (fun _ hk => ⟨hk.1.1, ⟨hk.1.2, hk.2⟩⟩))), (bb_ BK101.out), (bb_ BK102.out), (bb_ BK106.out), (i_ HI0), (kt_ HK), (gb_ HB.out)⟩)
  ·skip
   refine Kd.R_lit_step (Kd.int .i64) _ 2 ?hg (N := 25) ?hd (xs := ([1, 5, 0, (-1), 1099511627776] : List Int)) (inner := [.int .i64 1, .int .i64 5, .int .i64 0, .int .i64 (-1), .int .i64 1099511627776]) (ok := fun _ => True) (okp := fun _ => True) ?hr ?hp (fun _ hk => hk) trivial (Below.refl _ _) (Nat.le_refl _) (by simp) ?_; (case hd => rfl); (case hg => rfl); (case hr => exact t3_); (case hp => exact (Reps.one (show Kd.M (Kd.int .i64) _ _ _ 1 [.int .i64 1] from rfl) (Reps.one (show Kd.M (Kd.int .i64) _ _ _ 5 [.int .i64 5] from rfl) (Reps.one (show Kd.M (Kd.int .i64) _ _ _ 0 [.int .i64 0] from rfl) (Reps.one (show Kd.M (Kd.int .i64) _ _ _ (-1) [.int .i64 (-1)] from rfl) (Reps.one (show Kd.M (Kd.int .i64) _ _ _ 1099511627776 [.int .i64 1099511627776] from rfl) (Reps.none _ _)))))))
   intro v114 w43 ho44 hb hg_ hnew_
   clear hg_ hnew_
   (first | rw [← Ny113.out] at ho44 | (simp only [Int.reduceToNat] at ho44; rw [← Ny113.out] at ho44))
   have n0_ := a5_ HO1_0 ho44 hb
   have n1_ := a5_ HO105 ho44 hb
   have n2_ := Aside0.mk (Kd.R_lower (Kd.R_new' (Kd.R_new' (Kd.R_newM (M := fun k_ => (P1_0_ k_ ∨ w.heap.size ≤ k_)) ho44 (by first | exact HK.out.1 | exact (show Kept w _ (fun k_ => (P1_0_ k_) ∨ k_ = g) from kt_ HK).1) (fun k_ h_ => .inr h_)) (Kd.R_lt (rb_ HO1_0.out))) (Kd.R_lt (rb_ HO105.out))) (below_size (gb_ HB.out)))
   have n3_ := i1_ HI0 hb
   have n4_ := a2_ BK101 hb
   have n5_ := a2_ BK102 hb
   have n6_ := a2_ BK106 hb
   have n7_ := Aside0.mk (Kept.below (S := (fun k_ => (P1_0_ k_) ∨ k_ = g)) (kt_ HK) hb)
   have n8_ := b1_ HB hb
   clear HO1_0 HO105 HI0 BK101 BK102 BK106 HK HB
   have HO1_0 := n0_
   have HO105 := n1_
   have HO115 := n2_
   have HI0 := n3_
   have BK101 := n4_
   have BK102 := n5_
   have BK106 := n6_
   have HK := n7_
   have HB := n8_
   clear n0_ n1_ n2_ n3_ n4_ n5_ n6_ n7_ n8_ hb ho44
   refine hK.out _ _ ((blk_cell BK106.out 0).trans rfl) (fun hHeld => ?_)
   clear hK K
   refine norm_ (a' := ?_) ?_ ?_
   rotate_left
   ·show Act.put _ (some 25) _ = _
    simp only [Act.put, List.setIfInBounds_toArray, List.set_cons_zero, List.set_cons_succ, i64_w, i32_w]
    rfl
   refine on_ (i := 6) (N := some 23) #[true, true, true, true, true, true, true, true, true, false, false, false] rfl rfl HT_ (fun K hK => ?_)
   refine goes_ Try.func85 (by kernel_rfl) rfl #[.pointer (some ⟨g, 0, none⟩), .int .i64 (t103.length : Int)] (by rfl) rfl rfl t1_ ?_
   with_reducible refine (spec_l01Next.calls g s0_0 t108 t109 (t103.length : Int) t110 t111 t112 w0 _ ?side1 ?side2 A23.out).mono ?_
   (case side1 => exact i_ HI0)
   (case side2 => exact gb_ HB.out)
   rintro e w45 ⟨rfl, hi, hb, hk⟩
   refine ⟨_, rfl, ?_⟩
   replace HO1_0 := kr_ HI0 HO1_0 hk
   replace BK101 := kx_ BK101 NB101_0 hk
   replace BK102 := kx_ BK102 NB102_0 hk
   replace HO105 := kr_ HI0 HO105 hk
   replace BK106 := kx_ BK106 NB106_0 hk
   replace HO115 := kr_ HI0 HO115 hk
   replace HK := Aside0.mk (Kept.of_keep (S := (fun k_ => (P1_0_ k_) ∨ k_ = g)) (kt_ HK) hk (.inl (.inr rfl)))
   replace HB := Aside0.mk (hb)
   replace HI0 := Aside0.mk (hi)
   (try clear hb)
   (try clear hb2)
   (try clear hk)
   (try clear hi)
   refine hK.out _ _ ((blk_cell BK106.out 0).trans rfl) (fun hHeld => ?_)
   clear hK K
   refine norm_ (a' := ?_) ?_ ?_
   rotate_left
   ·show Act.put _ (some 23) _ = _
    simp only [Act.put, List.setIfInBounds_toArray, List.set_cons_zero, List.set_cons_succ, i64_w, i32_w]
    rfl
   exact norm_ (by simp only [putAll, Act.put, List.setIfInBounds_toArray, List.set_cons_zero, List.set_cons_succ]) (hCont (v114) _ ⟨hHeld, (rb_ (Kd.R_mono HO105.out (fun _ hk => ⟨hk.1.1.1, ⟨hk.2, hk.1.2⟩⟩))), (rb_ (Kd.R_mono HO115.out (fun _ hk => ⟨hk.1.1.1, ⟨hk.2, hk.1.2⟩⟩))), (rb_ (Kd.R_mono HO1_0.out (fun _ hk => ⟨hk.1.1, ⟨hk.1.2, hk.2⟩⟩))), (bb_ BK101.out), (bb_ BK102.out), (bb_ BK106.out), (i_ HI0), (kt_ HK), (gb_ HB.out)⟩)
 rintro v114 w46 ⟨hS_, h0_, h1_, h2_, h3_, h4_, h5_, h6_, h7_, h8_⟩
 have n0_ : Aside0 (Kd.R (Kd.int .i64) 2 w46 w0.heap.size (fun k_ => (P1_0_ k_ ∨ w.heap.size ≤ k_) ∧ OB_ k_ v114 ∧ OB_ k_ (.slice Ao28 l1_0.length co28)) (.slice Ao35 t103.length co35) t103) := ⟨h0_⟩
 have n1_ : Aside0 (Kd.R (Kd.int .i64) 2 w46 w0.heap.size (fun k_ => (P1_0_ k_ ∨ w.heap.size ≤ k_) ∧ OB_ k_ (.slice Ao35 t103.length co35) ∧ OB_ k_ (.slice Ao28 l1_0.length co28)) v114 y113) := ⟨h1_⟩
 have n2_ : Aside0 (Kd.R (Kd.int .i64) 2 w46 w0.heap.size (fun k_ => (PX_ k_ ∨ w.heap.size ≤ k_) ∧ OB_ k_ (.slice Ao35 t103.length co35) ∧ OB_ k_ v114) (.slice Ao28 l1_0.length co28) l1_0) := ⟨h2_⟩
 have n3_ : Aside0 (w46.heap[gb101]? = some (.cells #[.slice Ao28 l1_0.length co28] 26 (0, 0))) := ⟨h3_⟩
 have n4_ : Aside0 (w46.heap[gb102]? = some (.cells #[.slice none 0 0] 26 (0, 0))) := ⟨h4_⟩
 have n5_ : Aside0 (w46.heap[gb106]? = some (.cells #[.slice Ao35 t103.length co35] 26 (0, 0))) := ⟨h5_⟩
 have n6_ : Aside0 (IsS91 w0 w46 g s0_0 t111 t112) := ⟨h6_⟩
 have n7_ : Aside0 (Kept w w46 (fun k_ => (P1_0_ k_) ∨ k_ = g)) := ⟨h7_⟩
 have n8_ : Aside0 (Below w0.heap.size w0 w46) := ⟨h8_⟩
 clear HO1_0 HO105 BK101 BK102 BK106 HI0 HK HB h0_ h1_ h2_ h3_ h4_ h5_ h6_ h7_ h8_
 have HO105 := n0_
 have HO115 := n1_
 have HO1_0 := n2_
 have BK101 := n3_
 have BK102 := n4_
 have BK106 := n5_
 have HI0 := n6_
 have HK := n7_
 have HB := n8_
 clear n0_ n1_ n2_ n3_ n4_ n5_ n6_ n7_ n8_
 have hHeld : w46.cell? ⟨gb106, 0, none⟩ = some (.slice Ao35 t103.length co35) := hS_
 obtain ⟨Ao47, co47, eo47⟩ := Kd.R_slice HO115.out
 (first | subst eo47 | (injection eo47 with f1_ f2_ f3_; have f4_ := f1_.symm; have f5_ := f3_.symm; clear f1_ f2_ f3_; subst f4_; subst f5_))
 refine norm_ (a' := ?_) ?_ ?_
 rotate_left
 ·simp only [putAll, Act.put, List.setIfInBounds_toArray, List.set_cons_zero, List.set_cons_succ]
  rfl
 refine on_ (i := 9) (N := some 26) #[true, true, true, true, true, true, true, true, true, true, false, false] rfl rfl HT_ (fun K hK => ?_)
 refine goes_ Try.func82 (by kernel_rfl) rfl #[.pointer (some ⟨g, 0, none⟩), .slice Ao47 y113.length co47] (by rfl) rfl rfl t1_ ?_
 with_reducible refine (spec_l01Pick.calls g s0_0 t111 t112 _ _ y113 t116 t117 t118 w0 _ ?side1 ?side2 ?side3 ?side4 ?side5 A24.out).mono ?_
 (case side1 => exact i_ HI0)
 (case side2 => exact gb_ HB.out)
 (case side3 => exact c1_ HO115)
 (case side4 => exact (Kd.R_reads' HO115.out).2.1)
 (case side5 => exact far_slice (IsS91.own_ne HI0.out HO115.out (by decide)))
 rintro e w48 ⟨rfl, hi, hb, hk⟩
 refine ⟨_, rfl, ?_⟩
 replace HO1_0 := kr_ HI0 HO1_0 hk
 replace BK101 := kx_ BK101 NB101_0 hk
 replace BK102 := kx_ BK102 NB102_0 hk
 replace HO105 := kr_ HI0 HO105 hk
 replace BK106 := kx_ BK106 NB106_0 hk
 replace HO115 := kr_ HI0 HO115 hk
 replace HK := Aside0.mk (Kept.of_keep (S := (fun k_ => (P1_0_ k_) ∨ k_ = g)) (kt_ HK) hk (.inl (.inr rfl)))
 replace HB := Aside0.mk (hb)
 replace HI0 := Aside0.mk (hi)
 (try clear hb)
 (try clear hb2)
 (try clear hk)
 (try clear hi)
 have p27 : 0 ≤ (t110 : Int) := of_decide_eq_true t6_
 have q27 : (t110 : Int) < ((t103.length : Int) : Int) := of_decide_eq_true t6_
 obtain ⟨go27, co27, eo27, gb27, gl27, cl27, HG27⟩ := Kd.R_form HO105.out (by omega)
 (first | cases eo27 | (injection eo27 with ea_ en_ ec_; (first | subst ea_ | (injection ea_ with ea_; subst ea_)); subst ec_; clear en_))
 have GB27 := Aside0.mk gb27
 have GG27 := Aside0.mk HG27
 clear gb27 gl27 HG27
 have HMgo27 := Aside0.mk (show (P1_0_ go27 ∨ w.heap.size ≤ go27) from (HO105.out.1 _ rfl).1)
 obtain ⟨hx27_0, hf27_0⟩ := Kd.R_celln 0 HO105.out (t110 : Int) p27 q27
 replace p27 := eq_true p27
 replace q27 := eq_true q27
 have HN0_go27 := Aside0.mk (show g ≠ go27 from by have h_ := IsS91.own_ne HI0.out HO105.out (by decide); intro e_; exact h_ (by rw [e_]; rfl))
 have HP49 := Kd.R_putn HO105.out (t110 : Int) t116
 rw [← Ny119.out] at HP49
 have HQ49 := Aside0.mk HP49
 clear HP49
 refine hK.out _ _ ((blk_cell BK106.out 0).trans rfl) (fun hHeld => ?_)
 clear hK K
 refine norm_ (a' := ?_) ?_ ?_
 rotate_left
 ·show Act.put _ (some 26) _ = _
  simp only [Act.put, List.setIfInBounds_toArray, List.set_cons_zero, List.set_cons_succ, i64_w, i32_w]
  rfl
 refine pu_ (i := 10) (N := some 27) (v := ?_) (a' := ?_) #[true, true, true, true, true, true, true, true, true, true, true, false] rfl rfl HT_ (Or.inl ⟨by rfl, ?_⟩) ?_ ?_
 rotate_left
 ·exact t7_
 rotate_left
 ·exact t4_
 refine last_ (i := 11) (N := none) #[true, true, true, true, true, true, true, true, true, true, true, true] rfl rfl (one_of HT_.out (by kernel_rfl)) (by decide) (fun K hK => ?_)
 refine skip_ (w1 := ?_) (by rfl) rfl ?_ ?_
 rotate_left
 ·go_simp
  rfl
 refine hK.out _ _ ?_
 clear hK K
 refine done_ (done_of HT_.out (by kernel_rfl)) ?_
 have n0_ : Aside0 (Kd.R (Kd.int .i64) 2 (w48.setCell ⟨go27, (t110 : Int).toNat, none⟩ (.int .i64 t116)) w0.heap.size (fun k_ => (PX_ k_ ∨ w.heap.size ≤ k_) ∧ OB_ k_ (.slice (some ⟨go27, 0, none⟩) t103.length co35) ∧ OB_ k_ (.slice Ao47 y113.length co47)) (.slice Ao28 l1_0.length co28) l1_0) := ⟨by (with_reducible repeat (first | apply Kd.R_alloc | apply Kd.R_drewN | apply Kd.R_drew)); exact Kd.R_mono (Kd.R_far (p := ⟨go27, (t110 : Int).toNat, none⟩) (Kd.R_mono HO1_0.out (fun k_ hk => (⟨hk, fun e_ => hk.2.1 (by rw [e_]; rfl)⟩ : _ ∧ k_ ≠ go27))) (fun _ hk => hk.2) (.int .i64 t116)) (fun _ hk => ⟨hk.1.1, ⟨hk.1.2.1, hk.1.2.2⟩⟩)⟩
 have n1_ : Aside0 (Kd.R (Kd.int .i64) 2 (w48.setCell ⟨go27, (t110 : Int).toNat, none⟩ (.int .i64 t116)) w0.heap.size (fun k_ => (P1_0_ k_ ∨ w.heap.size ≤ k_) ∧ OB_ k_ (.slice Ao28 l1_0.length co28) ∧ OB_ k_ (.slice Ao47 y113.length co47)) (.slice (some ⟨go27, 0, none⟩) t103.length co35) y119) := ⟨by (with_reducible repeat (first | apply Kd.R_alloc | apply Kd.R_drewN | apply Kd.R_drew)); exact Kd.R_mono HQ49.out (fun _ hk => ⟨hk.1, ⟨hk.2.2, hk.2.1⟩⟩)⟩
 have n2_ : Aside0 (Kd.R (Kd.int .i64) 2 (w48.setCell ⟨go27, (t110 : Int).toNat, none⟩ (.int .i64 t116)) w0.heap.size (fun k_ => (P1_0_ k_ ∨ w.heap.size ≤ k_) ∧ OB_ k_ (.slice Ao28 l1_0.length co28) ∧ OB_ k_ (.slice (some ⟨go27, 0, none⟩) t103.length co35)) (.slice Ao47 y113.length co47) y113) := ⟨by (with_reducible repeat (first | apply Kd.R_alloc | apply Kd.R_drewN | apply Kd.R_drew)); exact Kd.R_mono (Kd.R_far (p := ⟨go27, (t110 : Int).toNat, none⟩) (Kd.R_mono HO115.out (fun k_ hk => (⟨hk, fun e_ => hk.2.1 (by rw [e_]; rfl)⟩ : _ ∧ k_ ≠ go27))) (fun _ hk => hk.2) (.int .i64 t116)) (fun _ hk => ⟨hk.1.1, ⟨hk.1.2.2, hk.1.2.1⟩⟩)⟩
 have n3_ : Aside0 ((w48.setCell ⟨go27, (t110 : Int).toNat, none⟩ (.int .i64 t116)).heap[gb101]? = some (.cells #[.slice Ao28 l1_0.length co28] 26 (0, 0))) := ⟨by (with_reducible repeat (first | refine blk_drewN ?_ _ | refine blk_drew ?_ | refine blk_alloc ?_ _)); refine blk_far ?_ (by have h_ := Kd.R_ne HO105.out BK101.out (by decide); intro e_; exact h_ (by rw [e_]; rfl)) _; (with_reducible repeat (first | refine blk_drewN ?_ _ | refine blk_drew ?_ | refine blk_alloc ?_ _)); exact BK101.out⟩
 have n4_ : Aside0 ((w48.setCell ⟨go27, (t110 : Int).toNat, none⟩ (.int .i64 t116)).heap[gb102]? = some (.cells #[.slice none 0 0] 26 (0, 0))) := ⟨by (with_reducible repeat (first | refine blk_drewN ?_ _ | refine blk_drew ?_ | refine blk_alloc ?_ _)); refine blk_far ?_ (by have h_ := Kd.R_ne HO105.out BK102.out (by decide); intro e_; exact h_ (by rw [e_]; rfl)) _; (with_reducible repeat (first | refine blk_drewN ?_ _ | refine blk_drew ?_ | refine blk_alloc ?_ _)); exact BK102.out⟩
 have n5_ : Aside0 ((w48.setCell ⟨go27, (t110 : Int).toNat, none⟩ (.int .i64 t116)).heap[gb106]? = some (.cells #[.slice (some ⟨go27, 0, none⟩) t103.length co35] 26 (0, 0))) := ⟨by (with_reducible repeat (first | refine blk_drewN ?_ _ | refine blk_drew ?_ | refine blk_alloc ?_ _)); refine blk_far ?_ (by have h_ := Kd.R_ne HO105.out BK106.out (by decide); intro e_; exact h_ (by rw [e_]; rfl)) _; (with_reducible repeat (first | refine blk_drewN ?_ _ | refine blk_drew ?_ | refine blk_alloc ?_ _)); exact BK106.out⟩
 have n6_ : Aside0 (IsS91 w0 (w48.setCell ⟨go27, (t110 : Int).toNat, none⟩ (.int .i64 t116)) g s0_0 t117 t118) := ⟨i_ HI0⟩
 have n7_ : Aside0 (Kept w (w48.setCell ⟨go27, (t110 : Int).toNat, none⟩ (.int .i64 t116)) (fun k_ => (P1_0_ k_) ∨ k_ = g)) := ⟨by repeat (first | (with_reducible first | exact HK.out | apply Kept.alloc | apply Kept.drewN | apply Kept.drew | refine Kept.setCell ?_ (Or.imp_left Or.inl HMgo27.out) _ | refine Kept.setCell ?_ (.inl (.inr rfl)) _ | refine Kept.setCell ?_ (.inr GW101.out) _ | refine Kept.setCell ?_ (.inr GW102.out) _ | refine Kept.setCell ?_ (.inr GW106.out) _) | exact HK.out)⟩
 have n8_ : Aside0 (Below w0.heap.size w0 (w48.setCell ⟨go27, (t110 : Int).toNat, none⟩ (.int .i64 t116))) := ⟨gb_ HB.out⟩
 (try clear HO1_0)
 (try clear HO105)
 (try clear HO115)
 (try clear BK101)
 (try clear BK102)
 (try clear BK106)
 (try clear HI0)
 (try clear HK)
 (try clear HB)
 generalize (w48.setCell ⟨go27, (t110 : Int).toNat, none⟩ (.int .i64 t116)) = w50 at n0_ n1_ n2_ n3_ n4_ n5_ n6_ n7_ n8_ ⊢
 have HO1_0 := n0_
 have HO105 := n1_
 have HO115 := n2_
 have BK101 := n3_
 have BK102 := n4_
 have BK106 := n5_
 have HI0 := n6_
 have HK := n7_
 have HB := n8_
 clear n0_ n1_ n2_ n3_ n4_ n5_ n6_ n7_ n8_
 have hcz51_0 := hz_ BK106
 have hfz51_0 := blk_frozen BK106.out 0
 have hnb52 := NB102_0.out
 have hnc52 := NB0_102.out
 have hcz53_0 := hz_ BK102
 have hfz53_0 := blk_frozen BK102.out 0
 try go_wp2
 refine bodyPost_ret (results_cell_row rfl _ _ gb102 26 #[.slice (some ⟨go27, 0, none⟩) t103.length co35] (0, 0) _ rfl (by (with_reducible repeat (first | refine blk_drewN ?_ _ | refine blk_drew ?_ | refine blk_alloc ?_ _)); refine blk_put (cs := #[.slice none 0 0]) ?_ 0 _ rfl; (with_reducible repeat (first | refine blk_drewN ?_ _ | refine blk_drew ?_ | refine blk_alloc ?_ _)); exact BK102.out) Try.underlying26 rfl (by kernel_rfl)) rfl ?_
 exact ⟨_, t5_, by (with_reducible repeat (first | apply Kd.R_alloc | apply Kd.R_drewN | apply Kd.R_drew)); refine Kd.R_mono (show Kd.R (Kd.int .i64) 2 _ w0.heap.size (fun k_ => (P1_0_ k_ ∨ w.heap.size ≤ k_)) _ _ from ?_) (fun k_ h_ => Or.imp_left Or.inr h_); exact Kd.R_mono (Kd.R_far (p := ⟨gb102, 0, none⟩) (Kd.R_types HO105.out BK102.out (by decide)) (fun _ hk => hk.2) (.slice (some ⟨go27, 0, none⟩) t103.length co35)) (fun _ hk => hk.1.1), i_ HI0, gb_ HB.out, kt_ HK⟩
theorem spec_l01Bad.callsK (k : Nat) (g : Nat) (s0_0 : List Int) (s0_1 : Int) (s0_2 : Int) (P1_0_ : Nat → Prop) (u9000_ : Value) (l1_0 : List Int) (r1 : List Int) (r2 : Int) (r3 : Int) (w0 w : World) (hI : IsS91 w0 w g s0_0 s0_1 s0_2) (hB : Below w0.heap.size w0 w) (ho1_0 : Kd.R (Kd.int .i64) 2 w w0.heap.size P1_0_ u9000_ l1_0) (h : spec_l01Bad.f k s0_0 s0_1 s0_2 l1_0 = some (r1, r2, r3)) :
  Calls Try.prog 81 #[.pointer (some ⟨g, 0, none⟩), .agg #[u9000_]] w fun e w' => ∃ v0_ : Value, e = .returned (.agg #[v0_]) ∧ Kd.R (Kd.int .i64) 2 w' w0.heap.size (fun k_ => (P1_0_ k_ ∨ w.heap.size ≤ k_)) v0_ r1 ∧ IsS91 w0 w' g s0_0 r2 r3 ∧ Below w0.heap.size w0 w' ∧ Kept w w' (fun k_ => (P1_0_ k_) ∨ k_ = g) ∧ Kept w w' (fun k_ => k_ = g) := by
 refine (spec_l01Bad.callsS k g s0_0 s0_1 s0_2 P1_0_ (fun _ => False) u9000_ l1_0 r1 r2 r3 w0 w hI hB ho1_0 h).mono ?_
 rintro e w' ⟨v0_, he, ho, hi, hb, hk⟩
 exact ⟨v0_, he, Kd.R_mono ho (fun k_ h_ => Or.imp_left (fun h2 => Or.elim h2 id False.elim) h_), hi, hb, ⟨hk.1, fun k_ h1 h2 => hk.2 k_ h1 (fun h3 => h2 (Or.elim h3 False.elim .inr))⟩, ⟨hk.1, fun k_ h1 h2 => hk.2 k_ h1 (fun h3 => h2 (Or.elim h3 False.elim id))⟩⟩
def spec_l01BadCode.f (k : Nat) (s0_0 : List Int) (s0_1 : Int) (s0_2 : Int) (l1_0 : List Int) (l2 : List Int) : Option (List Int × Int × Int) := (spec_l01Own.f l2).bind fun t102 => ((spec_l01Next.f s0_0 s0_1 s0_2 30).bind fun bt105 => (if bt105.1 = 0 then ((spec_l01N.f k l1_0).bind fun t108 => ((spec_l01Pick.f s0_0 bt105.2.1 bt105.2.2 (([(-1), t108, 0, 1099511627776] : List Int))).bind fun bt112 => (if t102.length < 17592186044416 then (some ((t102 ++ [bt112.1]), bt112.2.1, bt112.2.2)) else (none)))) else (if bt105.1 = 1 then (if (t102.length : Int) > 1 then (if 1 < (t102.length : Int) then (if 0 < (t102.length : Int) then (some ((t102.set (0 : Int).toNat (rd t102 1)), bt105.2.1, bt105.2.2)) else (none)) else (none)) else (some (t102, bt105.2.1, bt105.2.2))) else (some (t102, bt105.2.1, bt105.2.2)))))
set_option maxHeartbeats 8000000 in
set_option maxRecDepth 100000 in
theorem spec_l01BadCode.calls (k : Nat) (g : Nat) (s0_0 : List Int) (s0_1 : Int) (s0_2 : Int) (A1_0 : Option Addr) (c1_0 : Nat) (l1_0 : List Int) (A2 : Option Addr) (c2 : Nat) (l2 : List Int) (r1 : List Int) (r2 : Int) (r3 : Int) (w0 w : World) (hI : IsS91 w0 w g s0_0 s0_1 s0_2) (hB : Below w0.heap.size w0 w) (hr1_0 : Kd.C (Kd.int .i64) w A1_0 l1_0.length l1_0) (hc1_0 : l1_0.length ≤ c1_0) (hf1_0 : ∀ ad, A1_0 = some ad → 0 < l1_0.length → ad.block ≠ g) (hr2 : Kd.C (Kd.int .i64) w A2 l2.length l2) (hc2 : l2.length ≤ c2) (hf2 : ∀ ad, A2 = some ad → 0 < l2.length → ad.block ≠ g) (h : spec_l01BadCode.f k s0_0 s0_1 s0_2 l1_0 l2 = some (r1, r2, r3)) :
  Calls Try.prog 123 #[.pointer (some ⟨g, 0, none⟩), .agg #[.slice A1_0 l1_0.length c1_0], .slice A2 l2.length c2] w fun e w' => ∃ v0_ : Value, e = .returned (v0_) ∧ Kd.R (Kd.int .i64) 2 w' w.heap.size (fun _ => True) v0_ r1 ∧ IsS91 w0 w' g s0_0 r2 r3 ∧ Below w0.heap.size w0 w' ∧ KeepBut w w' g none := by
 have hu26 := Try.underlying26
 have HR1_0 := Aside0.mk hr1_0
 have HC1_0 := Aside0.mk hc1_0
 clear hr1_0 hc1_0
 have HR2 := Aside0.mk hr2
 have HC2 := Aside0.mk hc2
 clear hr2 hc2
 have HI0 := Aside0.mk hI
 have HK := Aside0.mk (KeepBut.refl w g none)
 have HL := Aside0.mk hB.size
 clear hI
 have HW0 := Aside0.mk hB.size
 have HB := Aside0.mk hB
 clear hB
 have H : ((spec_l01Own.f l2).bind fun t102 => ((spec_l01Next.f s0_0 s0_1 s0_2 30).bind fun bt105 => (if bt105.1 = 0 then ((spec_l01N.f k l1_0).bind fun t108 => ((spec_l01Pick.f s0_0 bt105.2.1 bt105.2.2 (([(-1), t108, 0, 1099511627776] : List Int))).bind fun bt112 => (if t102.length < 17592186044416 then (some ((t102 ++ [bt112.1]), bt112.2.1, bt112.2.2)) else (none)))) else (if bt105.1 = 1 then (if (t102.length : Int) > 1 then (if 1 < (t102.length : Int) then (if 0 < (t102.length : Int) then (some ((t102.set (0 : Int).toNat (rd t102 1)), bt105.2.1, bt105.2.2)) else (none)) else (none)) else (some (t102, bt105.2.1, bt105.2.2))) else (some (t102, bt105.2.1, bt105.2.2)))))) = some (r1, r2, r3) := h
 clear h
 replace H := Option.bind_eq_some_iff.mp H
 obtain ⟨t102, A40, H⟩ := H
 replace H : ((spec_l01Next.f s0_0 s0_1 s0_2 30).bind fun bt105 => (if bt105.1 = 0 then ((spec_l01N.f k l1_0).bind fun t108 => ((spec_l01Pick.f s0_0 bt105.2.1 bt105.2.2 (([(-1), t108, 0, 1099511627776] : List Int))).bind fun bt112 => (if t102.length < 17592186044416 then (some ((t102 ++ [bt112.1]), bt112.2.1, bt112.2.2)) else (none)))) else (if bt105.1 = 1 then (if (t102.length : Int) > 1 then (if 1 < (t102.length : Int) then (if 0 < (t102.length : Int) then (some ((t102.set (0 : Int).toNat (rd t102 1)), bt105.2.1, bt105.2.2)) else (none)) else (none)) else (some (t102, bt105.2.1, bt105.2.2))) else (some (t102, bt105.2.1, bt105.2.2))))) = some (r1, r2, r3) := H
 have A4 := Aside0.mk A40
 clear A40
 replace H := Option.bind_eq_some_iff.mp H
 obtain ⟨⟨t105, t106, t107⟩, A50, H⟩ := H
 replace H : (if t105 = 0 then ((spec_l01N.f k l1_0).bind fun t108 => ((spec_l01Pick.f s0_0 t106 t107 (([(-1), t108, 0, 1099511627776] : List Int))).bind fun bt112 => (if t102.length < 17592186044416 then (some ((t102 ++ [bt112.1]), bt112.2.1, bt112.2.2)) else (none)))) else (if t105 = 1 then (if (t102.length : Int) > 1 then (if 1 < (t102.length : Int) then (if 0 < (t102.length : Int) then (some ((t102.set (0 : Int).toNat (rd t102 1)), t106, t107)) else (none)) else (none)) else (some (t102, t106, t107))) else (some (t102, t106, t107)))) = some (r1, r2, r3) := H
 have A5 := Aside0.mk A50
 clear A50
 by_cases c6 : t105 = 0
 ·rw [if_pos c6] at H
  have c6b0 : (t105 == 0) = true := beq_iff_eq.mpr c6
  have c6b1 : (t105 != 0) = false := bne_eq_false_iff_eq.mpr c6
  clear c6
  replace H := Option.bind_eq_some_iff.mp H
  obtain ⟨t108, A70, H⟩ := H
  replace H : ((spec_l01Pick.f s0_0 t106 t107 (([(-1), t108, 0, 1099511627776] : List Int))).bind fun bt112 => (if t102.length < 17592186044416 then (some ((t102 ++ [bt112.1]), bt112.2.1, bt112.2.2)) else (none))) = some (r1, r2, r3) := H
  have A7 := Aside0.mk A70
  clear A70
  obtain ⟨y109, hy109⟩ : ∃ y_ : List Int, y_ = (([(-1), t108, 0, 1099511627776] : List Int)) := ⟨_, rfl⟩
  replace H : ((spec_l01Pick.f s0_0 t106 t107 y109).bind fun bt112 => (if t102.length < 17592186044416 then (some ((t102 ++ [bt112.1]), bt112.2.1, bt112.2.2)) else (none))) = some (r1, r2, r3) := y_ H
  have Ny109 := Aside0.mk hy109
  clear hy109
  replace H := Option.bind_eq_some_iff.mp H
  obtain ⟨⟨t112, t113, t114⟩, A80, H⟩ := H
  replace H : (if t102.length < 17592186044416 then (some ((t102 ++ [t112]), t113, t114)) else (none)) = some (r1, r2, r3) := H
  have A8 := Aside0.mk A80
  clear A80
  by_cases c9 : t102.length < 17592186044416
  rotate_left
  ·rw [if_neg c9] at H
   exact absurd H (by simp)
  rw [if_pos c9] at H
  have LMc9 := Aside0.mk c9
  clear c9
  obtain ⟨y115, hy115⟩ : ∃ y_ : List Int, y_ = (t102 ++ [t112]) := ⟨_, rfl⟩
  replace H : (some (y115, t113, t114)) = some (r1, r2, r3) := y_ H
  have Ny115 := Aside0.mk hy115
  clear hy115
  simp only [Option.some.injEq, Prod.mk.injEq] at H
  obtain ⟨rfl, rfl, rfl⟩ := H
  go_enter Try.func123, Try.ntmps123
  go_wp2_with (first | ((with_reducible refine gate_dst (N := 4) rfl ?_); refine bx_ (N := 4) (cs := #[.slice A1_0 l1_0.length c1_0]) (t := 26) rfl rfl ?_; intro gb101 hg w10 hbox hb; have n0_ := i1_ HI0 hb; have n1_ := k1_ HK hb; have n2_ := b1_ HB hb; have n3_ := Aside0.mk (hbox); have n4_ := gk_ hg HK; have n5_ := Aside0.mk ((Nat.le_trans HW0.out (by rw [hg]; exact (keep_size (w := w) (g := g) (row := none) (kb_ HK)) : w.heap.size ≤ gb101) : w0.heap.size ≤ gb101)); have n6_ := il_ hg HI0; have n7_ := ir_ hg HI0; clear HI0 HK HB; have HI0 := n0_; have HK := n1_; have HB := n2_; have BK101 := n3_; have GW101 := n4_; have GE101 := n5_; have NB0_101 := n6_; have NB101_0 := n7_; clear n0_ n1_ n2_ n3_ n4_ n5_ n6_ n7_ hb hbox hg) | ((with_reducible refine gate_callee (f := 115) rfl ?_); refine gl_ (some 9) rfl rfl Try.func115 #[.slice A2 l2.length c2] rfl ?_; (with_reducible refine (spec_l01Own.calls _ _ l2 t102 _ ?side1 ?side2 A4.out).mono ?_); (case side1 => exact Kd.C_keep 0 HR2.out (kb_ HK) hf2); (case side2 => exact HC2.out); rintro e w11 ⟨v103, rfl, ho0, hb⟩; refine ⟨_, rfl, ?_⟩; have HO104 := Aside0.mk (Kd.R_lower ho0 (keep_size (w := w) (g := g) (row := none) (kb_ HK))); replace HI0 := i1_ HI0 hb; replace BK101 := a2_ BK101 hb; replace HK := k1_ HK hb; replace HB := b1_ HB hb; (try clear hb); (try clear hb2); (try clear hk); (try clear hi); (try clear ho0)) | ((with_reducible refine gate_callee (f := 85) rfl ?_); refine gl_ (some 11) rfl rfl Try.func85 #[.pointer (some ⟨g, 0, none⟩), .int .i64 30] rfl ?_; (with_reducible refine (spec_l01Next.calls g s0_0 s0_1 s0_2 30 t105 t106 t107 w0 _ ?side1 ?side2 A5.out).mono ?_); (case side1 => exact i_ HI0); (case side2 => exact gb_ HB.out); rintro e w12 ⟨rfl, hi, hb, hk⟩; refine ⟨_, rfl, ?_⟩; replace BK101 := kx_ BK101 NB101_0 hk; replace HO104 := kr_ HI0 HO104 hk; replace HK := Aside0.mk (KeepBut.trans (kb_ HK) hk (.inl rfl)); replace HB := Aside0.mk (hb); replace HI0 := Aside0.mk (hi); (try clear hb); (try clear hb2); (try clear hk); (try clear hi); have hnb13 := NB101_0.out; have hnc13 := NB0_101.out; have hcz14_0 := hz_ BK101; have hfz14_0 := blk_frozen BK101.out 0) | ((with_reducible refine gate_callee (f := 76) rfl ?_); refine gl_ (some 17) rfl rfl Try.func76 #[.agg #[.slice A1_0 l1_0.length c1_0]] rfl ?_; (with_reducible refine (spec_l01N.calls k _ _ l1_0 t108 _ ?side1 ?side2 A7.out).mono ?_); (case side1 => exact Kd.C_keep 0 HR1_0.out (kb_ HK) hf1_0); (case side2 => exact HC1_0.out); rintro e w15 ⟨rfl, hb⟩; refine ⟨_, rfl, ?_⟩; replace HO104 := a1_ HO104 hb; replace HI0 := i1_ HI0 hb; replace BK101 := a2_ BK101 hb; replace HK := k1_ HK hb; replace HB := b1_ HB hb; (try clear hb); (try clear hb2); (try clear hk); (try clear hi)) | ((with_reducible refine gate_dst (N := 18) rfl ?_); refine Kd.R_lit (Kd.int .i64) _ 2 ?hg (N := 18) ?hd (xs := ([(-1), t108, 0, 1099511627776] : List Int)) (inner := [.int .i64 (-1), .int .i64 t108, .int .i64 0, .int .i64 1099511627776]) (ok := fun _ => True) (okp := fun _ => True) ?hr ?hp (fun _ hk => hk) trivial (Below.refl _ _) (Nat.le_refl _) (by simp) ?_; (case hd => rfl); (case hg => rfl); (case hr => exact t3_); (case hp => exact (Reps.one (show Kd.M (Kd.int .i64) _ _ _ (-1) [.int .i64 (-1)] from rfl) (Reps.one (show Kd.M (Kd.int .i64) _ _ _ t108 [.int .i64 t108] from rfl) (Reps.one (show Kd.M (Kd.int .i64) _ _ _ 0 [.int .i64 0] from rfl) (Reps.one (show Kd.M (Kd.int .i64) _ _ _ 1099511627776 [.int .i64 1099511627776] from rfl) (Reps.none _ _)))))); intro v110 w16 ho17 hb hg_ hnew_; clear hg_ hnew_; (first | rw [← Ny109.out] at ho17 | (simp only [Int.reduceToNat] at ho17; rw [← Ny109.out] at ho17)); have n0_ := a5_ HO104 ho17 hb; have n1_ := Aside0.mk (Kd.R_lower (Kd.R_new' ho17 (Kd.R_lt (rb_ HO104.out))) (keep_size (w := w) (g := g) (row := none) (kb_ HK))); have n2_ := i1_ HI0 hb; have n3_ := a2_ BK101 hb; have n4_ := k1_ HK hb; have n5_ := b1_ HB hb; clear HO104 HI0 BK101 HK HB; have HO104 := n0_; have HO111 := n1_; have HI0 := n2_; have BK101 := n3_; have HK := n4_; have HB := n5_; clear n0_ n1_ n2_ n3_ n4_ n5_ hb ho17; obtain ⟨Ao18, co18, eo18⟩ := Kd.R_slice HO111.out; subst eo18) | ((with_reducible refine gate_callee (f := 82) rfl ?_); refine gl_ (some 19) rfl rfl Try.func82 #[.pointer (some ⟨g, 0, none⟩), .slice Ao18 y109.length co18] rfl ?_; (with_reducible refine (spec_l01Pick.calls g s0_0 t106 t107 _ _ y109 t112 t113 t114 w0 _ ?side1 ?side2 ?side3 ?side4 ?side5 A8.out).mono ?_); (case side1 => exact i_ HI0); (case side2 => exact gb_ HB.out); (case side3 => exact c1_ HO111); (case side4 => exact (Kd.R_reads' HO111.out).2.1); (case side5 => exact far_slice (IsS91.own_ne HI0.out HO111.out (by decide))); rintro e w19 ⟨rfl, hi, hb, hk⟩; refine ⟨_, rfl, ?_⟩; replace BK101 := kx_ BK101 NB101_0 hk; replace HO104 := kr_ HI0 HO104 hk; replace HO111 := kr_ HI0 HO111 hk; replace HK := Aside0.mk (KeepBut.trans (kb_ HK) hk (.inl rfl)); replace HB := Aside0.mk (hb); replace HI0 := Aside0.mk (hi); (try clear hb); (try clear hb2); (try clear hk); (try clear hi)) | ((with_reducible refine gate_builtin (b := .append) (xs := #[.tmp 14, .tmp 20]) rfl ?_); at_builtin; refine Kd.R_append (Kd.int .i64) w.heap.size rfl (.tmp 14) (.tmp 20) 24 2 (.int .i64 0) 8 rfl Try.underlying24 info2 rfl (by decide) (by omega) v103 t102 t112 [.int .i64 t112] (fun k_ => OB_ k_ (.slice Ao18 y109.length co18)) (fun _ => False) rfl rfl ?aP (fun _ hk => hk.elim) ?aF ?aO (Below.refl _ _) ?aS ?aL ?_; (case aP => exact rfl); (case aF => exact (fun k_ hk => Kd.fresh' (Kd.R_lt (rb_ HO111.out)) k_ hk)); (case aO => exact (rb_ (Kd.R_mono HO104.out (fun _ hk => hk.2)))); (case aS => exact (keep_size (w := w) (g := g) (row := none) (kb_ HK))); (case aL => have := LMc9.out; omega); intro v116 w20 ho hb hg hat; rw [← Ny115.out] at ho; have n0_ := Aside0.mk (IsS91.grown (i_ HI0) hg (IsS91.own_ne HI0.out HO104.out (by decide))); have n1_ := Aside0.mk (blk_grown (g := gb101) (o := .cells #[.slice A1_0 l1_0.length c1_0] 26 (0, 0)) (bb_ BK101.out) hg (Kd.R_ne HO104.out BK101.out (by decide))); have n2_ := Aside0.mk (Kd.R_after (ok := (fun _ => True)) (rb_ HO111.out) hg hat); have n3_ := Aside0.mk (below_weaken (gb_ HB.out) HL.out hb); have n4_ := Aside0.mk (KeepBut.trans (kb_ HK) (KeepBut.of_grown hg g) (Kd.R_base2 HO104.out)); have n5_ := Aside0.mk (ho); clear HI0 BK101 HO111 HB HK HO104; have HI0 := n0_; have BK101 := n1_; have HO111 := n2_; have HB := n3_; have HK := n4_; have HO117 := n5_; clear n0_ n1_ n2_ n3_ n4_ n5_ ho hb hg hat))
  go_ret
  exact ⟨_, t5_, by (with_reducible repeat (first | apply Kd.R_alloc | apply Kd.R_drewN | apply Kd.R_drew)); exact Kd.R_mono HO117.out (fun _ hk => trivial), i_ HI0, gb_ HB.out, kb_ HK⟩
 rw [if_neg c6] at H
 have c6b0 : (t105 == 0) = false := beq_eq_false_iff_ne.mpr c6
 have c6b1 : (t105 != 0) = true := bne_iff_ne.mpr c6
 by_cases c21 : t105 = 1
 rotate_left
 ·rw [if_neg c21] at H
  have c21b0 : (t105 == 1) = false := beq_eq_false_iff_ne.mpr c21
  have c21b1 : (t105 != 1) = true := bne_iff_ne.mpr c21
  simp only [Option.some.injEq, Prod.mk.injEq] at H
  obtain ⟨rfl, rfl, rfl⟩ := H
  go_enter Try.func123, Try.ntmps123
  go_wp2_with (first | ((with_reducible refine gate_dst (N := 4) rfl ?_); refine bx_ (N := 4) (cs := #[.slice A1_0 l1_0.length c1_0]) (t := 26) rfl rfl ?_; intro gb101 hg w36 hbox hb; have n0_ := i1_ HI0 hb; have n1_ := k1_ HK hb; have n2_ := b1_ HB hb; have n3_ := Aside0.mk (hbox); have n4_ := gk_ hg HK; have n5_ := Aside0.mk ((Nat.le_trans HW0.out (by rw [hg]; exact (keep_size (w := w) (g := g) (row := none) (kb_ HK)) : w.heap.size ≤ gb101) : w0.heap.size ≤ gb101)); have n6_ := il_ hg HI0; have n7_ := ir_ hg HI0; clear HI0 HK HB; have HI0 := n0_; have HK := n1_; have HB := n2_; have BK101 := n3_; have GW101 := n4_; have GE101 := n5_; have NB0_101 := n6_; have NB101_0 := n7_; clear n0_ n1_ n2_ n3_ n4_ n5_ n6_ n7_ hb hbox hg) | ((with_reducible refine gate_callee (f := 115) rfl ?_); refine gl_ (some 9) rfl rfl Try.func115 #[.slice A2 l2.length c2] rfl ?_; (with_reducible refine (spec_l01Own.calls _ _ l2 t102 _ ?side1 ?side2 A4.out).mono ?_); (case side1 => exact Kd.C_keep 0 HR2.out (kb_ HK) hf2); (case side2 => exact HC2.out); rintro e w37 ⟨v103, rfl, ho0, hb⟩; refine ⟨_, rfl, ?_⟩; have HO104 := Aside0.mk (Kd.R_lower ho0 (keep_size (w := w) (g := g) (row := none) (kb_ HK))); replace HI0 := i1_ HI0 hb; replace BK101 := a2_ BK101 hb; replace HK := k1_ HK hb; replace HB := b1_ HB hb; (try clear hb); (try clear hb2); (try clear hk); (try clear hi); (try clear ho0)) | ((with_reducible refine gate_callee (f := 85) rfl ?_); refine gl_ (some 11) rfl rfl Try.func85 #[.pointer (some ⟨g, 0, none⟩), .int .i64 30] rfl ?_; (with_reducible refine (spec_l01Next.calls g s0_0 s0_1 s0_2 30 t105 t106 t107 w0 _ ?side1 ?side2 A5.out).mono ?_); (case side1 => exact i_ HI0); (case side2 => exact gb_ HB.out); rintro e w38 ⟨rfl, hi, hb, hk⟩; refine ⟨_, rfl, ?_⟩; replace BK101 := kx_ BK101 NB101_0 hk; replace HO104 := kr_ HI0 HO104 hk; replace HK := Aside0.mk (KeepBut.trans (kb_ HK) hk (.inl rfl)); replace HB := Aside0.mk (hb); replace HI0 := Aside0.mk (hi); (try clear hb); (try clear hb2); (try clear hk); (try clear hi)))
  go_ret
  exact ⟨_, t5_, rb_ HO104.out, i_ HI0, gb_ HB.out, kb_ HK⟩

 rw [if_pos c21] at H
 have c21b0 : (t105 == 1) = true := beq_iff_eq.mpr c21
 have c21b1 : (t105 != 1) = false := bne_eq_false_iff_eq.mpr c21
 clear c21
 by_cases c22 : (t102.length : Int) > 1
 rotate_left
 ·rw [if_neg c22] at H
  have c22b0 : decide (1 < (t102.length : Int)) = false := decide_eq_false c22
  have c22b1 : decide (1 < t102.length) = false := decide_eq_false (by omega)
  clear c22
  simp only [Option.some.injEq, Prod.mk.injEq] at H
  obtain ⟨rfl, rfl, rfl⟩ := H
  go_enter Try.func123, Try.ntmps123
  go_wp2_with (first | ((with_reducible refine gate_dst (N := 4) rfl ?_); refine bx_ (N := 4) (cs := #[.slice A1_0 l1_0.length c1_0]) (t := 26) rfl rfl ?_; intro gb101 hg w32 hbox hb; have n0_ := i1_ HI0 hb; have n1_ := k1_ HK hb; have n2_ := b1_ HB hb; have n3_ := Aside0.mk (hbox); have n4_ := gk_ hg HK; have n5_ := Aside0.mk ((Nat.le_trans HW0.out (by rw [hg]; exact (keep_size (w := w) (g := g) (row := none) (kb_ HK)) : w.heap.size ≤ gb101) : w0.heap.size ≤ gb101)); have n6_ := il_ hg HI0; have n7_ := ir_ hg HI0; clear HI0 HK HB; have HI0 := n0_; have HK := n1_; have HB := n2_; have BK101 := n3_; have GW101 := n4_; have GE101 := n5_; have NB0_101 := n6_; have NB101_0 := n7_; clear n0_ n1_ n2_ n3_ n4_ n5_ n6_ n7_ hb hbox hg) | ((with_reducible refine gate_callee (f := 115) rfl ?_); refine gl_ (some 9) rfl rfl Try.func115 #[.slice A2 l2.length c2] rfl ?_; (with_reducible refine (spec_l01Own.calls _ _ l2 t102 _ ?side1 ?side2 A4.out).mono ?_); (case side1 => exact Kd.C_keep 0 HR2.out (kb_ HK) hf2); (case side2 => exact HC2.out); rintro e w33 ⟨v103, rfl, ho0, hb⟩; refine ⟨_, rfl, ?_⟩; have HO104 := Aside0.mk (Kd.R_lower ho0 (keep_size (w := w) (g := g) (row := none) (kb_ HK))); replace HI0 := i1_ HI0 hb; replace BK101 := a2_ BK101 hb; replace HK := k1_ HK hb; replace HB := b1_ HB hb; (try clear hb); (try clear hb2); (try clear hk); (try clear hi); (try clear ho0)) | ((with_reducible refine gate_callee (f := 85) rfl ?_); refine gl_ (some 11) rfl rfl Try.func85 #[.pointer (some ⟨g, 0, none⟩), .int .i64 30] rfl ?_; (with_reducible refine (spec_l01Next.calls g s0_0 s0_1 s0_2 30 t105 t106 t107 w0 _ ?side1 ?side2 A5.out).mono ?_); (case side1 => exact i_ HI0); (case side2 => exact gb_ HB.out); rintro e w34 ⟨rfl, hi, hb, hk⟩; refine ⟨_, rfl, ?_⟩; replace BK101 := kx_ BK101 NB101_0 hk; replace HO104 := kr_ HI0 HO104 hk; replace HK := Aside0.mk (KeepBut.trans (kb_ HK) hk (.inl rfl)); replace HB := Aside0.mk (hb); replace HI0 := Aside0.mk (hi); (try clear hb); (try clear hb2); (try clear hk); (try clear hi); obtain ⟨Ao35, co35, eo35⟩ := Kd.R_slice HO104.out; subst eo35))
  go_ret
  exact ⟨_, t5_, rb_ HO104.out, i_ HI0, gb_ HB.out, kb_ HK⟩
 rw [if_pos c22] at H
 have c22b0 : decide (1 < (t102.length : Int)) = true := decide_eq_true c22
 have c22b1 : decide (1 < t102.length) = true := decide_eq_true (by omega)
 clear c22
 by_cases c23 : 1 < (t102.length : Int)
 rotate_left
 ·rw [if_neg c23] at H
  exact absurd H (by simp)
 rw [if_pos c23] at H
 have c23b0 : decide (1 < (t102.length : Int)) = true := decide_eq_true c23
 have c23b1 : decide (1 < t102.length) = true := decide_eq_true (by omega)
 clear c23
 by_cases c24 : 0 < (t102.length : Int)
 rotate_left
 ·rw [if_neg c24] at H
  exact absurd H (by simp)
 rw [if_pos c24] at H
 have c24b0 : decide (0 < (t102.length : Int)) = true := decide_eq_true c24
 have c24b1 : decide (0 < t102.length) = true := decide_eq_true (by omega)
 clear c24
 obtain ⟨y119, hy119⟩ : ∃ y_ : List Int, y_ = (t102.set (0 : Int).toNat (rd t102 1)) := ⟨_, rfl⟩
 replace H : (some (y119, t106, t107)) = some (r1, r2, r3) := y_ H
 have Ny119 := Aside0.mk hy119
 clear hy119
 simp only [Option.some.injEq, Prod.mk.injEq] at H
 obtain ⟨rfl, rfl, rfl⟩ := H
 go_enter Try.func123, Try.ntmps123
 go_wp2_with (first | ((with_reducible refine gate_dst (N := 4) rfl ?_); refine bx_ (N := 4) (cs := #[.slice A1_0 l1_0.length c1_0]) (t := 26) rfl rfl ?_; intro gb101 hg w26 hbox hb; have n0_ := i1_ HI0 hb; have n1_ := k1_ HK hb; have n2_ := b1_ HB hb; have n3_ := Aside0.mk (hbox); have n4_ := gk_ hg HK; have n5_ := Aside0.mk ((Nat.le_trans HW0.out (by rw [hg]; exact (keep_size (w := w) (g := g) (row := none) (kb_ HK)) : w.heap.size ≤ gb101) : w0.heap.size ≤ gb101)); have n6_ := il_ hg HI0; have n7_ := ir_ hg HI0; clear HI0 HK HB; have HI0 := n0_; have HK := n1_; have HB := n2_; have BK101 := n3_; have GW101 := n4_; have GE101 := n5_; have NB0_101 := n6_; have NB101_0 := n7_; clear n0_ n1_ n2_ n3_ n4_ n5_ n6_ n7_ hb hbox hg) | ((with_reducible refine gate_callee (f := 115) rfl ?_); refine gl_ (some 9) rfl rfl Try.func115 #[.slice A2 l2.length c2] rfl ?_; (with_reducible refine (spec_l01Own.calls _ _ l2 t102 _ ?side1 ?side2 A4.out).mono ?_); (case side1 => exact Kd.C_keep 0 HR2.out (kb_ HK) hf2); (case side2 => exact HC2.out); rintro e w27 ⟨v103, rfl, ho0, hb⟩; refine ⟨_, rfl, ?_⟩; have HO104 := Aside0.mk (Kd.R_lower ho0 (keep_size (w := w) (g := g) (row := none) (kb_ HK))); replace HI0 := i1_ HI0 hb; replace BK101 := a2_ BK101 hb; replace HK := k1_ HK hb; replace HB := b1_ HB hb; (try clear hb); (try clear hb2); (try clear hk); (try clear hi); (try clear ho0)) | ((with_reducible refine gate_callee (f := 85) rfl ?_); refine gl_ (some 11) rfl rfl Try.func85 #[.pointer (some ⟨g, 0, none⟩), .int .i64 30] rfl ?_; (with_reducible refine (spec_l01Next.calls g s0_0 s0_1 s0_2 30 t105 t106 t107 w0 _ ?side1 ?side2 A5.out).mono ?_); (case side1 => exact i_ HI0); (case side2 => exact gb_ HB.out); rintro e w28 ⟨rfl, hi, hb, hk⟩; refine ⟨_, rfl, ?_⟩; replace BK101 := kx_ BK101 NB101_0 hk; replace HO104 := kr_ HI0 HO104 hk; replace HK := Aside0.mk (KeepBut.trans (kb_ HK) hk (.inl rfl)); replace HB := Aside0.mk (hb); replace HI0 := Aside0.mk (hi); (try clear hb); (try clear hb2); (try clear hk); (try clear hi); obtain ⟨Ao29, co29, eo29⟩ := Kd.R_slice HO104.out; subst eo29; have p118 : 0 ≤ (1 : Int) := (by omega); have q118 : 1 < (t102.length : Int) := of_decide_eq_true t6_; obtain ⟨ad118, e118, hx118_0⟩ := Kd.at_int (Kd.R_reads' HO104.out).2.2 1 p118 q118; cases e118; (try simp only [show (1 : Int).toNat = 1 from rfl, Nat.reduceMul, Nat.reduceEqDiff, Go.Addr.add, ↓reduceIte] at hx118_0); have qi118 : (1 < t102.length) = True := eq_true (by omega); (try rw [show ((1 : Int)).toNat = 1 from rfl] at hx118_0); replace p118 := eq_true p118; replace q118 := eq_true q118; have p25 : 0 ≤ (0 : Int) := (by omega); have q25 : (0 : Int) < ((t102.length : Int) : Int) := of_decide_eq_true t6_; have qi25 : (0 < t102.length) = True := eq_true (by omega); obtain ⟨go25, co25, eo25, gb25, gl25, cl25, HG25⟩ := Kd.R_form HO104.out (by omega); (first | cases eo25 | (injection eo25 with ea_ en_ ec_; (first | subst ea_ | (injection ea_ with ea_; subst ea_)); subst ec_; clear en_)); have GB25 := Aside0.mk gb25; have GG25 := Aside0.mk HG25; clear gb25 gl25 HG25; (first | simp only [add_plain] at hx118_0 | skip); obtain ⟨hx25_0, hf25_0⟩ := Kd.R_celln 0 HO104.out (0 : Int) p25 q25; (try rw [show ((0 : Int)).toNat = 0 from rfl] at hx25_0); (try simp only [Nat.reduceMul, Nat.zero_mul, Nat.zero_add, Nat.reduceAdd] at hx25_0); (try rw [show ((0 : Int)).toNat = 0 from rfl] at hf25_0); (try simp only [Nat.reduceMul, Nat.zero_mul, Nat.zero_add, Nat.reduceAdd] at hf25_0); replace p25 := eq_true p25; replace q25 := eq_true q25; obtain ⟨hy30_, hz30_⟩ := Kd.R_celln 0 HO104.out (0 : Int) (by omega) (of_decide_eq_true t6_); (try simp only [Int.reduceToNat, Int.toNat_zero, Int.toNat_ofNat, Nat.reduceMul, Nat.zero_mul, Nat.zero_add] at hy30_ hz30_); (try rw [show ((0 : Int)).toNat = 0 from rfl] at hy30_); (try rw [show ((0 : Int)).toNat = 0 from rfl] at hz30_); have HP30 := Kd.R_putg HO104.out (0 : Int) (rd t102 1)) | ((with_reducible refine gate_store (t := 2) (p := 31) rfl ?_); refine store_event (t := 2) (p := 31) (v := ?vo_w31) (w1 := (w28.setCell ⟨go25, (0 : Int).toNat, none⟩ (.int .i64 (rd t102 1)))) ?hg ?ho ?hn ?hr ?_; (case ho => rfl); (case hg => rfl); (case hn => rfl); (case hr => exact t3_); intro w31 hw; have hg : w28.grownBy w31 (some go25) := (by rw [hw]; exact HP30.2); have hp_ : Kd.R (Kd.int .i64) 2 w31 w.heap.size (fun _ => True) (.slice (some ⟨go25, 0, none⟩) t102.length co29) y119 := (by rw [hw, Ny119.out]; exact HP30.1); clear HP30; have n0_ := Aside0.mk (IsS91.grown (i_ HI0) hg (IsS91.own_ne HI0.out HO104.out (by decide))); have n1_ := Aside0.mk (blk_grown (g := gb101) (o := .cells #[.slice A1_0 l1_0.length c1_0] 26 (0, 0)) (bb_ BK101.out) hg (Kd.R_ne HO104.out BK101.out (by decide))); have n2_ := Aside0.mk (hp_); have n3_ := Aside0.mk ((by rw [hw]; exact below_set (HB.out) (Nat.le_trans HL.out GB25.out) : Below w0.heap.size w0 w31)); have n4_ := Aside0.mk (KeepBut.trans (kb_ HK) (KeepBut.of_grown hg g) (Kd.R_base2 HO104.out)); clear HI0 BK101 HO104 HB HK; have HI0 := n0_; have BK101 := n1_; have HO104 := n2_; have HB := n3_; have HK := n4_; clear n0_ n1_ n2_ n3_ n4_ hg hw hp_))
 go_ret
 exact ⟨_, t5_, rb_ HO104.out, i_ HI0, gb_ HB.out, kb_ HK⟩
mutual
def spec_l01DrawCode.l0 : Nat → List Int → Int → Int → Int → List Int → Int → Int → List Int → Option (List Int × Int × Int)
  | 0, _, _, _, _, _, _, _, _ => none
  | k + 1, x5, x6, x7, x8, x1000, x1001, x1002, x102000 => (spec_l01N.f k x102000).bind fun t117 => (if x8 < t117 then ((spec_l01Digits.f k x102000 x8).bind fun t118 => (spec_l01DrawCode.l1 k x5 x6 x7 x8 t118 0 (t118.length : Int) 0 x1000 x1001 x1002 x102000)) else (some (x5, x1001, x1002)))
def spec_l01DrawCode.l1 : Nat → List Int → Int → Int → Int → List Int → Int → Int → Int → List Int → Int → Int → List Int → Option (List Int × Int × Int)
  | 0, _, _, _, _, _, _, _, _, _, _, _, _ => none
  | k + 1, x5, x6, x7, x8, x9, x10, x37, x38, x1000, x1001, x1002, x102000 => if x38 < x37 then (if 0 ≤ x38 then (if x38 < (x9.length : Int) then (spec_l01DrawCode.l1 k x5 x6 x7 x8 x9 (wrap64 (x10 + (rd x9 x38))) x37 (wrap64 (x38 + 1)) x1000 x1001 x1002 x102000) else (none)) else (none)) else (if x6 = 0 then (none) else (if (Int.tmod x10 x6) = x7 then (if x5.length < 17592186044416 then (spec_l01DrawCode.l0 k (x5 ++ [x8]) x6 x7 (wrap64 (x8 + 1)) x1000 x1001 x1002 x102000) else (none)) else (spec_l01DrawCode.l0 k x5 x6 x7 (wrap64 (x8 + 1)) x1000 x1001 x1002 x102000)))
def spec_l01DrawCode.l2 : Nat → List Int → Int → Int → List Int → Int → Int → List Int → Option (List Int × Int × Int)
  | 0, _, _, _, _, _, _, _ => none
  | k + 1, x5, x12, x13, x1000, x1001, x1002, x102000 => (spec_l01N.f k x102000).bind fun t131 => (if x13 < t131 then (spec_l01DrawCode.l3 k x5 x12 x13 true (x5.length : Int) 0 x1000 x1001 x1002 x102000) else (some (x5, x1001, x1002)))
def spec_l01DrawCode.l3 : Nat → List Int → Int → Int → Bool → Int → Int → List Int → Int → Int → List Int → Option (List Int × Int × Int)
  | 0, _, _, _, _, _, _, _, _, _, _ => none
  | k + 1, x5, x12, x13, x14, x70, x71, x1000, x1001, x1002, x102000 => if x71 < x70 then (if x14 = true then (if 0 ≤ x71 then (if x71 < (x5.length : Int) then ((spec_l01Distance.f k x102000 (rd x5 x71) x13).bind fun t133 => (spec_l01DrawCode.l3 k x5 x12 x13 (decide (t133 ≥ x12)) x70 (wrap64 (x71 + 1)) x1000 x1001 x1002 x102000)) else (none)) else (none)) else (spec_l01DrawCode.l3 k x5 x12 x13 false x70 (wrap64 (x71 + 1)) x1000 x1001 x1002 x102000)) else (if x14 = true then (if x5.length < 17592186044416 then (spec_l01DrawCode.l2 k (x5 ++ [x13]) x12 (wrap64 (x13 + 1)) x1000 x1001 x1002 x102000) else (none)) else (spec_l01DrawCode.l2 k x5 x12 (wrap64 (x13 + 1)) x1000 x1001 x1002 x102000))
def spec_l01DrawCode.l4 : Nat → List Int → Int → List Int → Int → Int → List Int → Option (List Int × Int × Int)
  | 0, _, _, _, _, _, _ => none
  | k + 1, x5, x16, x1000, x1001, x1002, x102000 => if x16 > 0 then ((spec_l01N.f k x102000).bind fun t146 => ((spec_l01Next.f x1000 x1001 x1002 t146).bind fun bt147 => ((spec_l01Put.f k x5 bt147.1).bind fun t150 => (spec_l01DrawCode.l4 k t150 (wrap64 (x16 - 1)) x1000 bt147.2.1 bt147.2.2 x102000)))) else (some (x5, x1001, x1002))
end
def spec_l01DrawCode.f (k : Nat) (s0_0 : List Int) (s0_1 : Int) (s0_2 : Int) (l1_0 : List Int) : Option (List Int × Int × Int) := (some (([] : List Int) : List Int)).bind fun y102 => ((spec_l01Next.f s0_0 s0_1 s0_2 4).bind fun bt105 => (if bt105.1 = 0 then ((spec_l01Pick.f s0_0 bt105.2.1 bt105.2.2 (([2, 2, 3, 4] : List Int))).bind fun bt111 => ((spec_l01Next.f s0_0 bt111.2.1 bt111.2.2 2).bind fun bt114 => (spec_l01DrawCode.l0 k y102 bt111.1 bt114.1 0 s0_0 bt114.2.1 bt114.2.2 l1_0))) else (if bt105.1 = 1 then ((spec_l01Pick.f s0_0 bt105.2.1 bt105.2.2 (([2, 3, 3] : List Int))).bind fun bt128 => (spec_l01DrawCode.l2 k y102 bt128.1 0 s0_0 bt128.2.1 bt128.2.2 l1_0)) else ((spec_l01Pick.f s0_0 bt105.2.1 bt105.2.2 (([3, 8, 20] : List Int))).bind fun bt140 => ((spec_l01Next.f s0_0 bt140.2.1 bt140.2.2 bt140.1).bind fun bt143 => (spec_l01DrawCode.l4 k y102 bt143.1 s0_0 bt143.2.1 bt143.2.2 l1_0))))))
def spec_l01DrawCode.T26 : Bool × List (List Nat × List Nat) := (true, [([], []), ([0], [0]), ([1], [1]), ([1], [1]), ([1], [1]), ([3, 4, 1], [1, 3, 4]), ([5, 1], [1, 5]), ([1], [1]), ([2, 6, 7, 1, 1], [1, 2, 6, 7]), ([1], [1]), ([8, 9, 1], [1, 8, 9]), ([1, 10], [1, 10]), ([11, 8, 0, 1, 2, 3, 4, 5, 6, 7, 8, 9, 10, 11], [0, 11])])
def spec_l01DrawCode.B26 : List Nat := [0, 1, 3, 3, 3, 27, 59, 3, 255, 3, 1023, 2047, 4095]
theorem spec_l01DrawCode.tab26 : rtab .any (opsOf Try.f121 26) = spec_l01DrawCode.T26 := by kernel_rfl
theorem spec_l01DrawCode.bits26 : waitsOk spec_l01DrawCode.T26.2 spec_l01DrawCode.B26 = true := by kernel_rfl
set_option maxHeartbeats 8000000 in
set_option maxRecDepth 100000 in
theorem spec_l01DrawCode.calls (k : Nat) (g : Nat) (s0_0 : List Int) (s0_1 : Int) (s0_2 : Int) (A1_0 : Option Addr) (c1_0 : Nat) (l1_0 : List Int) (r1 : List Int) (r2 : Int) (r3 : Int) (w0 w : World) (hI : IsS91 w0 w g s0_0 s0_1 s0_2) (hB : Below w0.heap.size w0 w) (hr1_0 : Kd.C (Kd.int .i64) w A1_0 l1_0.length l1_0) (hc1_0 : l1_0.length ≤ c1_0) (hf1_0 : ∀ ad, A1_0 = some ad → 0 < l1_0.length → ad.block ≠ g) (h : spec_l01DrawCode.f k s0_0 s0_1 s0_2 l1_0 = some (r1, r2, r3)) :
  Calls Try.prog 121 #[.pointer (some ⟨g, 0, none⟩), .agg #[.slice A1_0 l1_0.length c1_0]] w fun e w' => ∃ v0_ : Value, e = .returned (v0_) ∧ Kd.R (Kd.int .i64) 2 w' w.heap.size (fun _ => True) v0_ r1 ∧ IsS91 w0 w' g s0_0 r2 r3 ∧ Below w0.heap.size w0 w' ∧ KeepBut w w' g none := by
 have hu26 := Try.underlying26
 have HR1_0 := Aside0.mk hr1_0
 have HC1_0 := Aside0.mk hc1_0
 clear hr1_0 hc1_0
 have HI0 := Aside0.mk hI
 have HK := Aside0.mk (KeepBut.refl w g none)
 have HL := Aside0.mk hB.size
 clear hI
 have HW0 := Aside0.mk hB.size
 have HB := Aside0.mk hB
 clear hB
 have H : ((some (([] : List Int) : List Int)).bind fun y102 => ((spec_l01Next.f s0_0 s0_1 s0_2 4).bind fun bt105 => (if bt105.1 = 0 then ((spec_l01Pick.f s0_0 bt105.2.1 bt105.2.2 (([2, 2, 3, 4] : List Int))).bind fun bt111 => ((spec_l01Next.f s0_0 bt111.2.1 bt111.2.2 2).bind fun bt114 => (spec_l01DrawCode.l0 k y102 bt111.1 bt114.1 0 s0_0 bt114.2.1 bt114.2.2 l1_0))) else (if bt105.1 = 1 then ((spec_l01Pick.f s0_0 bt105.2.1 bt105.2.2 (([2, 3, 3] : List Int))).bind fun bt128 => (spec_l01DrawCode.l2 k y102 bt128.1 0 s0_0 bt128.2.1 bt128.2.2 l1_0)) else ((spec_l01Pick.f s0_0 bt105.2.1 bt105.2.2 (([3, 8, 20] : List Int))).bind fun bt140 => ((spec_l01Next.f s0_0 bt140.2.1 bt140.2.2 bt140.1).bind fun bt143 => (spec_l01DrawCode.l4 k y102 bt143.1 s0_0 bt143.2.1 bt143.2.2 l1_0))))))) = some (r1, r2, r3) := h
 clear h
 obtain ⟨y102, hy102⟩ : ∃ y_ : List Int, y_ = (([] : List Int)) := ⟨_, rfl⟩
 replace H : ((spec_l01Next.f s0_0 s0_1 s0_2 4).bind fun bt105 => (if bt105.1 = 0 then ((spec_l01Pick.f s0_0 bt105.2.1 bt105.2.2 (([2, 2, 3, 4] : List Int))).bind fun bt111 => ((spec_l01Next.f s0_0 bt111.2.1 bt111.2.2 2).bind fun bt114 => (spec_l01DrawCode.l0 k y102 bt111.1 bt114.1 0 s0_0 bt114.2.1 bt114.2.2 l1_0))) else (if bt105.1 = 1 then ((spec_l01Pick.f s0_0 bt105.2.1 bt105.2.2 (([2, 3, 3] : List Int))).bind fun bt128 => (spec_l01DrawCode.l2 k y102 bt128.1 0 s0_0 bt128.2.1 bt128.2.2 l1_0)) else ((spec_l01Pick.f s0_0 bt105.2.1 bt105.2.2 (([3, 8, 20] : List Int))).bind fun bt140 => ((spec_l01Next.f s0_0 bt140.2.1 bt140.2.2 bt140.1).bind fun bt143 => (spec_l01DrawCode.l4 k y102 bt143.1 s0_0 bt143.2.1 bt143.2.2 l1_0)))))) = some (r1, r2, r3) := y_ H
 have Ny102 := Aside0.mk hy102
 clear hy102
 replace H := Option.bind_eq_some_iff.mp H
 obtain ⟨⟨t105, t106, t107⟩, A30, H⟩ := H
 replace H : (if t105 = 0 then ((spec_l01Pick.f s0_0 t106 t107 (([2, 2, 3, 4] : List Int))).bind fun bt111 => ((spec_l01Next.f s0_0 bt111.2.1 bt111.2.2 2).bind fun bt114 => (spec_l01DrawCode.l0 k y102 bt111.1 bt114.1 0 s0_0 bt114.2.1 bt114.2.2 l1_0))) else (if t105 = 1 then ((spec_l01Pick.f s0_0 t106 t107 (([2, 3, 3] : List Int))).bind fun bt128 => (spec_l01DrawCode.l2 k y102 bt128.1 0 s0_0 bt128.2.1 bt128.2.2 l1_0)) else ((spec_l01Pick.f s0_0 t106 t107 (([3, 8, 20] : List Int))).bind fun bt140 => ((spec_l01Next.f s0_0 bt140.2.1 bt140.2.2 bt140.1).bind fun bt143 => (spec_l01DrawCode.l4 k y102 bt143.1 s0_0 bt143.2.1 bt143.2.2 l1_0))))) = some (r1, r2, r3) := H
 have A3 := Aside0.mk A30
 clear A30
 by_cases c4 : t105 = 0
 ·rw [if_pos c4] at H
  have c4b0 : (t105 == 0) = true := beq_iff_eq.mpr c4
  have c4b1 : (t105 != 0) = false := bne_eq_false_iff_eq.mpr c4
  clear c4
  obtain ⟨y108, hy108⟩ : ∃ y_ : List Int, y_ = (([2, 2, 3, 4] : List Int)) := ⟨_, rfl⟩
  replace H : ((spec_l01Pick.f s0_0 t106 t107 y108).bind fun bt111 => ((spec_l01Next.f s0_0 bt111.2.1 bt111.2.2 2).bind fun bt114 => (spec_l01DrawCode.l0 k y102 bt111.1 bt114.1 0 s0_0 bt114.2.1 bt114.2.2 l1_0))) = some (r1, r2, r3) := y_ H
  have Ny108 := Aside0.mk hy108
  clear hy108
  replace H := Option.bind_eq_some_iff.mp H
  obtain ⟨⟨t111, t112, t113⟩, A50, H⟩ := H
  replace H : ((spec_l01Next.f s0_0 t112 t113 2).bind fun bt114 => (spec_l01DrawCode.l0 k y102 t111 bt114.1 0 s0_0 bt114.2.1 bt114.2.2 l1_0)) = some (r1, r2, r3) := H
  have A5 := Aside0.mk A50
  clear A50
  replace H := Option.bind_eq_some_iff.mp H
  obtain ⟨⟨t114, t115, t116⟩, A60, H⟩ := H
  replace H : (spec_l01DrawCode.l0 k y102 t111 t114 0 s0_0 t115 t116 l1_0) = some (r1, r2, r3) := H
  have A6 := Aside0.mk A60
  clear A60
  have H' := Aside0.mk H
  clear H
  go_enter Try.func121, Try.ntmps121
  go_wp2_with (first | ((with_reducible refine gate_dst (N := 3) rfl ?_); refine bx_ (N := 3) (cs := #[.slice A1_0 l1_0.length c1_0]) (t := 26) rfl rfl ?_; intro gb101 hg w7 hbox hb; have n0_ := i1_ HI0 hb; have n1_ := k1_ HK hb; have n2_ := b1_ HB hb; have n3_ := Aside0.mk (hbox); have n4_ := gk_ hg HK; have n5_ := Aside0.mk ((Nat.le_trans HW0.out (by rw [hg]; exact (keep_size (w := w) (g := g) (row := none) (kb_ HK)) : w.heap.size ≤ gb101) : w0.heap.size ≤ gb101)); have n6_ := il_ hg HI0; have n7_ := ir_ hg HI0; clear HI0 HK HB; have HI0 := n0_; have HK := n1_; have HB := n2_; have BK101 := n3_; have GW101 := n4_; have GE101 := n5_; have NB0_101 := n6_; have NB101_0 := n7_; clear n0_ n1_ n2_ n3_ n4_ n5_ n6_ n7_ hb hbox hg) | ((with_reducible refine gate_dst (N := 17) rfl ?_); refine Kd.R_lit (Kd.int .i64) _ 2 ?hg (N := 17) ?hd (xs := ([] : List Int)) (inner := []) (ok := fun _ => True) (okp := fun _ => True) ?hr ?hp (fun _ hk => hk) trivial (Below.refl _ _) (Nat.le_refl _) (by simp) ?_; (case hd => rfl); (case hg => rfl); (case hr => exact t3_); (case hp => exact (Reps.none _ _)); intro v103 w8 ho9 hb hg_ hnew_; clear hg_ hnew_; (first | rw [← Ny102.out] at ho9 | (simp only [Int.reduceToNat] at ho9; rw [← Ny102.out] at ho9)); have n0_ := Aside0.mk (Kd.R_lower ho9 (keep_size (w := w) (g := g) (row := none) (kb_ HK))); have n1_ := i1_ HI0 hb; have n2_ := a2_ BK101 hb; have n3_ := k1_ HK hb; have n4_ := b1_ HB hb; clear HI0 BK101 HK HB; have HO104 := n0_; have HI0 := n1_; have BK101 := n2_; have HK := n3_; have HB := n4_; clear n0_ n1_ n2_ n3_ n4_ hb ho9) | ((with_reducible refine gate_callee (f := 85) rfl ?_); refine gl_ (some 19) rfl rfl Try.func85 #[.pointer (some ⟨g, 0, none⟩), .int .i64 4] rfl ?_; (with_reducible refine (spec_l01Next.calls g s0_0 s0_1 s0_2 4 t105 t106 t107 w0 _ ?side1 ?side2 A3.out).mono ?_); (case side1 => exact i_ HI0); (case side2 => exact gb_ HB.out); rintro e w10 ⟨rfl, hi, hb, hk⟩; refine ⟨_, rfl, ?_⟩; replace BK101 := kx_ BK101 NB101_0 hk; replace HO104 := kr_ HI0 HO104 hk; replace HK := Aside0.mk (KeepBut.trans (kb_ HK) hk (.inl rfl)); replace HB := Aside0.mk (hb); replace HI0 := Aside0.mk (hi); (try clear hb); (try clear hb2); (try clear hk); (try clear hi)) | ((with_reducible refine gate_dst (N := 23) rfl ?_); refine Kd.R_lit (Kd.int .i64) _ 2 ?hg (N := 23) ?hd (xs := ([2, 2, 3, 4] : List Int)) (inner := [.int .i64 2, .int .i64 2, .int .i64 3, .int .i64 4]) (ok := fun _ => True) (okp := fun _ => True) ?hr ?hp (fun _ hk => hk) trivial (Below.refl _ _) (Nat.le_refl _) (by simp) ?_; (case hd => rfl); (case hg => rfl); (case hr => exact t3_); (case hp => exact (Reps.one (show Kd.M (Kd.int .i64) _ _ _ 2 [.int .i64 2] from rfl) (Reps.one (show Kd.M (Kd.int .i64) _ _ _ 2 [.int .i64 2] from rfl) (Reps.one (show Kd.M (Kd.int .i64) _ _ _ 3 [.int .i64 3] from rfl) (Reps.one (show Kd.M (Kd.int .i64) _ _ _ 4 [.int .i64 4] from rfl) (Reps.none _ _)))))); intro v109 w11 ho12 hb hg_ hnew_; clear hg_ hnew_; (first | rw [← Ny108.out] at ho12 | (simp only [Int.reduceToNat] at ho12; rw [← Ny108.out] at ho12)); have n0_ := a5_ HO104 ho12 hb; have n1_ := Aside0.mk (Kd.R_lower (Kd.R_new' ho12 (Kd.R_lt (rb_ HO104.out))) (keep_size (w := w) (g := g) (row := none) (kb_ HK))); have n2_ := i1_ HI0 hb; have n3_ := a2_ BK101 hb; have n4_ := k1_ HK hb; have n5_ := b1_ HB hb; clear HO104 HI0 BK101 HK HB; have HO104 := n0_; have HO110 := n1_; have HI0 := n2_; have BK101 := n3_; have HK := n4_; have HB := n5_; clear n0_ n1_ n2_ n3_ n4_ n5_ hb ho12; obtain ⟨Ao13, co13, eo13⟩ := Kd.R_slice HO110.out; subst eo13) | ((with_reducible refine gate_callee (f := 82) rfl ?_); refine gl_ (some 24) rfl rfl Try.func82 #[.pointer (some ⟨g, 0, none⟩), .slice Ao13 y108.length co13] rfl ?_; (with_reducible refine (spec_l01Pick.calls g s0_0 t106 t107 _ _ y108 t111 t112 t113 w0 _ ?side1 ?side2 ?side3 ?side4 ?side5 A5.out).mono ?_); (case side1 => exact i_ HI0); (case side2 => exact gb_ HB.out); (case side3 => exact c1_ HO110); (case side4 => exact (Kd.R_reads' HO110.out).2.1); (case side5 => exact far_slice (IsS91.own_ne HI0.out HO110.out (by decide))); rintro e w14 ⟨rfl, hi, hb, hk⟩; refine ⟨_, rfl, ?_⟩; replace BK101 := kx_ BK101 NB101_0 hk; replace HO104 := kr_ HI0 HO104 hk; replace HO110 := kr_ HI0 HO110 hk; replace HK := Aside0.mk (KeepBut.trans (kb_ HK) hk (.inl rfl)); replace HB := Aside0.mk (hb); replace HI0 := Aside0.mk (hi); (try clear hb); (try clear hb2); (try clear hk); (try clear hi)) | ((with_reducible refine gate_callee (f := 85) rfl ?_); refine gl_ (some 26) rfl rfl Try.func85 #[.pointer (some ⟨g, 0, none⟩), .int .i64 2] rfl ?_; (with_reducible refine (spec_l01Next.calls g s0_0 t112 t113 2 t114 t115 t116 w0 _ ?side1 ?side2 A6.out).mono ?_); (case side1 => exact i_ HI0); (case side2 => exact gb_ HB.out); rintro e w15 ⟨rfl, hi, hb, hk⟩; refine ⟨_, rfl, ?_⟩; replace BK101 := kx_ BK101 NB101_0 hk; replace HO104 := kr_ HI0 HO104 hk; replace HO110 := kr_ HI0 HO110 hk; replace HK := Aside0.mk (KeepBut.trans (kb_ HK) hk (.inl rfl)); replace HB := Aside0.mk (hb); replace HI0 := Aside0.mk (hi); (try clear hb); (try clear hb2); (try clear hk); (try clear hi)))
  go_loopg [5, 8] k (fun kq v5 v8 w' => ∃ (x5_1 : List Int) (x8_1 : Int), v8 = .int .i64 x8_1 ∧ Aside0 (spec_l01DrawCode.l0 kq x5_1 t111 t114 x8_1 s0_0 t115 t116 l1_0 = some (r1, r2, r3)) ∧ Aside0 (kq ≤ k) ∧ Aside0 (Kd.R (Kd.int .i64) 2 w' w.heap.size (fun _ => True) v5 x5_1) ∧ Aside0 (w'.heap[gb101]? = some (.cells #[(.slice A1_0 l1_0.length c1_0)] 26 (0, 0))) ∧ Aside0 (IsS91 w0 w' g s0_0 t115 t116) ∧ Aside0 (KeepBut w w' g none) ∧ Aside0 (Below w0.heap.size w0 w'))
  case atStart => exact ⟨(y102), (0), t2_, H', ⟨Nat.le_refl _⟩, ⟨by (with_reducible repeat (first | apply Kd.R_alloc | apply Kd.R_drewN | apply Kd.R_drew)); exact Kd.R_mono HO104.out (fun _ hk => trivial)⟩, ⟨bb_ BK101.out⟩, ⟨i_ HI0⟩, ⟨kb_ HK⟩, ⟨gb_ HB.out⟩⟩
  clear H'
  try clear c1
  try clear p2
  try clear c4
  try clear c4b0
  try clear c4b1
  try clear c8
  try clear c12
  obtain ⟨x5_1, x8_1, rfl, HA, HK1, HO_5, BK101, HI0, HK, HB⟩ := hrel
  obtain _ | k1 := gk
  ·exact absurd HA.out (by simp [spec_l01DrawCode.l0])
  have H := HA.out
  clear HA
  simp only [spec_l01DrawCode.l0] at H
  replace H := Option.bind_eq_some_iff.mp H
  obtain ⟨t117, A160, H⟩ := H
  replace H : (if x8_1 < t117 then ((spec_l01Digits.f k1 l1_0 x8_1).bind fun t118 => (spec_l01DrawCode.l1 k1 x5_1 t111 t114 x8_1 t118 0 (t118.length : Int) 0 s0_0 t115 t116 l1_0)) else (some (x5_1, t115, t116))) = some (r1, r2, r3) := H
  have A16 := Aside0.mk A160
  clear A160
  by_cases c17 : x8_1 < t117
  rotate_left
  ·rw [if_neg c17] at H
   have c17b0 : decide (x8_1 < t117) = false := decide_eq_false c17
   clear c17
   simp only [Option.some.injEq, Prod.mk.injEq] at H
   obtain ⟨rfl, rfl, rfl⟩ := H
   have hnb32 := NB101_0.out
   have hnc32 := NB0_101.out
   have hcz33_0 := hz_ BK101
   have hfz33_0 := blk_frozen BK101.out 0
   go_wp2_with (first | ((with_reducible refine gate_callee (f := 76) rfl ?_); refine gl_ (some 29) rfl rfl Try.func76 #[.agg #[.slice A1_0 l1_0.length c1_0]] rfl ?_; (with_reducible refine (spec_l01N.calls k1 _ _ l1_0 t117 _ ?side1 ?side2 A16.out).mono ?_); (case side1 => exact Kd.C_keep 0 HR1_0.out (kb_ HK) hf1_0); (case side2 => exact HC1_0.out); rintro e w34 ⟨rfl, hb⟩; refine ⟨_, rfl, ?_⟩; replace HO_5 := a1_ HO_5 hb; replace BK101 := a2_ BK101 hb; replace HI0 := i1_ HI0 hb; replace HK := k1_ HK hb; replace HB := b1_ HB hb; (try clear hb); (try clear hb2); (try clear hk); (try clear hi)))
   go_ret
   exact ⟨_, t5_, rb_ HO_5.out, i_ HI0, gb_ HB.out, kb_ HK⟩
  rw [if_pos c17] at H
  have c17b0 : decide (x8_1 < t117) = true := decide_eq_true c17
  clear c17
  replace H := Option.bind_eq_some_iff.mp H
  obtain ⟨t118, A180, H⟩ := H
  replace H : (spec_l01DrawCode.l1 k1 x5_1 t111 t114 x8_1 t118 0 (t118.length : Int) 0 s0_0 t115 t116 l1_0) = some (r1, r2, r3) := H
  have A18 := Aside0.mk A180
  clear A180
  have H' := Aside0.mk H
  clear H
  have hnb19 := NB101_0.out
  have hnc19 := NB0_101.out
  have hcz20_0 := hz_ BK101
  have hfz20_0 := blk_frozen BK101.out 0
  go_wp2_with (first | ((with_reducible refine gate_callee (f := 76) rfl ?_); refine gl_ (some 29) rfl rfl Try.func76 #[.agg #[.slice A1_0 l1_0.length c1_0]] rfl ?_; (with_reducible refine (spec_l01N.calls k1 _ _ l1_0 t117 _ ?side1 ?side2 A16.out).mono ?_); (case side1 => exact Kd.C_keep 0 HR1_0.out (kb_ HK) hf1_0); (case side2 => exact HC1_0.out); rintro e w21 ⟨rfl, hb⟩; refine ⟨_, rfl, ?_⟩; replace HO_5 := a1_ HO_5 hb; replace BK101 := a2_ BK101 hb; replace HI0 := i1_ HI0 hb; replace HK := k1_ HK hb; replace HB := b1_ HB hb; (try clear hb); (try clear hb2); (try clear hk); (try clear hi); have hcz22_0 := hz_ BK101; have hfz22_0 := blk_frozen BK101.out 0) | ((with_reducible refine gate_callee (f := 65) rfl ?_); refine gl_ (some 35) rfl rfl Try.func65 #[.agg #[.slice A1_0 l1_0.length c1_0], .int .i64 x8_1] rfl ?_; (with_reducible refine (spec_l01Digits.calls k1 _ _ l1_0 x8_1 t118 _ ?side1 ?side2 A18.out).mono ?_); (case side1 => exact Kd.C_keep 0 HR1_0.out (kb_ HK) hf1_0); (case side2 => exact HC1_0.out); rintro e w23 ⟨v119, rfl, ho0, hb⟩; refine ⟨_, rfl, ?_⟩; have HO120 := Aside0.mk (Kd.R_lower (Kd.R_new' ho0 (Kd.R_lt (rb_ HO_5.out))) (keep_size (w := w) (g := g) (row := none) (kb_ HK))); replace HO_5 := a5_ HO_5 ho0 hb; replace BK101 := a2_ BK101 hb; replace HI0 := i1_ HI0 hb; replace HK := k1_ HK hb; replace HB := b1_ HB hb; (try clear hb); (try clear hb2); (try clear hk); (try clear hi); (try clear ho0); obtain ⟨Ao24, co24, eo24⟩ := Kd.R_slice HO120.out; subst eo24))
  go_loopg [10, 38] k1 (fun kq v10 v38 w' => ∃ (x10_2 : Int) (x38_2 : Int), v10 = .int .i64 x10_2 ∧ v38 = .int .i64 x38_2 ∧ Aside0 (spec_l01DrawCode.l1 kq x5_1 t111 t114 x8_1 t118 x10_2 (t118.length : Int) x38_2 s0_0 t115 t116 l1_0 = some (r1, r2, r3)) ∧ Aside0 (kq ≤ k1) ∧ Aside0 (Kd.R (Kd.int .i64) 2 w' w.heap.size (fun k_ => OB_ k_ (.slice Ao24 t118.length co24)) u5 x5_1) ∧ Aside0 (Kd.R (Kd.int .i64) 2 w' w.heap.size (fun k_ => OB_ k_ u5) (.slice Ao24 t118.length co24) t118) ∧ Aside0 (w'.heap[gb101]? = some (.cells #[(.slice A1_0 l1_0.length c1_0)] 26 (0, 0))) ∧ Aside0 (IsS91 w0 w' g s0_0 t115 t116) ∧ Aside0 (KeepBut w w' g none) ∧ Aside0 (Below w0.heap.size w0 w'))
  case atStart => exact ⟨(0), (0), t2_, t2_, H', ⟨Nat.le_refl _⟩, ⟨by (with_reducible repeat (first | apply Kd.R_alloc | apply Kd.R_drewN | apply Kd.R_drew)); exact Kd.R_mono HO_5.out (fun _ hk => hk.2)⟩, ⟨by (with_reducible repeat (first | apply Kd.R_alloc | apply Kd.R_drewN | apply Kd.R_drew)); exact Kd.R_mono HO120.out (fun _ hk => hk.2)⟩, ⟨bb_ BK101.out⟩, ⟨i_ HI0⟩, ⟨kb_ HK⟩, ⟨gb_ HB.out⟩⟩
  clear H'
  try clear c1
  try clear p2
  try clear c4
  try clear c4b0
  try clear c4b1
  try clear c6
  try clear c7
  try clear c8
  try clear c12
  try clear c17
  try clear c17b0
  try clear c19
  try clear hcz20_0
  try clear hcz22_0
  try clear hfz20_0
  try clear hfz22_0
  try clear p2
  obtain ⟨x10_2, x38_2, rfl, rfl, HA, HK2, HO_5, HO_9, BK101, HI0, HK, HB⟩ := hrel
  obtain _ | k2 := gk
  ·exact absurd HA.out (by simp [spec_l01DrawCode.l1])
  have H := HA.out
  clear HA
  simp only [spec_l01DrawCode.l1] at H
  by_cases c25 : x38_2 < (t118.length : Int)
  ·rw [if_pos c25] at H
   have c25b0 : decide (x38_2 < (t118.length : Int)) = true := decide_eq_true c25
   clear c25
   by_cases c26 : 0 ≤ x38_2
   rotate_left
   ·rw [if_neg c26] at H
    exact absurd H (by simp)
   rw [if_pos c26] at H
   have c26b0 : decide (0 ≤ x38_2) = true := decide_eq_true c26
   clear c26
   by_cases c27 : x38_2 < (t118.length : Int)
   rotate_left
   ·rw [if_neg c27] at H
    exact absurd H (by simp)
   rw [if_pos c27] at H
   have c27b0 : decide (x38_2 < (t118.length : Int)) = true := decide_eq_true c27
   clear c27
   have H' := Aside0.mk H
   clear H
   have p121 : 0 ≤ (x38_2 : Int) := of_decide_eq_true t6_
   have q121 : x38_2 < (t118.length : Int) := of_decide_eq_true t6_
   obtain ⟨ad121, e121, hx121_0⟩ := Kd.at_int (Kd.R_reads' HO_9.out).2.2 x38_2 p121 q121
   cases e121
   replace p121 := eq_true p121
   replace q121 := eq_true q121
   go_wp2
   go_roundg k2
   case measure => have := HK1.out; have := HK2.out; omega
   case rel => exact ⟨(wrap64 (x10_2 + (rd t118 x38_2))), (wrap64 (x38_2 + 1)), t2_, t2_, H', ⟨by have := HK1.out; have := HK2.out; omega⟩, ⟨rb_ HO_5.out⟩, ⟨rb_ HO_9.out⟩, ⟨bb_ BK101.out⟩, ⟨i_ HI0⟩, ⟨kb_ HK⟩, ⟨gb_ HB.out⟩⟩
  rw [if_neg c25] at H
  have c25b0 : decide (x38_2 < (t118.length : Int)) = false := decide_eq_false c25
  clear c25
  by_cases c28 : t111 = 0
  ·rw [if_pos c28] at H
   exact absurd H (by simp)
  rw [if_neg c28] at H
  have c28b0 : (t111 == 0) = false := beq_eq_false_iff_ne.mpr c28
  have c28b1 : (t111 != 0) = true := bne_iff_ne.mpr c28
  by_cases c29 : (Int.tmod x10_2 t111) = t114
  rotate_left
  ·rw [if_neg c29] at H
   have c29b0 : ((Int.tmod x10_2 t111) == t114) = false := beq_eq_false_iff_ne.mpr c29
   have c29b1 : ((Int.tmod x10_2 t111) != t114) = true := bne_iff_ne.mpr c29
   have H' := Aside0.mk H
   clear H
   go_wp2
   go_roundg k2
   case measure => have := HK1.out; have := HK2.out; omega
   case rel => exact ⟨(x5_1), (wrap64 (x8_1 + 1)), t2_, H', ⟨by have := HK1.out; have := HK2.out; omega⟩, ⟨by (with_reducible repeat (first | apply Kd.R_alloc | apply Kd.R_drewN | apply Kd.R_drew)); exact Kd.R_mono HO_5.out (fun _ hk => trivial)⟩, ⟨bb_ BK101.out⟩, ⟨i_ HI0⟩, ⟨kb_ HK⟩, ⟨gb_ HB.out⟩⟩
  rw [if_pos c29] at H
  have c29b0 : ((Int.tmod x10_2 t111) == t114) = true := beq_iff_eq.mpr c29
  have c29b1 : ((Int.tmod x10_2 t111) != t114) = false := bne_eq_false_iff_eq.mpr c29
  clear c29
  by_cases c30 : x5_1.length < 17592186044416
  rotate_left
  ·rw [if_neg c30] at H
   exact absurd H (by simp)
  rw [if_pos c30] at H
  have LMc30 := Aside0.mk c30
  clear c30
  obtain ⟨y122, hy122⟩ : ∃ y_ : List Int, y_ = (x5_1 ++ [x8_1]) := ⟨_, rfl⟩
  replace H : (spec_l01DrawCode.l0 k2 y122 t111 t114 (wrap64 (x8_1 + 1)) s0_0 t115 t116 l1_0) = some (r1, r2, r3) := y_ H
  have Ny122 := Aside0.mk hy122
  clear hy122
  have H' := Aside0.mk H
  clear H
  go_wp2_with (first | ((with_reducible refine gate_builtin (b := .append) (xs := #[.tmp 53, .tmp 55]) rfl ?_); at_builtin; refine Kd.R_append (Kd.int .i64) w.heap.size rfl (.tmp 53) (.tmp 55) 24 2 (.int .i64 0) 8 rfl Try.underlying24 info2 rfl (by decide) (by omega) u5 x5_1 x8_1 [.int .i64 x8_1] (fun k_ => OB_ k_ (.slice Ao24 t118.length co24)) (fun _ => False) rfl rfl ?aP (fun _ hk => hk.elim) ?aF ?aO (Below.refl _ _) ?aS ?aL ?_; (case aP => exact rfl); (case aF => exact (fun k_ hk => Kd.fresh' (Kd.R_lt (rb_ HO_9.out)) k_ hk)); (case aO => exact (rb_ HO_5.out)); (case aS => exact (keep_size (w := w) (g := g) (row := none) (kb_ HK))); (case aL => have := LMc30.out; omega); intro v123 w31 ho hb hg hat; rw [← Ny122.out] at ho; have n0_ := Aside0.mk (Kd.R_after (ok := (fun _ => True)) (rb_ (Kd.R_mono HO_9.out (fun _ hk => ⟨trivial, hk⟩))) hg hat); have n1_ := Aside0.mk (blk_grown (g := gb101) (o := .cells #[.slice A1_0 l1_0.length c1_0] 26 (0, 0)) (bb_ BK101.out) hg (Kd.R_ne HO_5.out BK101.out (by decide))); have n2_ := Aside0.mk (IsS91.grown (i_ HI0) hg (IsS91.own_ne HI0.out HO_5.out (by decide))); have n3_ := Aside0.mk (below_weaken (gb_ HB.out) HL.out hb); have n4_ := Aside0.mk (KeepBut.trans (kb_ HK) (KeepBut.of_grown hg g) (Kd.R_base2 HO_5.out)); have n5_ := Aside0.mk (ho); clear HO_9 BK101 HI0 HB HK HO_5; have HO_9 := n0_; have BK101 := n1_; have HI0 := n2_; have HB := n3_; have HK := n4_; have HO124 := n5_; clear n0_ n1_ n2_ n3_ n4_ n5_ ho hb hg hat))
  go_roundg k2
  case measure => have := HK1.out; have := HK2.out; omega
  case rel => exact ⟨(y122), (wrap64 (x8_1 + 1)), t2_, H', ⟨by have := HK1.out; have := HK2.out; omega⟩, ⟨by (with_reducible repeat (first | apply Kd.R_alloc | apply Kd.R_drewN | apply Kd.R_drew)); exact Kd.R_mono HO124.out (fun _ hk => trivial)⟩, ⟨bb_ BK101.out⟩, ⟨i_ HI0⟩, ⟨kb_ HK⟩, ⟨gb_ HB.out⟩⟩
 rw [if_neg c4] at H
 have c4b0 : (t105 == 0) = false := beq_eq_false_iff_ne.mpr c4
 have c4b1 : (t105 != 0) = true := bne_iff_ne.mpr c4
 by_cases c35 : t105 = 1
 rotate_left
 ·rw [if_neg c35] at H
  have c35b0 : (t105 == 1) = false := beq_eq_false_iff_ne.mpr c35
  have c35b1 : (t105 != 1) = true := bne_iff_ne.mpr c35
  obtain ⟨y137, hy137⟩ : ∃ y_ : List Int, y_ = (([3, 8, 20] : List Int)) := ⟨_, rfl⟩
  replace H : ((spec_l01Pick.f s0_0 t106 t107 y137).bind fun bt140 => ((spec_l01Next.f s0_0 bt140.2.1 bt140.2.2 bt140.1).bind fun bt143 => (spec_l01DrawCode.l4 k y102 bt143.1 s0_0 bt143.2.1 bt143.2.2 l1_0))) = some (r1, r2, r3) := y_ H
  have Ny137 := Aside0.mk hy137
  clear hy137
  replace H := Option.bind_eq_some_iff.mp H
  obtain ⟨⟨t140, t141, t142⟩, A650, H⟩ := H
  replace H : ((spec_l01Next.f s0_0 t141 t142 t140).bind fun bt143 => (spec_l01DrawCode.l4 k y102 bt143.1 s0_0 bt143.2.1 bt143.2.2 l1_0)) = some (r1, r2, r3) := H
  have A65 := Aside0.mk A650
  clear A650
  replace H := Option.bind_eq_some_iff.mp H
  obtain ⟨⟨t143, t144, t145⟩, A660, H⟩ := H
  replace H : (spec_l01DrawCode.l4 k y102 t143 s0_0 t144 t145 l1_0) = some (r1, r2, r3) := H
  have A66 := Aside0.mk A660
  clear A660
  have H' := Aside0.mk H
  clear H
  go_enter Try.func121, Try.ntmps121
  go_wp2_with (first | ((with_reducible refine gate_dst (N := 3) rfl ?_); refine bx_ (N := 3) (cs := #[.slice A1_0 l1_0.length c1_0]) (t := 26) rfl rfl ?_; intro gb101 hg w67 hbox hb; have n0_ := i1_ HI0 hb; have n1_ := k1_ HK hb; have n2_ := b1_ HB hb; have n3_ := Aside0.mk (hbox); have n4_ := gk_ hg HK; have n5_ := Aside0.mk ((Nat.le_trans HW0.out (by rw [hg]; exact (keep_size (w := w) (g := g) (row := none) (kb_ HK)) : w.heap.size ≤ gb101) : w0.heap.size ≤ gb101)); have n6_ := il_ hg HI0; have n7_ := ir_ hg HI0; clear HI0 HK HB; have HI0 := n0_; have HK := n1_; have HB := n2_; have BK101 := n3_; have GW101 := n4_; have GE101 := n5_; have NB0_101 := n6_; have NB101_0 := n7_; clear n0_ n1_ n2_ n3_ n4_ n5_ n6_ n7_ hb hbox hg) | ((with_reducible refine gate_dst (N := 17) rfl ?_); refine Kd.R_lit (Kd.int .i64) _ 2 ?hg (N := 17) ?hd (xs := ([] : List Int)) (inner := []) (ok := fun _ => True) (okp := fun _ => True) ?hr ?hp (fun _ hk => hk) trivial (Below.refl _ _) (Nat.le_refl _) (by simp) ?_; (case hd => rfl); (case hg => rfl); (case hr => exact t3_); (case hp => exact (Reps.none _ _)); intro v103 w68 ho69 hb hg_ hnew_; clear hg_ hnew_; (first | rw [← Ny102.out] at ho69 | (simp only [Int.reduceToNat] at ho69; rw [← Ny102.out] at ho69)); have n0_ := Aside0.mk (Kd.R_lower ho69 (keep_size (w := w) (g := g) (row := none) (kb_ HK))); have n1_ := i1_ HI0 hb; have n2_ := a2_ BK101 hb; have n3_ := k1_ HK hb; have n4_ := b1_ HB hb; clear HI0 BK101 HK HB; have HO104 := n0_; have HI0 := n1_; have BK101 := n2_; have HK := n3_; have HB := n4_; clear n0_ n1_ n2_ n3_ n4_ hb ho69) | ((with_reducible refine gate_callee (f := 85) rfl ?_); refine gl_ (some 19) rfl rfl Try.func85 #[.pointer (some ⟨g, 0, none⟩), .int .i64 4] rfl ?_; (with_reducible refine (spec_l01Next.calls g s0_0 s0_1 s0_2 4 t105 t106 t107 w0 _ ?side1 ?side2 A3.out).mono ?_); (case side1 => exact i_ HI0); (case side2 => exact gb_ HB.out); rintro e w70 ⟨rfl, hi, hb, hk⟩; refine ⟨_, rfl, ?_⟩; replace BK101 := kx_ BK101 NB101_0 hk; replace HO104 := kr_ HI0 HO104 hk; replace HK := Aside0.mk (KeepBut.trans (kb_ HK) hk (.inl rfl)); replace HB := Aside0.mk (hb); replace HI0 := Aside0.mk (hi); (try clear hb); (try clear hb2); (try clear hk); (try clear hi)) | ((with_reducible refine gate_dst (N := 95) rfl ?_); refine Kd.R_lit (Kd.int .i64) _ 2 ?hg (N := 95) ?hd (xs := ([3, 8, 20] : List Int)) (inner := [.int .i64 3, .int .i64 8, .int .i64 20]) (ok := fun _ => True) (okp := fun _ => True) ?hr ?hp (fun _ hk => hk) trivial (Below.refl _ _) (Nat.le_refl _) (by simp) ?_; (case hd => rfl); (case hg => rfl); (case hr => exact t3_); (case hp => exact (Reps.one (show Kd.M (Kd.int .i64) _ _ _ 3 [.int .i64 3] from rfl) (Reps.one (show Kd.M (Kd.int .i64) _ _ _ 8 [.int .i64 8] from rfl) (Reps.one (show Kd.M (Kd.int .i64) _ _ _ 20 [.int .i64 20] from rfl) (Reps.none _ _))))); intro v138 w71 ho72 hb hg_ hnew_; clear hg_ hnew_; (first | rw [← Ny137.out] at ho72 | (simp only [Int.reduceToNat] at ho72; rw [← Ny137.out] at ho72)); have n0_ := a5_ HO104 ho72 hb; have n1_ := Aside0.mk (Kd.R_lower (Kd.R_new' ho72 (Kd.R_lt (rb_ HO104.out))) (keep_size (w := w) (g := g) (row := none) (kb_ HK))); have n2_ := i1_ HI0 hb; have n3_ := a2_ BK101 hb; have n4_ := k1_ HK hb; have n5_ := b1_ HB hb; clear HO104 HI0 BK101 HK HB; have HO104 := n0_; have HO139 := n1_; have HI0 := n2_; have BK101 := n3_; have HK := n4_; have HB := n5_; clear n0_ n1_ n2_ n3_ n4_ n5_ hb ho72; obtain ⟨Ao73, co73, eo73⟩ := Kd.R_slice HO139.out; subst eo73) | ((with_reducible refine gate_callee (f := 82) rfl ?_); refine gl_ (some 96) rfl rfl Try.func82 #[.pointer (some ⟨g, 0, none⟩), .slice Ao73 y137.length co73] rfl ?_; (with_reducible refine (spec_l01Pick.calls g s0_0 t106 t107 _ _ y137 t140 t141 t142 w0 _ ?side1 ?side2 ?side3 ?side4 ?side5 A65.out).mono ?_); (case side1 => exact i_ HI0); (case side2 => exact gb_ HB.out); (case side3 => exact c1_ HO139); (case side4 => exact (Kd.R_reads' HO139.out).2.1); (case side5 => exact far_slice (IsS91.own_ne HI0.out HO139.out (by decide))); rintro e w74 ⟨rfl, hi, hb, hk⟩; refine ⟨_, rfl, ?_⟩; replace BK101 := kx_ BK101 NB101_0 hk; replace HO104 := kr_ HI0 HO104 hk; replace HO139 := kr_ HI0 HO139 hk; replace HK := Aside0.mk (KeepBut.trans (kb_ HK) hk (.inl rfl)); replace HB := Aside0.mk (hb); replace HI0 := Aside0.mk (hi); (try clear hb); (try clear hb2); (try clear hk); (try clear hi)) | ((with_reducible refine gate_callee (f := 85) rfl ?_); refine gl_ (some 97) rfl rfl Try.func85 #[.pointer (some ⟨g, 0, none⟩), .int .i64 t140] rfl ?_; (with_reducible refine (spec_l01Next.calls g s0_0 t141 t142 t140 t143 t144 t145 w0 _ ?side1 ?side2 A66.out).mono ?_); (case side1 => exact i_ HI0); (case side2 => exact gb_ HB.out); rintro e w75 ⟨rfl, hi, hb, hk⟩; refine ⟨_, rfl, ?_⟩; replace BK101 := kx_ BK101 NB101_0 hk; replace HO104 := kr_ HI0 HO104 hk; replace HO139 := kr_ HI0 HO139 hk; replace HK := Aside0.mk (KeepBut.trans (kb_ HK) hk (.inl rfl)); replace HB := Aside0.mk (hb); replace HI0 := Aside0.mk (hi); (try clear hb); (try clear hb2); (try clear hk); (try clear hi)))
  go_loopg [5, 16] k (fun kq v5 v16 w' => ∃ (x5_1 : List Int) (x16_1 : Int) (x1001_1 : Int) (x1002_1 : Int), v16 = .int .i64 x16_1 ∧ Aside0 (spec_l01DrawCode.l4 kq x5_1 x16_1 s0_0 x1001_1 x1002_1 l1_0 = some (r1, r2, r3)) ∧ Aside0 (kq ≤ k) ∧ Aside0 (Kd.R (Kd.int .i64) 2 w' w.heap.size (fun _ => True) v5 x5_1) ∧ Aside0 (w'.heap[gb101]? = some (.cells #[(.slice A1_0 l1_0.length c1_0)] 26 (0, 0))) ∧ Aside0 (IsS91 w0 w' g s0_0 x1001_1 x1002_1) ∧ Aside0 (KeepBut w w' g none) ∧ Aside0 (Below w0.heap.size w0 w'))
  case atStart => exact ⟨(y102), (t143), (t144), (t145), t2_, H', ⟨Nat.le_refl _⟩, ⟨by (with_reducible repeat (first | apply Kd.R_alloc | apply Kd.R_drewN | apply Kd.R_drew)); exact Kd.R_mono HO104.out (fun _ hk => trivial)⟩, ⟨bb_ BK101.out⟩, ⟨i_ HI0⟩, ⟨kb_ HK⟩, ⟨gb_ HB.out⟩⟩
  clear H'
  try clear c1
  try clear p1
  try clear q1
  try clear hx1
  try clear c2
  try clear p2
  try clear c3
  try clear c4
  try clear c4b0
  try clear c4b1
  try clear c5
  try clear c6
  try clear p6
  try clear c7
  try clear c8
  try clear c12
  try clear p12
  try clear q12
  try clear hx12
  try clear p13
  try clear q13
  try clear hx13
  try clear c17
  try clear c17b0
  try clear c19
  try clear c25
  try clear c25b0
  try clear c26
  try clear c26b0
  try clear c27
  try clear c27b0
  try clear c28
  try clear c28b0
  try clear c28b1
  try clear c29
  try clear c29b0
  try clear c29b1
  try clear c30
  try clear c32
  try clear c35
  try clear c35b0
  try clear c35b1
  try clear c46
  try clear c46b0
  try clear c47
  try clear c51
  try clear c51b0
  try clear c52
  try clear c53
  try clear c53b0
  try clear c54
  try clear c54b0
  try clear c59
  try clear c60
  try clear c61
  try clear c62
  try clear p64
  try clear hcz20_0
  try clear hcz22_0
  try clear hcz33_0
  try clear hcz48_0
  try clear hcz63_0
  try clear hfz20_0
  try clear hfz22_0
  try clear hfz33_0
  try clear hfz48_0
  try clear hfz63_0
  try clear hx121_0
  try clear hx132_0
  try clear p1
  try clear p12
  try clear p121
  try clear p132
  try clear p2
  try clear p6
  try clear q1
  try clear q12
  try clear q121
  try clear q132
  obtain ⟨x5_1, x16_1, x1001_1, x1002_1, rfl, HA, HK1, HO_5, BK101, HI0, HK, HB⟩ := hrel
  obtain _ | k1 := gk
  ·exact absurd HA.out (by simp [spec_l01DrawCode.l4])
  have H := HA.out
  clear HA
  simp only [spec_l01DrawCode.l4] at H
  by_cases c76 : x16_1 > 0
  rotate_left
  ·rw [if_neg c76] at H
   have c76b0 : decide (0 < x16_1) = false := decide_eq_false c76
   clear c76
   simp only [Option.some.injEq, Prod.mk.injEq] at H
   obtain ⟨rfl, rfl, rfl⟩ := H
   go_wp2
   go_ret
   exact ⟨_, t5_, rb_ HO_5.out, i_ HI0, gb_ HB.out, kb_ HK⟩

  rw [if_pos c76] at H
  have c76b0 : decide (0 < x16_1) = true := decide_eq_true c76
  clear c76
  replace H := Option.bind_eq_some_iff.mp H
  obtain ⟨t146, A770, H⟩ := H
  replace H : ((spec_l01Next.f s0_0 x1001_1 x1002_1 t146).bind fun bt147 => ((spec_l01Put.f k1 x5_1 bt147.1).bind fun t150 => (spec_l01DrawCode.l4 k1 t150 (wrap64 (x16_1 - 1)) s0_0 bt147.2.1 bt147.2.2 l1_0))) = some (r1, r2, r3) := H
  have A77 := Aside0.mk A770
  clear A770
  replace H := Option.bind_eq_some_iff.mp H
  obtain ⟨⟨t147, t148, t149⟩, A780, H⟩ := H
  replace H : ((spec_l01Put.f k1 x5_1 t147).bind fun t150 => (spec_l01DrawCode.l4 k1 t150 (wrap64 (x16_1 - 1)) s0_0 t148 t149 l1_0)) = some (r1, r2, r3) := H
  have A78 := Aside0.mk A780
  clear A780
  replace H := Option.bind_eq_some_iff.mp H
  obtain ⟨t150, A790, H⟩ := H
  replace H : (spec_l01DrawCode.l4 k1 t150 (wrap64 (x16_1 - 1)) s0_0 t148 t149 l1_0) = some (r1, r2, r3) := H
  have A79 := Aside0.mk A790
  clear A790
  have H' := Aside0.mk H
  clear H
  have hnb80 := NB101_0.out
  have hnc80 := NB0_101.out
  have hcz81_0 := hz_ BK101
  have hfz81_0 := blk_frozen BK101.out 0
  go_wp2_with (first | ((with_reducible refine gate_callee (f := 76) rfl ?_); refine gl_ (some 105) rfl rfl Try.func76 #[.agg #[.slice A1_0 l1_0.length c1_0]] rfl ?_; (with_reducible refine (spec_l01N.calls k1 _ _ l1_0 t146 _ ?side1 ?side2 A77.out).mono ?_); (case side1 => exact Kd.C_keep 0 HR1_0.out (kb_ HK) hf1_0); (case side2 => exact HC1_0.out); rintro e w82 ⟨rfl, hb⟩; refine ⟨_, rfl, ?_⟩; replace HO_5 := a1_ HO_5 hb; replace BK101 := a2_ BK101 hb; replace HI0 := i1_ HI0 hb; replace HK := k1_ HK hb; replace HB := b1_ HB hb; (try clear hb); (try clear hb2); (try clear hk); (try clear hi)) | ((with_reducible refine gate_callee (f := 85) rfl ?_); refine gl_ (some 106) rfl rfl Try.func85 #[.pointer (some ⟨g, 0, none⟩), .int .i64 t146] rfl ?_; (with_reducible refine (spec_l01Next.calls g s0_0 x1001_1 x1002_1 t146 t147 t148 t149 w0 _ ?side1 ?side2 A78.out).mono ?_); (case side1 => exact i_ HI0); (case side2 => exact gb_ HB.out); rintro e w83 ⟨rfl, hi, hb, hk⟩; refine ⟨_, rfl, ?_⟩; replace HO_5 := kr_ HI0 HO_5 hk; replace BK101 := kx_ BK101 NB101_0 hk; replace HK := Aside0.mk (KeepBut.trans (kb_ HK) hk (.inl rfl)); replace HB := Aside0.mk (hb); replace HI0 := Aside0.mk (hi); (try clear hb); (try clear hb2); (try clear hk); (try clear hi); obtain ⟨Ao84, co84, eo84⟩ := Kd.R_slice HO_5.out; subst eo84) | ((with_reducible refine gate_callee (f := 127) rfl ?_); refine gl_ (some 107) rfl rfl Try.func127 #[.slice Ao84 x5_1.length co84, .int .i64 t147] rfl ?_; (with_reducible refine (spec_l01Put.calls k1 (fun k_ => some k_ = (.slice Ao84 x5_1.length co84 : Value).ownBlock) (.slice Ao84 x5_1.length co84) x5_1 t147 t150 w0 _ ?side1 ?side2 A79.out).mono ?_); (case side1 => exact gb_ HB.out); (case side2 => exact Kd.R_lower (Kd.R_tight rfl HO_5.out) HL.out); rintro e w85 ⟨v151, rfl, ho0, hb, hkp⟩; refine ⟨_, rfl, ?_⟩; have n0_ := a7_ BK101 hkp HO_5; have n1_ := Aside0.mk (IsS91.kept (i_ HI0) hkp (fun hs_ => (fun e_ => (IsS91.own_ne HI0.out HO_5.out (by decide)) e_) hs_)); have n2_ := Aside0.mk (Kd.R_mono (ok' := fun k_ => True) (Kd.R_raise (d := (Kd.int .i64)) (b := w0.heap.size) (b' := w.heap.size) (fun _ _ _ _ h_ => h_) ho0 (fun k_ e_ => Or.elim (ho0.1 k_ e_) (fun hs_ => (fun e_ => Kd.R_base HO_5.out k_ e_.symm) hs_) (fun hn_ => Nat.le_trans (keep_size (w := w) (g := g) (row := none) (kb_ HK)) hn_))) (fun k_ hk_ => trivial)); have n3_ := Aside0.mk (Kept.keepG (kb_ HK) hkp (fun k_ hs_ => (fun e_ => .inr (Kd.R_base HO_5.out k_ e_.symm)) hs_)); have n4_ := Aside0.mk (hb); clear BK101 HI0 HK HB HO_5; have BK101 := n0_; have HI0 := n1_; have HO152 := n2_; have HK := n3_; have HB := n4_; clear n0_ n1_ n2_ n3_ n4_; (try clear hb); (try clear hkp); (try clear ho0)))
  go_roundg k1
  case measure => have := HK1.out; omega
  case rel => exact ⟨(t150), (wrap64 (x16_1 - 1)), (t148), (t149), t2_, H', ⟨by have := HK1.out; omega⟩, ⟨rb_ HO152.out⟩, ⟨bb_ BK101.out⟩, ⟨i_ HI0⟩, ⟨kb_ HK⟩, ⟨gb_ HB.out⟩⟩
 rw [if_pos c35] at H
 have c35b0 : (t105 == 1) = true := beq_iff_eq.mpr c35
 have c35b1 : (t105 != 1) = false := bne_eq_false_iff_eq.mpr c35
 clear c35
 obtain ⟨y125, hy125⟩ : ∃ y_ : List Int, y_ = (([2, 3, 3] : List Int)) := ⟨_, rfl⟩
 replace H : ((spec_l01Pick.f s0_0 t106 t107 y125).bind fun bt128 => (spec_l01DrawCode.l2 k y102 bt128.1 0 s0_0 bt128.2.1 bt128.2.2 l1_0)) = some (r1, r2, r3) := y_ H
 have Ny125 := Aside0.mk hy125
 clear hy125
 replace H := Option.bind_eq_some_iff.mp H
 obtain ⟨⟨t128, t129, t130⟩, A360, H⟩ := H
 replace H : (spec_l01DrawCode.l2 k y102 t128 0 s0_0 t129 t130 l1_0) = some (r1, r2, r3) := H
 have A36 := Aside0.mk A360
 clear A360
 have H' := Aside0.mk H
 clear H
 go_enter Try.func121, Try.ntmps121
 go_wp2_with (first | ((with_reducible refine gate_dst (N := 3) rfl ?_); refine bx_ (N := 3) (cs := #[.slice A1_0 l1_0.length c1_0]) (t := 26) rfl rfl ?_; intro gb101 hg w37 hbox hb; have n0_ := i1_ HI0 hb; have n1_ := k1_ HK hb; have n2_ := b1_ HB hb; have n3_ := Aside0.mk (hbox); have n4_ := gk_ hg HK; have n5_ := Aside0.mk ((Nat.le_trans HW0.out (by rw [hg]; exact (keep_size (w := w) (g := g) (row := none) (kb_ HK)) : w.heap.size ≤ gb101) : w0.heap.size ≤ gb101)); have n6_ := il_ hg HI0; have n7_ := ir_ hg HI0; clear HI0 HK HB; have HI0 := n0_; have HK := n1_; have HB := n2_; have BK101 := n3_; have GW101 := n4_; have GE101 := n5_; have NB0_101 := n6_; have NB101_0 := n7_; clear n0_ n1_ n2_ n3_ n4_ n5_ n6_ n7_ hb hbox hg) | ((with_reducible refine gate_dst (N := 17) rfl ?_); refine Kd.R_lit (Kd.int .i64) _ 2 ?hg (N := 17) ?hd (xs := ([] : List Int)) (inner := []) (ok := fun _ => True) (okp := fun _ => True) ?hr ?hp (fun _ hk => hk) trivial (Below.refl _ _) (Nat.le_refl _) (by simp) ?_; (case hd => rfl); (case hg => rfl); (case hr => exact t3_); (case hp => exact (Reps.none _ _)); intro v103 w38 ho39 hb hg_ hnew_; clear hg_ hnew_; (first | rw [← Ny102.out] at ho39 | (simp only [Int.reduceToNat] at ho39; rw [← Ny102.out] at ho39)); have n0_ := Aside0.mk (Kd.R_lower ho39 (keep_size (w := w) (g := g) (row := none) (kb_ HK))); have n1_ := i1_ HI0 hb; have n2_ := a2_ BK101 hb; have n3_ := k1_ HK hb; have n4_ := b1_ HB hb; clear HI0 BK101 HK HB; have HO104 := n0_; have HI0 := n1_; have BK101 := n2_; have HK := n3_; have HB := n4_; clear n0_ n1_ n2_ n3_ n4_ hb ho39) | ((with_reducible refine gate_callee (f := 85) rfl ?_); refine gl_ (some 19) rfl rfl Try.func85 #[.pointer (some ⟨g, 0, none⟩), .int .i64 4] rfl ?_; (with_reducible refine (spec_l01Next.calls g s0_0 s0_1 s0_2 4 t105 t106 t107 w0 _ ?side1 ?side2 A3.out).mono ?_); (case side1 => exact i_ HI0); (case side2 => exact gb_ HB.out); rintro e w40 ⟨rfl, hi, hb, hk⟩; refine ⟨_, rfl, ?_⟩; replace BK101 := kx_ BK101 NB101_0 hk; replace HO104 := kr_ HI0 HO104 hk; replace HK := Aside0.mk (KeepBut.trans (kb_ HK) hk (.inl rfl)); replace HB := Aside0.mk (hb); replace HI0 := Aside0.mk (hi); (try clear hb); (try clear hb2); (try clear hk); (try clear hi)) | ((with_reducible refine gate_dst (N := 61) rfl ?_); refine Kd.R_lit (Kd.int .i64) _ 2 ?hg (N := 61) ?hd (xs := ([2, 3, 3] : List Int)) (inner := [.int .i64 2, .int .i64 3, .int .i64 3]) (ok := fun _ => True) (okp := fun _ => True) ?hr ?hp (fun _ hk => hk) trivial (Below.refl _ _) (Nat.le_refl _) (by simp) ?_; (case hd => rfl); (case hg => rfl); (case hr => exact t3_); (case hp => exact (Reps.one (show Kd.M (Kd.int .i64) _ _ _ 2 [.int .i64 2] from rfl) (Reps.one (show Kd.M (Kd.int .i64) _ _ _ 3 [.int .i64 3] from rfl) (Reps.one (show Kd.M (Kd.int .i64) _ _ _ 3 [.int .i64 3] from rfl) (Reps.none _ _))))); intro v126 w41 ho42 hb hg_ hnew_; clear hg_ hnew_; (first | rw [← Ny125.out] at ho42 | (simp only [Int.reduceToNat] at ho42; rw [← Ny125.out] at ho42)); have n0_ := a5_ HO104 ho42 hb; have n1_ := Aside0.mk (Kd.R_lower (Kd.R_new' ho42 (Kd.R_lt (rb_ HO104.out))) (keep_size (w := w) (g := g) (row := none) (kb_ HK))); have n2_ := i1_ HI0 hb; have n3_ := a2_ BK101 hb; have n4_ := k1_ HK hb; have n5_ := b1_ HB hb; clear HO104 HI0 BK101 HK HB; have HO104 := n0_; have HO127 := n1_; have HI0 := n2_; have BK101 := n3_; have HK := n4_; have HB := n5_; clear n0_ n1_ n2_ n3_ n4_ n5_ hb ho42; obtain ⟨Ao43, co43, eo43⟩ := Kd.R_slice HO127.out; subst eo43) | ((with_reducible refine gate_callee (f := 82) rfl ?_); refine gl_ (some 62) rfl rfl Try.func82 #[.pointer (some ⟨g, 0, none⟩), .slice Ao43 y125.length co43] rfl ?_; (with_reducible refine (spec_l01Pick.calls g s0_0 t106 t107 _ _ y125 t128 t129 t130 w0 _ ?side1 ?side2 ?side3 ?side4 ?side5 A36.out).mono ?_); (case side1 => exact i_ HI0); (case side2 => exact gb_ HB.out); (case side3 => exact c1_ HO127); (case side4 => exact (Kd.R_reads' HO127.out).2.1); (case side5 => exact far_slice (IsS91.own_ne HI0.out HO127.out (by decide))); rintro e w44 ⟨rfl, hi, hb, hk⟩; refine ⟨_, rfl, ?_⟩; replace BK101 := kx_ BK101 NB101_0 hk; replace HO104 := kr_ HI0 HO104 hk; replace HO127 := kr_ HI0 HO127 hk; replace HK := Aside0.mk (KeepBut.trans (kb_ HK) hk (.inl rfl)); replace HB := Aside0.mk (hb); replace HI0 := Aside0.mk (hi); (try clear hb); (try clear hb2); (try clear hk); (try clear hi)))
 go_loopg [5, 13] k (fun kq v5 v13 w' => ∃ (x5_1 : List Int) (x13_1 : Int), v13 = .int .i64 x13_1 ∧ Aside0 (spec_l01DrawCode.l2 kq x5_1 t128 x13_1 s0_0 t129 t130 l1_0 = some (r1, r2, r3)) ∧ Aside0 (kq ≤ k) ∧ Aside0 (Kd.R (Kd.int .i64) 2 w' w.heap.size (fun _ => True) v5 x5_1) ∧ Aside0 (w'.heap[gb101]? = some (.cells #[(.slice A1_0 l1_0.length c1_0)] 26 (0, 0))) ∧ Aside0 (IsS91 w0 w' g s0_0 t129 t130) ∧ Aside0 (KeepBut w w' g none) ∧ Aside0 (Below w0.heap.size w0 w'))
 case atStart => exact ⟨(y102), (0), t2_, H', ⟨Nat.le_refl _⟩, ⟨by (with_reducible repeat (first | apply Kd.R_alloc | apply Kd.R_drewN | apply Kd.R_drew)); exact Kd.R_mono HO104.out (fun _ hk => trivial)⟩, ⟨bb_ BK101.out⟩, ⟨i_ HI0⟩, ⟨kb_ HK⟩, ⟨gb_ HB.out⟩⟩
 clear H'
 try clear c1
 try clear p1
 try clear q1
 try clear hx1
 try clear c2
 try clear p2
 try clear c3
 try clear c4
 try clear c4b0
 try clear c4b1
 try clear c6
 try clear p6
 try clear c7
 try clear c8
 try clear c12
 try clear p12
 try clear q12
 try clear hx12
 try clear c17
 try clear c17b0
 try clear c19
 try clear c25
 try clear c25b0
 try clear c26
 try clear c26b0
 try clear c27
 try clear c27b0
 try clear c28
 try clear c28b0
 try clear c28b1
 try clear c29
 try clear c29b0
 try clear c29b1
 try clear c30
 try clear c32
 try clear c35
 try clear c35b0
 try clear c35b1
 try clear hcz20_0
 try clear hcz22_0
 try clear hcz33_0
 try clear hfz20_0
 try clear hfz22_0
 try clear hfz33_0
 try clear hx121_0
 try clear p121
 try clear p2
 try clear q121
 obtain ⟨x5_1, x13_1, rfl, HA, HK1, HO_5, BK101, HI0, HK, HB⟩ := hrel
 obtain _ | k1 := gk
 ·exact absurd HA.out (by simp [spec_l01DrawCode.l2])
 have H := HA.out
 clear HA
 simp only [spec_l01DrawCode.l2] at H
 replace H := Option.bind_eq_some_iff.mp H
 obtain ⟨t131, A450, H⟩ := H
 replace H : (if x13_1 < t131 then (spec_l01DrawCode.l3 k1 x5_1 t128 x13_1 true (x5_1.length : Int) 0 s0_0 t129 t130 l1_0) else (some (x5_1, t129, t130))) = some (r1, r2, r3) := H
 have A45 := Aside0.mk A450
 clear A450
 by_cases c46 : x13_1 < t131
 rotate_left
 ·rw [if_neg c46] at H
  have c46b0 : decide (x13_1 < t131) = false := decide_eq_false c46
  clear c46
  simp only [Option.some.injEq, Prod.mk.injEq] at H
  obtain ⟨rfl, rfl, rfl⟩ := H
  have hnb62 := NB101_0.out
  have hnc62 := NB0_101.out
  have hcz63_0 := hz_ BK101
  have hfz63_0 := blk_frozen BK101.out 0
  go_wp2_with (first | ((with_reducible refine gate_callee (f := 76) rfl ?_); refine gl_ (some 65) rfl rfl Try.func76 #[.agg #[.slice A1_0 l1_0.length c1_0]] rfl ?_; (with_reducible refine (spec_l01N.calls k1 _ _ l1_0 t131 _ ?side1 ?side2 A45.out).mono ?_); (case side1 => exact Kd.C_keep 0 HR1_0.out (kb_ HK) hf1_0); (case side2 => exact HC1_0.out); rintro e w64 ⟨rfl, hb⟩; refine ⟨_, rfl, ?_⟩; replace HO_5 := a1_ HO_5 hb; replace BK101 := a2_ BK101 hb; replace HI0 := i1_ HI0 hb; replace HK := k1_ HK hb; replace HB := b1_ HB hb; (try clear hb); (try clear hb2); (try clear hk); (try clear hi)))
  go_ret
  exact ⟨_, t5_, rb_ HO_5.out, i_ HI0, gb_ HB.out, kb_ HK⟩
 rw [if_pos c46] at H
 have c46b0 : decide (x13_1 < t131) = true := decide_eq_true c46
 clear c46
 have H' := Aside0.mk H
 clear H
 have hnb47 := NB101_0.out
 have hnc47 := NB0_101.out
 have hcz48_0 := hz_ BK101
 have hfz48_0 := blk_frozen BK101.out 0
 go_wp2_with (first | ((with_reducible refine gate_callee (f := 76) rfl ?_); refine gl_ (some 65) rfl rfl Try.func76 #[.agg #[.slice A1_0 l1_0.length c1_0]] rfl ?_; (with_reducible refine (spec_l01N.calls k1 _ _ l1_0 t131 _ ?side1 ?side2 A45.out).mono ?_); (case side1 => exact Kd.C_keep 0 HR1_0.out (kb_ HK) hf1_0); (case side2 => exact HC1_0.out); rintro e w49 ⟨rfl, hb⟩; refine ⟨_, rfl, ?_⟩; replace HO_5 := a1_ HO_5 hb; replace BK101 := a2_ BK101 hb; replace HI0 := i1_ HI0 hb; replace HK := k1_ HK hb; replace HB := b1_ HB hb; (try clear hb); (try clear hb2); (try clear hk); (try clear hi); obtain ⟨Ao50, co50, eo50⟩ := Kd.R_slice HO_5.out; subst eo50))
 go_loopg [14, 71] k1 (fun kq v14 v71 w' => ∃ (x14_2 : Bool) (x71_2 : Int), v14 = .bool x14_2 ∧ v71 = .int .i64 x71_2 ∧ Aside0 (spec_l01DrawCode.l3 kq x5_1 t128 x13_1 x14_2 (x5_1.length : Int) x71_2 s0_0 t129 t130 l1_0 = some (r1, r2, r3)) ∧ Aside0 (kq ≤ k1) ∧ Aside0 (Kd.R (Kd.int .i64) 2 w' w.heap.size (fun _ => True) (.slice Ao50 x5_1.length co50) x5_1) ∧ Aside0 (w'.heap[gb101]? = some (.cells #[(.slice A1_0 l1_0.length c1_0)] 26 (0, 0))) ∧ Aside0 (IsS91 w0 w' g s0_0 t129 t130) ∧ Aside0 (KeepBut w w' g none) ∧ Aside0 (Below w0.heap.size w0 w'))
 case atStart => exact ⟨(true), (0), t2_, t2_, H', ⟨Nat.le_refl _⟩, ⟨rb_ HO_5.out⟩, ⟨bb_ BK101.out⟩, ⟨i_ HI0⟩, ⟨kb_ HK⟩, ⟨gb_ HB.out⟩⟩
 clear H'
 try clear c1
 try clear p1
 try clear q1
 try clear hx1
 try clear c2
 try clear p2
 try clear c3
 try clear c4
 try clear c4b0
 try clear c4b1
 try clear c6
 try clear p6
 try clear c7
 try clear c8
 try clear c12
 try clear p12
 try clear q12
 try clear hx12
 try clear c17
 try clear c17b0
 try clear c19
 try clear c25
 try clear c25b0
 try clear c26
 try clear c26b0
 try clear c27
 try clear c27b0
 try clear c28
 try clear c28b0
 try clear c28b1
 try clear c29
 try clear c29b0
 try clear c29b1
 try clear c30
 try clear c32
 try clear c35
 try clear c35b0
 try clear c35b1
 try clear c46
 try clear c46b0
 try clear c47
 try clear hcz20_0
 try clear hcz22_0
 try clear hcz33_0
 try clear hcz48_0
 try clear hfz20_0
 try clear hfz22_0
 try clear hfz33_0
 try clear hfz48_0
 try clear hx121_0
 try clear p1
 try clear p12
 try clear p121
 try clear p2
 try clear p6
 try clear q1
 try clear q12
 try clear q121
 obtain ⟨x14_2, x71_2, rfl, rfl, HA, HK2, HO_5, BK101, HI0, HK, HB⟩ := hrel
 obtain _ | k2 := gk
 ·exact absurd HA.out (by simp [spec_l01DrawCode.l3])
 have H := HA.out
 clear HA
 simp only [spec_l01DrawCode.l3] at H
 by_cases c51 : x71_2 < (x5_1.length : Int)
 rotate_left
 ·rw [if_neg c51] at H
  have c51b0 : decide (x71_2 < (x5_1.length : Int)) = false := decide_eq_false c51
  clear c51
  by_cases c59 : x14_2 = true
  rotate_left
  ·replace c59 := Bool.eq_false_iff.mpr c59
   subst c59
   have H1 : (spec_l01DrawCode.l2 k2 x5_1 t128 (wrap64 (x13_1 + 1)) s0_0 t129 t130 l1_0) = some (r1, r2, r3) := by rw [if_neg (show ¬ (false = true) by decide)] at H; exact H
   clear H
   have H := H1
   clear H1
   have H' := Aside0.mk H
   clear H
   go_wp2
   go_roundg k2
   case measure => have := HK1.out; have := HK2.out; omega
   case rel => exact ⟨(x5_1), (wrap64 (x13_1 + 1)), t2_, H', ⟨by have := HK1.out; have := HK2.out; omega⟩, ⟨rb_ HO_5.out⟩, ⟨bb_ BK101.out⟩, ⟨i_ HI0⟩, ⟨kb_ HK⟩, ⟨gb_ HB.out⟩⟩
  subst c59
  have H1 : (if x5_1.length < 17592186044416 then (spec_l01DrawCode.l2 k2 (x5_1 ++ [x13_1]) t128 (wrap64 (x13_1 + 1)) s0_0 t129 t130 l1_0) else (none)) = some (r1, r2, r3) := by rw [if_pos rfl] at H; exact H
  clear H
  have H := H1
  clear H1
  by_cases c60 : x5_1.length < 17592186044416
  rotate_left
  ·rw [if_neg c60] at H
   exact absurd H (by simp)
  rw [if_pos c60] at H
  have LMc60 := Aside0.mk c60
  clear c60
  obtain ⟨y134, hy134⟩ : ∃ y_ : List Int, y_ = (x5_1 ++ [x13_1]) := ⟨_, rfl⟩
  replace H : (spec_l01DrawCode.l2 k2 y134 t128 (wrap64 (x13_1 + 1)) s0_0 t129 t130 l1_0) = some (r1, r2, r3) := y_ H
  have Ny134 := Aside0.mk hy134
  clear hy134
  have H' := Aside0.mk H
  clear H
  go_wp2_with (first | ((with_reducible refine gate_builtin (b := .append) (xs := #[.tmp 88, .tmp 90]) rfl ?_); at_builtin; refine Kd.R_append (Kd.int .i64) w.heap.size rfl (.tmp 88) (.tmp 90) 24 2 (.int .i64 0) 8 rfl Try.underlying24 info2 rfl (by decide) (by omega) (.slice Ao50 x5_1.length co50) x5_1 x13_1 [.int .i64 x13_1] (fun _ => True) (fun _ => False) rfl rfl ?aP (fun _ hk => hk.elim) ?aF ?aO (Below.refl _ _) ?aS ?aL ?_; (case aP => exact rfl); (case aF => exact (fun _ _ => trivial)); (case aO => exact (rb_ HO_5.out)); (case aS => exact (keep_size (w := w) (g := g) (row := none) (kb_ HK))); (case aL => have := LMc60.out; omega); intro v135 w61 ho hb hg hat; rw [← Ny134.out] at ho; have n0_ := Aside0.mk (blk_grown (g := gb101) (o := .cells #[.slice A1_0 l1_0.length c1_0] 26 (0, 0)) (bb_ BK101.out) hg (Kd.R_ne HO_5.out BK101.out (by decide))); have n1_ := Aside0.mk (IsS91.grown (i_ HI0) hg (IsS91.own_ne HI0.out HO_5.out (by decide))); have n2_ := Aside0.mk (below_weaken (gb_ HB.out) HL.out hb); have n3_ := Aside0.mk (KeepBut.trans (kb_ HK) (KeepBut.of_grown hg g) (Kd.R_base2 HO_5.out)); have n4_ := Aside0.mk (ho); clear BK101 HI0 HB HK HO_5; have BK101 := n0_; have HI0 := n1_; have HB := n2_; have HK := n3_; have HO136 := n4_; clear n0_ n1_ n2_ n3_ n4_ ho hb hg hat))
  go_roundg k2
  case measure => have := HK1.out; have := HK2.out; omega
  case rel => exact ⟨(y134), (wrap64 (x13_1 + 1)), t2_, H', ⟨by have := HK1.out; have := HK2.out; omega⟩, ⟨rb_ HO136.out⟩, ⟨bb_ BK101.out⟩, ⟨i_ HI0⟩, ⟨kb_ HK⟩, ⟨gb_ HB.out⟩⟩
 rw [if_pos c51] at H
 have c51b0 : decide (x71_2 < (x5_1.length : Int)) = true := decide_eq_true c51
 clear c51
 by_cases c52 : x14_2 = true
 rotate_left
 ·replace c52 := Bool.eq_false_iff.mpr c52
  subst c52
  have H1 : (spec_l01DrawCode.l3 k2 x5_1 t128 x13_1 false (x5_1.length : Int) (wrap64 (x71_2 + 1)) s0_0 t129 t130 l1_0) = some (r1, r2, r3) := by rw [if_neg (show ¬ (false = true) by decide)] at H; exact H
  clear H
  have H := H1
  clear H1
  have H' := Aside0.mk H
  clear H
  try go_wp2
  replace HO_5 := Aside0.mk (Kd.R_drew HO_5.out)
  replace BK101 := Aside0.mk (blk_drew BK101.out)
  replace HI0 := Aside0.mk (IsS91.drew HI0.out)
  replace HK := Aside0.mk (keep_drew HK.out)
  replace HB := Aside0.mk (below_drew1 HB.out)
  refine start_ (n := 13) (S := fun w' => True) (ds := []) #[false, false, false, false, false, false, false, false, false, false, false, false, false] (by kernel_rfl) rfl rfl trivial (fun hHeld => ?_); refine with_tabW spec_l01DrawCode.tab26 spec_l01DrawCode.bits26 (fun HT_ HW_ => ?_)
  generalize wr.drew = w58 at HO_5 BK101 HI0 HK HB hHeld ⊢
  refine pu_ (i := 0) (N := some 74) (v := ?_) (a' := ?_) #[true, false, false, false, false, false, false, false, false, false, false, false, false] rfl rfl HT_ (Or.inl ⟨by rfl, ?_⟩) ?_ ?_
  rotate_left
  ·exact t7_
  rotate_left
  ·exact t4_
  refine pu_ (i := 1) (N := some 75) (v := ?_) (a' := ?_) #[true, true, false, false, false, false, false, false, false, false, false, false, false] rfl rfl HT_ (Or.inl ⟨by rfl, ?_⟩) ?_ ?_
  rotate_left
  ·exact t7_
  rotate_left
  ·exact t4_
  refine pu_ (i := 2) (N := some 76) (v := undef) (a' := ?_) #[true, true, true, false, false, false, false, false, false, false, false, false, false] rfl rfl HT_ (Or.inr ⟨by rfl, rfl⟩) ?_ ?_
  rotate_left
  ·exact t4_
  refine pu_ (i := 3) (N := some 77) (v := undef) (a' := ?_) #[true, true, true, true, false, false, false, false, false, false, false, false, false] rfl rfl HT_ (Or.inr ⟨by rfl, rfl⟩) ?_ ?_
  rotate_left
  ·exact t4_
  refine pu_ (i := 4) (N := some 78) (v := undef) (a' := ?_) #[true, true, true, true, true, false, false, false, false, false, false, false, false] rfl rfl HT_ (Or.inr ⟨by rfl, rfl⟩) ?_ ?_
  rotate_left
  ·exact t4_
  refine pu_ (i := 5) (N := some 79) (v := undef) (a' := ?_) #[true, true, true, true, true, true, false, false, false, false, false, false, false] rfl rfl HT_ (Or.inr ⟨by rfl, rfl⟩) ?_ ?_
  rotate_left
  ·exact t4_
  refine pu_ (i := 6) (N := some 80) (v := undef) (a' := ?_) #[true, true, true, true, true, true, true, false, false, false, false, false, false] rfl rfl HT_ (Or.inr ⟨by rfl, rfl⟩) ?_ ?_
  rotate_left
  ·exact t4_
  refine pu_ (i := 7) (N := some 81) (v := undef) (a' := ?_) #[true, true, true, true, true, true, true, true, false, false, false, false, false] rfl rfl HT_ (Or.inr ⟨by rfl, rfl⟩) ?_ ?_
  rotate_left
  ·exact t4_
  refine pu_ (i := 8) (N := some 82) (v := undef) (a' := ?_) #[true, true, true, true, true, true, true, true, true, false, false, false, false] rfl rfl HT_ (Or.inr ⟨by rfl, rfl⟩) ?_ ?_
  rotate_left
  ·exact t4_
  refine pu_ (i := 9) (N := some 83) (v := undef) (a' := ?_) #[true, true, true, true, true, true, true, true, true, true, false, false, false] rfl rfl HT_ (Or.inr ⟨by rfl, rfl⟩) ?_ ?_
  rotate_left
  ·exact t4_
  refine pu_ (i := 10) (N := some 84) (v := undef) (a' := ?_) #[true, true, true, true, true, true, true, true, true, true, true, false, false] rfl rfl HT_ (Or.inr ⟨by rfl, rfl⟩) ?_ ?_
  rotate_left
  ·exact t4_
  refine pu_ (i := 11) (N := some 85) (v := ?_) (a' := ?_) #[true, true, true, true, true, true, true, true, true, true, true, true, false] rfl rfl HT_ (Or.inl ⟨by rfl, ?_⟩) ?_ ?_
  rotate_left
  ·exact t7_
  rotate_left
  ·exact t4_
  refine pu_ (i := 12) (N := some 14) (v := ?_) (a' := ?_) #[true, true, true, true, true, true, true, true, true, true, true, true, true] rfl rfl HT_ (Or.inl ⟨by rfl, ?_⟩) ?_ ?_
  rotate_left
  ·exact t7_
  rotate_left
  ·exact t4_
  refine done_ (done_of HT_.out (by kernel_rfl)) ?_
  try go_wp2
  go_roundg k2
  case measure => have := HK1.out; have := HK2.out; omega
  case rel => exact ⟨(false), (wrap64 (x71_2 + 1)), t2_, t2_, H', ⟨by have := HK1.out; have := HK2.out; omega⟩, ⟨rb_ HO_5.out⟩, ⟨bb_ BK101.out⟩, ⟨i_ HI0⟩, ⟨kb_ HK⟩, ⟨gb_ HB.out⟩⟩
 subst c52
 have H1 : (if 0 ≤ x71_2 then (if x71_2 < (x5_1.length : Int) then ((spec_l01Distance.f k2 l1_0 (rd x5_1 x71_2) x13_1).bind fun t133 => (spec_l01DrawCode.l3 k2 x5_1 t128 x13_1 (decide (t133 ≥ t128)) (x5_1.length : Int) (wrap64 (x71_2 + 1)) s0_0 t129 t130 l1_0)) else (none)) else (none)) = some (r1, r2, r3) := by rw [if_pos rfl] at H; exact H
 clear H
 have H := H1
 clear H1
 by_cases c53 : 0 ≤ x71_2
 rotate_left
 ·rw [if_neg c53] at H
  exact absurd H (by simp)
 rw [if_pos c53] at H
 have c53b0 : decide (0 ≤ x71_2) = true := decide_eq_true c53
 clear c53
 by_cases c54 : x71_2 < (x5_1.length : Int)
 rotate_left
 ·rw [if_neg c54] at H
  exact absurd H (by simp)
 rw [if_pos c54] at H
 have c54b0 : decide (x71_2 < (x5_1.length : Int)) = true := decide_eq_true c54
 clear c54
 replace H := Option.bind_eq_some_iff.mp H
 obtain ⟨t133, A550, H⟩ := H
 replace H : (spec_l01DrawCode.l3 k2 x5_1 t128 x13_1 (decide (t133 ≥ t128)) (x5_1.length : Int) (wrap64 (x71_2 + 1)) s0_0 t129 t130 l1_0) = some (r1, r2, r3) := H
 have A55 := Aside0.mk A550
 clear A550
 have H' := Aside0.mk H
 clear H
 try go_wp2
 replace HO_5 := Aside0.mk (Kd.R_drew HO_5.out)
 replace BK101 := Aside0.mk (blk_drew BK101.out)
 replace HI0 := Aside0.mk (IsS91.drew HI0.out)
 replace HK := Aside0.mk (keep_drew HK.out)
 replace HB := Aside0.mk (below_drew1 HB.out)
 have p132 : 0 ≤ (x71_2 : Int) := of_decide_eq_true t6_
 have q132 : x71_2 < (x5_1.length : Int) := of_decide_eq_true t6_
 obtain ⟨ad132, e132, hx132_0⟩ := Kd.at_int (Kd.R_reads' HO_5.out).2.2 x71_2 p132 q132
 cases e132
 replace p132 := eq_true p132
 replace q132 := eq_true q132
 refine start_ (n := 13) (S := fun w' => w'.cell? ⟨gb101, 0, none⟩ = some (.slice A1_0 l1_0.length c1_0) ∧ w'.cell? (ad132.add (x71_2).toNat) = some (.int .i64 (rd x5_1 x71_2))) (ds := []) #[false, false, false, false, false, false, false, false, false, false, false, false, false] (by kernel_rfl) rfl rfl ⟨(blk_cell BK101.out 0).trans rfl, hx132_0⟩ (fun hHeld => ?_); refine with_tabW spec_l01DrawCode.tab26 spec_l01DrawCode.bits26 (fun HT_ HW_ => ?_)
 generalize wr.drew = w56 at HO_5 BK101 HI0 HK HB hx132_0 hHeld ⊢
 refine pu_ (i := 0) (N := some 74) (v := ?_) (a' := ?_) #[true, false, false, false, false, false, false, false, false, false, false, false, false] rfl rfl HT_ (Or.inl ⟨by rfl, ?_⟩) ?_ ?_
 rotate_left
 ·exact t7_
 rotate_left
 ·exact t4_
 refine pu_ (i := 1) (N := some 75) (v := ?_) (a' := ?_) #[true, true, false, false, false, false, false, false, false, false, false, false, false] rfl rfl HT_ (Or.inl ⟨by rfl, ?_⟩) ?_ ?_
 rotate_left
 ·exact t7_
 rotate_left
 ·exact t4_
 refine pu_ (i := 3) (N := some 77) (v := ?_) (a' := ?_) #[true, true, false, true, false, false, false, false, false, false, false, false, false] rfl rfl HT_ (Or.inl ⟨by rfl, ?_⟩) ?_ ?_
 rotate_left
 ·exact t7_
 rotate_left
 ·exact t4_
 refine pu_ (i := 4) (N := some 78) (v := ?_) (a' := ?_) #[true, true, false, true, true, false, false, false, false, false, false, false, false] rfl rfl HT_ (Or.inl ⟨by rfl, ?_⟩) ?_ ?_
 rotate_left
 ·exact t7_
 rotate_left
 ·exact t4_
 refine pu_ (i := 5) (N := some 79) (v := ?_) (a' := ?_) #[true, true, false, true, true, true, false, false, false, false, false, false, false] rfl rfl HT_ (Or.inl ⟨by rfl, ?_⟩) ?_ ?_
 rotate_left
 ·exact t7_
 rotate_left
 ·exact t4_
 refine pu_ (i := 7) (N := some 81) (v := ?_) (a' := ?_) #[true, true, false, true, true, true, false, true, false, false, false, false, false] rfl rfl HT_ (Or.inl ⟨by rfl, ?_⟩) ?_ ?_
 rotate_left
 ·exact t7_
 rotate_left
 ·exact t4_
 refine pu_ (i := 9) (N := some 83) (v := ?_) (a' := ?_) #[true, true, false, true, true, true, false, true, false, true, false, false, false] rfl rfl HT_ (Or.inl ⟨by rfl, ?_⟩) ?_ ?_
 rotate_left
 ·exact t7_
 rotate_left
 ·exact t4_
 refine tk_ (i := 2) (N := some 76) (v := ?_) (a' := ?_) #[true, true, true, true, true, true, false, true, false, true, false, false, false] rfl rfl HT_ HW_ (Or.inl ⟨by rfl, ?_⟩) hHeld ?_ ?_
 rotate_left
 ·rintro w' ⟨s0, s1⟩
  go_simp
  with_reducible rfl
 rotate_left
 ·exact t4_
 refine tk_ (i := 6) (N := some 80) (v := ?_) (a' := ?_) #[true, true, true, true, true, true, true, true, false, true, false, false, false] rfl rfl HT_ HW_ (Or.inl ⟨by rfl, ?_⟩) hHeld ?_ ?_
 rotate_left
 ·rintro w' ⟨s0, s1⟩
  go_simp
  with_reducible rfl
 rotate_left
 ·exact t4_
 refine on_ (i := 8) (N := some 82) #[true, true, true, true, true, true, true, true, true, true, false, false, false] rfl rfl HT_ (fun K hK => ?_)
 refine goes_ Try.func61 (by kernel_rfl) rfl #[.agg #[.slice A1_0 l1_0.length c1_0], .int .i64 (rd x5_1 x71_2), .int .i64 x13_1] (by rfl) rfl rfl t1_ ?_
 with_reducible refine (spec_l01Distance.calls k2 _ _ l1_0 (rd x5_1 x71_2) x13_1 t133 _ ?side1 ?side2 A55.out).mono ?_
 (case side1 => exact Kd.C_keep 0 HR1_0.out (kb_ HK) hf1_0)
 (case side2 => exact HC1_0.out)
 rintro e w57 ⟨rfl, hb⟩
 have HS1_ := (hb.cell (World.block_lt_of_cell? _ _ (hHeld.2))).trans (hHeld.2)
 refine ⟨_, rfl, ?_⟩
 replace HO_5 := a1_ HO_5 hb
 replace BK101 := a2_ BK101 hb
 replace HI0 := i1_ HI0 hb
 replace HK := k1_ HK hb
 replace HB := b1_ HB hb
 (try clear hb)
 (try clear hb2)
 (try clear hk)
 (try clear hi)
 refine hK.out _ _ ⟨(blk_cell BK101.out 0).trans rfl, HS1_⟩ (fun hHeld => ?_)
 clear hK K
 refine norm_ (a' := ?_) ?_ ?_
 rotate_left
 ·show Act.put _ (some 82) _ = _
  simp only [Act.put, List.setIfInBounds_toArray, List.set_cons_zero, List.set_cons_succ, i64_w, i32_w]
  rfl
 refine pu_ (i := 10) (N := some 84) (v := ?_) (a' := ?_) #[true, true, true, true, true, true, true, true, true, true, true, false, false] rfl rfl HT_ (Or.inl ⟨by rfl, ?_⟩) ?_ ?_
 rotate_left
 ·exact t7_
 rotate_left
 ·exact t4_
 refine pu_ (i := 11) (N := some 85) (v := ?_) (a' := ?_) #[true, true, true, true, true, true, true, true, true, true, true, true, false] rfl rfl HT_ (Or.inl ⟨by rfl, ?_⟩) ?_ ?_
 rotate_left
 ·exact t7_
 rotate_left
 ·exact t4_
 refine pu_ (i := 12) (N := some 14) (v := ?_) (a' := ?_) #[true, true, true, true, true, true, true, true, true, true, true, true, true] rfl rfl HT_ (Or.inl ⟨by rfl, ?_⟩) ?_ ?_
 rotate_left
 ·exact t7_
 rotate_left
 ·exact t4_
 refine done_ (done_of HT_.out (by kernel_rfl)) ?_
 try go_wp2
 go_roundg k2
 case measure => have := HK1.out; have := HK2.out; omega
 case rel => exact ⟨(decide (t133 ≥ t128)), (wrap64 (x71_2 + 1)), t2_, t2_, H', ⟨by have := HK1.out; have := HK2.out; omega⟩, ⟨rb_ HO_5.out⟩, ⟨bb_ BK101.out⟩, ⟨i_ HI0⟩, ⟨kb_ HK⟩, ⟨gb_ HB.out⟩⟩
end Go.Proofs.Ytlfipjdjmpdblaa.P
