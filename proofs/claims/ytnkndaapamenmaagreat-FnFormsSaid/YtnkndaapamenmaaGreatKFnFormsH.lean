/- What the law FnForms needs, part 8: words, walks of functions (each says that a call returns what the plain Lean function beside it says), plain lemmas. -/
import Derived.Test.YtnkndaapamenmaaGreatKFnFormsG
namespace Go.Proofs.YtnkndaapamenmaaGreat.P
open Go.RowKit Go.Proofs.YtnkndaapamenmaaGreatW.PrintWords Go.Proofs.YtnkndaapamenmaaGreatW.PrintLast Go.Proofs.YtnkndaapamenmaaGreatW.PrintMore
attribute [local go_sem] max2_int min2_int max_two min_two max_three min_three max_four min_four
set_option linter.unusedVariables false
set_option linter.unusedSimpArgs false
def spec_l01Shifted.l0 : Nat → List Int → Int → List Int → Int → Int → List Int → Option (List Int)
  | 0, _, _, _, _, _, _ => none
  | k + 1, x1, x2, x7, x11, x12, x102000 => if x12 < x11 then (if 0 ≤ x12 then (if x12 < (x1.length : Int) then ((spec_l01Sum.f k x102000 (rd x1 x12) x2).bind fun t106 => ((spec_l01Put.f k x7 t106).bind fun t107 => (spec_l01Shifted.l0 k x1 x2 t107 x11 (wrap64 (x12 + 1)) x102000))) else (none)) else (none)) else (some x7)
def spec_l01Shifted.f (k : Nat) (l0_0 : List Int) (l1 : List Int) (a2 : Int) : Option (List Int) := spec_l01Shifted.l0 k l1 a2 (([] : List Int)) (l1.length : Int) 0 l0_0
def spec_l01Shifted.T5 : Bool × List (List Nat × List Nat) := (true, [([], []), ([], []), ([], []), ([], []), ([2, 3], [2, 3]), ([4], [4]), ([], []), ([1, 5, 6], [1, 5, 6]), ([0, 7, 7], [0, 7]), ([8, 8, 0, 1, 2, 3, 4, 5, 6, 7, 8], [0, 8])])
def spec_l01Shifted.B5 : List Nat := [0, 0, 0, 0, 12, 28, 0, 126, 255, 511]
theorem spec_l01Shifted.tab5 : rtab .any (opsOf Tryz.f54 5) = spec_l01Shifted.T5 := by kernel_rfl
theorem spec_l01Shifted.bits5 : waitsOk spec_l01Shifted.T5.2 spec_l01Shifted.B5 = true := by kernel_rfl
set_option maxHeartbeats 8000000 in
set_option maxRecDepth 100000 in
theorem spec_l01Shifted.calls (k : Nat) (A0_0 : Option Addr) (c0_0 : Nat) (l0_0 : List Int) (A1 : Option Addr) (c1 : Nat) (l1 : List Int) (a2 : Int) (r : List Int) (w : World) (hr0_0 : Kd.C (Kd.int .i64) w A0_0 l0_0.length l0_0) (hc0_0 : l0_0.length ≤ c0_0) (hr1 : Kd.C (Kd.int .i64) w A1 l1.length l1) (hc1 : l1.length ≤ c1) (h : spec_l01Shifted.f k l0_0 l1 a2 = some r) :
  Calls Tryz.prog 54 #[.agg #[.slice A0_0 l0_0.length c0_0], .slice A1 l1.length c1, .int .i64 a2] w fun e w' => ∃ v0_ : Value, e = .returned (v0_) ∧ Kd.R (Kd.int .i64) 2 w' w.heap.size (fun _ => True) v0_ r ∧ Below w.heap.size w w' := by
 have hu26 := Tryz.underlying26
 have HR0_0 := Aside0.mk hr0_0
 have HC0_0 := Aside0.mk hc0_0
 clear hr0_0 hc0_0
 have HR1 := Aside0.mk hr1
 have HC1 := Aside0.mk hc1
 clear hr1 hc1
 have HB := Aside0.mk (Below.refl w.heap.size w)
 have H := h
 clear h
 unfold spec_l01Shifted.f at H
 obtain ⟨y102, hy102⟩ : ∃ y_ : List Int, y_ = (([] : List Int)) := ⟨_, rfl⟩
 replace H : (spec_l01Shifted.l0 k l1 a2 y102 (l1.length : Int) 0 l0_0) = some r := y_ H
 have Ny102 := Aside0.mk hy102
 clear hy102
 have H' := Aside0.mk H
 clear H
 go_enter Tryz.func54, Tryz.ntmps54
 go_wp2_with (first | ((with_reducible refine gate_dst (N := 3) rfl ?_); refine bx_ (N := 3) (cs := #[.slice A0_0 l0_0.length c0_0]) (t := 26) rfl rfl ?_; intro gb101 hg w4 hbox hb; have BK101 := Aside0.mk (hbox); have GW101 := ge_ hg HB; have GE101 := ge_ hg HB; replace HB := b1_ HB hb; clear hb hbox hg) | ((with_reducible refine gate_dst (N := 9) rfl ?_); refine Kd.R_lit (Kd.int .i64) _ 2 ?hg (N := 9) ?hd (xs := ([] : List Int)) (inner := []) (ok := fun _ => True) (okp := fun _ => True) ?hr ?hp (fun _ hk => hk) trivial (Below.refl _ _) (Nat.le_refl _) (by simp) ?_; (case hd => rfl); (case hg => rfl); (case hr => exact t3_); (case hp => exact (Reps.none _ _)); intro v103 w5 ho6 hb hg_ hnew_; clear hg_ hnew_; (first | rw [← Ny102.out] at ho6 | (simp only [Int.reduceToNat] at ho6; rw [← Ny102.out] at ho6)); have HO104 := Aside0.mk (Kd.R_lower ho6 (below_size (gb_ HB.out))); replace BK101 := a2_ BK101 hb; replace HB := b1_ HB hb; clear hb ho6))
 go_loopg [7, 12] k (fun kq v7 v12 w' => ∃ (x7_1 : List Int) (x12_1 : Int), v12 = .int .i64 x12_1 ∧ Aside0 (spec_l01Shifted.l0 kq l1 a2 x7_1 (l1.length : Int) x12_1 l0_0 = some r) ∧ Aside0 (kq ≤ k) ∧ Aside0 (Kd.R (Kd.int .i64) 2 w' w.heap.size (fun _ => True) v7 x7_1) ∧ Aside0 (w'.heap[gb101]? = some (.cells #[(.slice A0_0 l0_0.length c0_0)] 26 (0, 0))) ∧ Aside0 (Below w.heap.size w w'))
 case atStart => exact ⟨(y102), (0), t2_, H', ⟨Nat.le_refl _⟩, ⟨rb_ HO104.out⟩, ⟨bb_ BK101.out⟩, ⟨gb_ HB.out⟩⟩
 clear H'
 try clear c1
 try clear p2
 try clear c5
 obtain ⟨x7_1, x12_1, rfl, HA, HK1, HO_7, BK101, HB⟩ := hrel
 obtain _ | k1 := gk
 ·exact absurd HA.out (by simp [spec_l01Shifted.l0])
 have H := HA.out
 clear HA
 simp only [spec_l01Shifted.l0] at H
 replace H := ie_ H
 obtain ⟨c7b0, H⟩ | ⟨c7b0, H⟩ := H
 ·obtain rfl := Option.some.inj H
  go_wp2
  go_ret
  exact ⟨_, t5_, rb_ HO_7.out, gb_ HB.out⟩

 replace H := id_ H
 obtain ⟨c8b0, H⟩ := H
 replace H := id_ H
 obtain ⟨c9b0, H⟩ := H
 replace H := bd_ H
 obtain ⟨t106, A10, H⟩ := H
 replace H := bd_ H
 obtain ⟨t107, A11, H⟩ := H
 have H' := Aside0.mk H
 clear H
 try go_wp2
 replace HO_7 := Aside0.mk (Kd.R_drew HO_7.out)
 replace BK101 := Aside0.mk (blk_drew BK101.out)
 replace HB := Aside0.mk (below_drew1 HB.out)
 obtain ⟨ad105, e105, hw105_0, hx105_0, p105, q105⟩ := at1_ HR1 HB x12_1
 cases e105
 refine sr_ (n := 10) (S := fun w' => w'.cell? ⟨gb101, 0, none⟩ = some (.slice A0_0 l0_0.length c0_0) ∧ w'.cell? (ad105.add (x12_1).toNat) = some (.int .i64 (rd l1 x12_1))) (ds := []) ⟨(blk_cell BK101.out 0).trans rfl, (hc_ HB hw105_0)⟩ spec_l01Shifted.tab5 spec_l01Shifted.bits5 fun hHeld HT_ HW_ => ?_
 generalize wr.drew = w12 at HO_7 BK101 HB hx105_0 hHeld ⊢
 refine pv_ 0 15 HT_ ?_
 refine pv_ 2 17 HT_ ?_
 refine pv_ 3 18 HT_ ?_
 refine pv_ 4 19 HT_ ?_
 refine pv_ 6 21 HT_ ?_
 refine tv2_ 1 16 HT_ HW_ hHeld ?_
 refine tv2_ 5 20 HT_ HW_ hHeld ?_
 refine ow_ 7 22 HT_ fun K hK => ?_
 refine goes_ Tryz.func75 (by kernel_rfl) rfl #[.agg #[.slice A0_0 l0_0.length c0_0], .int .i64 (rd l1 x12_1), .int .i64 a2] (by rfl) rfl rfl t1_ ?_
 with_reducible refine (spec_l01Sum.calls k1 _ _ l0_0 (rd l1 x12_1) a2 t106 _ (c2_ HR0_0 HB) HC0_0.out A10.out).mono ?_
 rintro e w13 ⟨rfl, hb⟩
 refine ⟨_, rfl, ?_⟩
 replace HO_7 := a1_ HO_7 hb
 replace BK101 := a2_ BK101 hb
 replace HB := b1_ HB hb
 (try clear hb)
 obtain ⟨Ao14, co14, eo14⟩ := Kd.R_slice HO_7.out
 (first | subst eo14 | (injection eo14 with f1_ f2_ f3_; have f4_ := f1_.symm; have f5_ := f3_.symm; clear f1_ f2_ f3_; subst f4_; subst f5_))
 refine hK.out _ _ ⟨(blk_cell BK101.out 0).trans rfl, (hc_ HB hw105_0)⟩ (fun hHeld => ?_)
 clear hK K
 refine nm_ ?_
 refine ow_ 8 23 HT_ fun K hK => ?_
 refine goes_ Tryz.func36 (by kernel_rfl) rfl #[.slice Ao14 x7_1.length co14, .int .i64 t106] (by rfl) rfl rfl t1_ ?_
 with_reducible refine (spec_l01Put.calls k1 (fun k_ => some k_ = (.slice Ao14 x7_1.length co14 : Value).ownBlock) (.slice Ao14 x7_1.length co14) x7_1 t106 t107 w _ ?side1 ?side2 A11.out).mono ?_
 (case side1 => exact gb_ HB.out)
 (case side2 => exact Kd.R_tight rfl HO_7.out)
 rintro e w15 ⟨v108, rfl, ho0, hb, hkp⟩
 refine ⟨_, rfl, ?_⟩
 replace BK101 := a7_ BK101 hkp HO_7
 have HO109 := Aside0.mk (Kd.R_mono (ok' := fun k_ => True) ho0 (fun k_ hk_ => trivial))
 replace HB := Aside0.mk (hb)
 clear HO_7
 (try clear hb hkp ho0)
 refine hK.out _ _ ⟨(blk_cell BK101.out 0).trans rfl, (hc_ HB hw105_0)⟩ (fun hHeld => ?_)
 clear hK K
 refine nm_ ?_
 refine pv_ 9 7 HT_ ?_
 refine done_ (done_of HT_.out (by kernel_rfl)) ?_
 try go_wp2
 go_roundg k1
 case measure => have := HK1.out; omega
 case rel => exact ⟨(t107), (wrap64 (x12_1 + 1)), t2_, H', ⟨by have := HK1.out; omega⟩, ⟨rb_ HO109.out⟩, ⟨bb_ BK101.out⟩, ⟨gb_ HB.out⟩⟩
def spec_l03Few.f (k : Nat) (l0_0 : List Int) (l1 : List Int) (l2 : List Int) : Option (Int) := (spec_l03Two.f k l0_0 l1 l2).bind fun t102 => (if t102 = 0 then ((spec_l01N.f k l0_0).bind fun t103 => (if t103 > 81 then (some 3) else (some t102))) else (some t102))
set_option maxHeartbeats 8000000 in
set_option maxRecDepth 100000 in
theorem spec_l03Few.calls (k : Nat) (A0_0 : Option Addr) (c0_0 : Nat) (l0_0 : List Int) (A1 : Option Addr) (c1 : Nat) (l1 : List Int) (A2 : Option Addr) (c2 : Nat) (l2 : List Int) (r : Int) (w : World) (hr0_0 : Kd.C (Kd.int .i64) w A0_0 l0_0.length l0_0) (hc0_0 : l0_0.length ≤ c0_0) (hr1 : Kd.C (Kd.int .i64) w A1 l1.length l1) (hc1 : l1.length ≤ c1) (hr2 : Kd.C (Kd.int .i64) w A2 l2.length l2) (hc2 : l2.length ≤ c2) (h : spec_l03Few.f k l0_0 l1 l2 = some r) :
  Calls Tryz.prog 23 #[.agg #[.slice A0_0 l0_0.length c0_0], .slice A1 l1.length c1, .slice A2 l2.length c2] w fun e w' => e = .returned (.int .i64 r) ∧ Below w.heap.size w w' := by
 have hu26 := Tryz.underlying26
 have HR0_0 := Aside0.mk hr0_0
 have HC0_0 := Aside0.mk hc0_0
 clear hr0_0 hc0_0
 have HR1 := Aside0.mk hr1
 have HC1 := Aside0.mk hc1
 clear hr1 hc1
 have HR2 := Aside0.mk hr2
 have HC2 := Aside0.mk hc2
 clear hr2 hc2
 have HB := Aside0.mk (Below.refl w.heap.size w)
 have H := h
 clear h
 unfold spec_l03Few.f at H
 replace H := bd_ H
 obtain ⟨t102, A4, H⟩ := H
 by_cases c5 : t102 = 0
 rotate_left
 ·rw [if_neg c5] at H
  have c5b0 : (t102 == 0) = false := beq_eq_false_iff_ne.mpr c5
  have c5b1 : (t102 != 0) = true := bne_iff_ne.mpr c5
  obtain rfl := Option.some.inj H
  go_enter Tryz.func23, Tryz.ntmps23
  go_wp2_with (first | ((with_reducible refine gate_dst (N := 3) rfl ?_); refine bx_ (N := 3) (cs := #[.slice A0_0 l0_0.length c0_0]) (t := 26) rfl rfl ?_; intro gb101 hg w18 hbox hb; have BK101 := Aside0.mk (hbox); have GW101 := ge_ hg HB; have GE101 := ge_ hg HB; replace HB := b1_ HB hb; clear hb hbox hg; have hcz19_0 := hz_ BK101; have hfz19_0 := blk_frozen BK101.out 0) | ((with_reducible refine gate_callee (f := 34) rfl ?_); refine gl_ (some 11) rfl rfl Tryz.func34 #[.agg #[.slice A0_0 l0_0.length c0_0], .slice A1 l1.length c1, .slice A2 l2.length c2] rfl ?_; (with_reducible refine (spec_l03Two.calls k _ _ l0_0 _ _ l1 _ _ l2 t102 _ (c2_ HR0_0 HB) HC0_0.out (c2_ HR1 HB) HC1.out (c2_ HR2 HB) HC2.out A4.out).mono ?_); rintro e w20 ⟨rfl, hb⟩; refine ⟨_, rfl, ?_⟩; replace BK101 := a2_ BK101 hb; replace HB := b1_ HB hb; (try clear hb); (try clear hb2); (try clear hk); (try clear hi)))
  go_ret
  exact ⟨t5_, gb_ HB.out⟩

 rw [if_pos c5] at H
 have c5b0 : (t102 == 0) = true := beq_iff_eq.mpr c5
 have c5b1 : (t102 != 0) = false := bne_eq_false_iff_eq.mpr c5
 clear c5
 replace H := bd_ H
 obtain ⟨t103, A6, H⟩ := H
 by_cases c7 : t103 > 81
 ·rw [if_pos c7] at H
  have c7b0 : decide (81 < t103) = true := decide_eq_true c7
  clear c7
  obtain rfl := Option.some.inj H
  go_enter Tryz.func23, Tryz.ntmps23
  go_wp2_with (first | ((with_reducible refine gate_dst (N := 3) rfl ?_); refine bx_ (N := 3) (cs := #[.slice A0_0 l0_0.length c0_0]) (t := 26) rfl rfl ?_; intro gb101 hg w8 hbox hb; have BK101 := Aside0.mk (hbox); have GW101 := ge_ hg HB; have GE101 := ge_ hg HB; replace HB := b1_ HB hb; clear hb hbox hg; have hcz9_0 := hz_ BK101; have hfz9_0 := blk_frozen BK101.out 0) | ((with_reducible refine gate_callee (f := 34) rfl ?_); refine gl_ (some 11) rfl rfl Tryz.func34 #[.agg #[.slice A0_0 l0_0.length c0_0], .slice A1 l1.length c1, .slice A2 l2.length c2] rfl ?_; (with_reducible refine (spec_l03Two.calls k _ _ l0_0 _ _ l1 _ _ l2 t102 _ (c2_ HR0_0 HB) HC0_0.out (c2_ HR1 HB) HC1.out (c2_ HR2 HB) HC2.out A4.out).mono ?_); rintro e w10 ⟨rfl, hb⟩; refine ⟨_, rfl, ?_⟩; replace BK101 := a2_ BK101 hb; replace HB := b1_ HB hb; (try clear hb); (try clear hb2); (try clear hk); (try clear hi); have hcz11_0 := hz_ BK101; have hfz11_0 := blk_frozen BK101.out 0) | (go_at_call 53; (with_reducible refine (spec_l01N.calls k _ _ l0_0 t103 _ (c2_ HR0_0 HB) HC0_0.out A6.out).mono ?_); rintro e w12 ⟨rfl, hb⟩; replace BK101 := a2_ BK101 hb; replace HB := b1_ HB hb; (try clear hb); (try clear hb2); (try clear hk); (try clear hi)))
  go_ret
  exact ⟨t5_, gb_ HB.out⟩
 rw [if_neg c7] at H
 have c7b0 : decide (81 < t103) = false := decide_eq_false c7
 clear c7
 obtain rfl := Option.some.inj H
 go_enter Tryz.func23, Tryz.ntmps23
 go_wp2_with (first | ((with_reducible refine gate_dst (N := 3) rfl ?_); refine bx_ (N := 3) (cs := #[.slice A0_0 l0_0.length c0_0]) (t := 26) rfl rfl ?_; intro gb101 hg w13 hbox hb; have BK101 := Aside0.mk (hbox); have GW101 := ge_ hg HB; have GE101 := ge_ hg HB; replace HB := b1_ HB hb; clear hb hbox hg; have hcz14_0 := hz_ BK101; have hfz14_0 := blk_frozen BK101.out 0) | ((with_reducible refine gate_callee (f := 34) rfl ?_); refine gl_ (some 11) rfl rfl Tryz.func34 #[.agg #[.slice A0_0 l0_0.length c0_0], .slice A1 l1.length c1, .slice A2 l2.length c2] rfl ?_; (with_reducible refine (spec_l03Two.calls k _ _ l0_0 _ _ l1 _ _ l2 t102 _ (c2_ HR0_0 HB) HC0_0.out (c2_ HR1 HB) HC1.out (c2_ HR2 HB) HC2.out A4.out).mono ?_); rintro e w15 ⟨rfl, hb⟩; refine ⟨_, rfl, ?_⟩; replace BK101 := a2_ BK101 hb; replace HB := b1_ HB hb; (try clear hb); (try clear hb2); (try clear hk); (try clear hi); have hcz16_0 := hz_ BK101; have hfz16_0 := blk_frozen BK101.out 0) | (go_at_call 53; (with_reducible refine (spec_l01N.calls k _ _ l0_0 t103 _ (c2_ HR0_0 HB) HC0_0.out A6.out).mono ?_); rintro e w17 ⟨rfl, hb⟩; replace BK101 := a2_ BK101 hb; replace HB := b1_ HB hb; (try clear hb); (try clear hb2); (try clear hk); (try clear hi)))
 go_ret
 exact ⟨t5_, gb_ HB.out⟩
def spec_CodesTogether.l0 : Nat → List Int → List Int → Int → Int → Option (List Int × Int)
  | 0, _, _, _, _ => none
  | k + 1, x2, x9, x21, x22 => if x22 < x21 then (if 0 ≤ x22 then (if x22 < (x2.length : Int) then ((spec_l01Put.f k x9 (rd x2 x22)).bind fun t107 => (spec_CodesTogether.l0 k x2 t107 x21 (wrap64 (x22 + 1)))) else (none)) else (none)) else (some (x9, 0))
def spec_CodesTogether.f (k : Nat) (l0_0 : List Int) (l1 : List Int) (l2 : List Int) : Option (List Int × Int) := (spec_l03Two.f k l0_0 l1 l2).bind fun t102 => (if t102 = 0 then ((spec_l01Own.f l1).bind fun t103 => (spec_CodesTogether.l0 k l2 t103 (l2.length : Int) 0)) else (some (([] : List Int), t102)))
set_option maxHeartbeats 8000000 in
set_option maxRecDepth 100000 in
theorem spec_CodesTogether.calls (k : Nat) (A0_0 : Option Addr) (c0_0 : Nat) (l0_0 : List Int) (A1 : Option Addr) (c1 : Nat) (l1 : List Int) (A2 : Option Addr) (c2 : Nat) (l2 : List Int) (r1 : List Int) (r2 : Int) (w : World) (hr0_0 : Kd.C (Kd.int .i64) w A0_0 l0_0.length l0_0) (hc0_0 : l0_0.length ≤ c0_0) (hr1 : Kd.C (Kd.int .i64) w A1 l1.length l1) (hc1 : l1.length ≤ c1) (hr2 : Kd.C (Kd.int .i64) w A2 l2.length l2) (hc2 : l2.length ≤ c2) (h : spec_CodesTogether.f k l0_0 l1 l2 = some (r1, r2)) :
  Calls Tryz.prog 13 #[.agg #[.slice A0_0 l0_0.length c0_0], .slice A1 l1.length c1, .slice A2 l2.length c2] w fun e w' => ∃ v0_ : Value, e = .returned (.tuple #[v0_, .int .i64 r2]) ∧ Kd.R (Kd.int .i64) 2 w' w.heap.size (fun _ => True) v0_ r1 ∧ Below w.heap.size w w' := by
 have hu26 := Tryz.underlying26
 have HR0_0 := Aside0.mk hr0_0
 have HC0_0 := Aside0.mk hc0_0
 clear hr0_0 hc0_0
 have HR1 := Aside0.mk hr1
 have HC1 := Aside0.mk hc1
 clear hr1 hc1
 have HR2 := Aside0.mk hr2
 have HC2 := Aside0.mk hc2
 clear hr2 hc2
 have HB := Aside0.mk (Below.refl w.heap.size w)
 have H := h
 clear h
 unfold spec_CodesTogether.f at H
 replace H := bd_ H
 obtain ⟨t102, A4, H⟩ := H
 by_cases c5 : t102 = 0
 rotate_left
 ·rw [if_neg c5] at H
  have c5b0 : (t102 == 0) = false := beq_eq_false_iff_ne.mpr c5
  have c5b1 : (t102 != 0) = true := bne_iff_ne.mpr c5
  simp only [Option.some.injEq, Prod.mk.injEq] at H
  obtain ⟨rfl, rfl⟩ := H
  go_enter Tryz.func13, Tryz.ntmps13
  go_wp2_with (first | ((with_reducible refine gate_dst (N := 3) rfl ?_); refine bx_ (N := 3) (cs := #[.slice A0_0 l0_0.length c0_0]) (t := 26) rfl rfl ?_; intro gb101 hg w17 hbox hb; have BK101 := Aside0.mk (hbox); have GW101 := ge_ hg HB; have GE101 := ge_ hg HB; replace HB := b1_ HB hb; clear hb hbox hg; have hcz18_0 := hz_ BK101; have hfz18_0 := blk_frozen BK101.out 0) | ((with_reducible refine gate_callee (f := 34) rfl ?_); refine gl_ (some 14) rfl rfl Tryz.func34 #[.agg #[.slice A0_0 l0_0.length c0_0], .slice A1 l1.length c1, .slice A2 l2.length c2] rfl ?_; (with_reducible refine (spec_l03Two.calls k _ _ l0_0 _ _ l1 _ _ l2 t102 _ (c2_ HR0_0 HB) HC0_0.out (c2_ HR1 HB) HC1.out (c2_ HR2 HB) HC2.out A4.out).mono ?_); rintro e w19 ⟨rfl, hb⟩; refine ⟨_, rfl, ?_⟩; replace BK101 := a2_ BK101 hb; replace HB := b1_ HB hb; (try clear hb); (try clear hb2); (try clear hk); (try clear hi)))
  go_ret2
  exact ⟨_, t5_, by first | exact Kd.R_nil _ _ _ _ _ | exact Kd.N_nil _ _ _ _ _ | exact Kd.V_nil _ _ _ _ _ | exact Kd.Q_nil _ _ _ _ _ | exact Kd.S_nil _ _ _ _ _, gb_ HB.out⟩

 rw [if_pos c5] at H
 have c5b0 : (t102 == 0) = true := beq_iff_eq.mpr c5
 have c5b1 : (t102 != 0) = false := bne_eq_false_iff_eq.mpr c5
 clear c5
 replace H := bd_ H
 obtain ⟨t103, A6, H⟩ := H
 have H' := Aside0.mk H
 clear H
 go_enter Tryz.func13, Tryz.ntmps13
 go_wp2_with (first | ((with_reducible refine gate_dst (N := 3) rfl ?_); refine bx_ (N := 3) (cs := #[.slice A0_0 l0_0.length c0_0]) (t := 26) rfl rfl ?_; intro gb101 hg w7 hbox hb; have BK101 := Aside0.mk (hbox); have GW101 := ge_ hg HB; have GE101 := ge_ hg HB; replace HB := b1_ HB hb; clear hb hbox hg; have hcz8_0 := hz_ BK101; have hfz8_0 := blk_frozen BK101.out 0) | ((with_reducible refine gate_callee (f := 34) rfl ?_); refine gl_ (some 14) rfl rfl Tryz.func34 #[.agg #[.slice A0_0 l0_0.length c0_0], .slice A1 l1.length c1, .slice A2 l2.length c2] rfl ?_; (with_reducible refine (spec_l03Two.calls k _ _ l0_0 _ _ l1 _ _ l2 t102 _ (c2_ HR0_0 HB) HC0_0.out (c2_ HR1 HB) HC1.out (c2_ HR2 HB) HC2.out A4.out).mono ?_); rintro e w9 ⟨rfl, hb⟩; refine ⟨_, rfl, ?_⟩; replace BK101 := a2_ BK101 hb; replace HB := b1_ HB hb; (try clear hb); (try clear hb2); (try clear hk); (try clear hi)) | ((with_reducible refine gate_callee (f := 35) rfl ?_); refine gl_ (some 19) rfl rfl Tryz.func35 #[.slice A1 l1.length c1] rfl ?_; (with_reducible refine (spec_l01Own.calls _ _ l1 t103 _ (c2_ HR1 HB) HC1.out A6.out).mono ?_); rintro e w10 ⟨v104, rfl, ho0, hb⟩; refine ⟨_, rfl, ?_⟩; have HO105 := Aside0.mk (Kd.R_lower ho0 (below_size (gb_ HB.out))); replace BK101 := a2_ BK101 hb; replace HB := b1_ HB hb; (try clear hb); (try clear hb2); (try clear hk); (try clear hi); (try clear ho0)))
 go_loopg [9, 22] k (fun kq v9 v22 w' => ∃ (x9_1 : List Int) (x22_1 : Int), v22 = .int .i64 x22_1 ∧ Aside0 (spec_CodesTogether.l0 kq l2 x9_1 (l2.length : Int) x22_1 = some (r1, r2)) ∧ Aside0 (kq ≤ k) ∧ Aside0 (Kd.R (Kd.int .i64) 2 w' w.heap.size (fun _ => True) v9 x9_1) ∧ Aside0 (w'.heap[gb101]? = some (.cells #[(.slice A0_0 l0_0.length c0_0)] 26 (0, 0))) ∧ Aside0 (Below w.heap.size w w'))
 case atStart => exact ⟨(t103), (0), t2_, H', ⟨Nat.le_refl _⟩, ⟨rb_ HO105.out⟩, ⟨bb_ BK101.out⟩, ⟨gb_ HB.out⟩⟩
 clear H'
 try clear c1
 try clear c2
 try clear p2
 try clear c3
 try clear c5
 try clear c5b0
 try clear c5b1
 try clear hcz8_0
 try clear hfz8_0
 obtain ⟨x9_1, x22_1, rfl, HA, HK1, HO_9, BK101, HB⟩ := hrel
 obtain _ | k1 := gk
 ·exact absurd HA.out (by simp [spec_CodesTogether.l0])
 have H := HA.out
 clear HA
 simp only [spec_CodesTogether.l0] at H
 replace H := ie_ H
 obtain ⟨c11b0, H⟩ | ⟨c11b0, H⟩ := H
 ·simp only [Option.some.injEq, Prod.mk.injEq] at H
  obtain ⟨rfl, rfl⟩ := H
  go_wp2
  go_ret2
  exact ⟨_, t5_, rb_ HO_9.out, gb_ HB.out⟩
 replace H := id_ H
 obtain ⟨c12b0, H⟩ := H
 replace H := id_ H
 obtain ⟨c13b0, H⟩ := H
 replace H := bd_ H
 obtain ⟨t107, A14, H⟩ := H
 have H' := Aside0.mk H
 clear H
 have p106 : 0 ≤ (x22_1 : Int) := of_decide_eq_true t6_
 have q106 : x22_1 < (l2.length : Int) := of_decide_eq_true t6_
 obtain ⟨ad106, e106, hx106_0⟩ := Kd.at_int HR2.out x22_1 p106 q106
 cases e106
 replace hx106_0 := hc_ HB hx106_0
 replace p106 := eq_true p106
 replace q106 := eq_true q106
 obtain ⟨Ao15, co15, eo15⟩ := Kd.R_slice HO_9.out
 subst eo15
 go_wp2_with (first | ((with_reducible refine gate_callee (f := 36) rfl ?_); refine gl_ (some 30) rfl rfl Tryz.func36 #[.slice Ao15 x9_1.length co15, .int .i64 (rd l2 x22_1)] rfl ?_; (with_reducible refine (spec_l01Put.calls k1 (fun k_ => some k_ = (.slice Ao15 x9_1.length co15 : Value).ownBlock) (.slice Ao15 x9_1.length co15) x9_1 (rd l2 x22_1) t107 w _ ?side1 ?side2 A14.out).mono ?_); (case side1 => exact gb_ HB.out); (case side2 => exact Kd.R_tight rfl HO_9.out); rintro e w16 ⟨v108, rfl, ho0, hb, hkp⟩; refine ⟨_, rfl, ?_⟩; replace BK101 := a7_ BK101 hkp HO_9; have HO109 := Aside0.mk (Kd.R_mono (ok' := fun k_ => True) ho0 (fun k_ hk_ => trivial)); replace HB := Aside0.mk (hb); clear HO_9; (try clear hb); (try clear hkp); (try clear ho0)))
 go_roundg k1
 case measure => have := HK1.out; omega
 case rel => exact ⟨(t107), (wrap64 (x22_1 + 1)), t2_, H', ⟨by have := HK1.out; omega⟩, ⟨rb_ HO109.out⟩, ⟨bb_ BK101.out⟩, ⟨gb_ HB.out⟩⟩
def spec_CodesInCommon.l0 : Nat → List Int → List Int → List Int → Int → Int → Option (List Int × Int)
  | 0, _, _, _, _, _ => none
  | k + 1, x1, x2, x9, x20, x21 => if x21 < x20 then (if 0 ≤ x21 then (if x21 < (x1.length : Int) then ((spec_l01Has.f k x2 (rd x1 x21)).bind fun t107 => (if t107 = true then (if x9.length < 17592186044416 then (spec_CodesInCommon.l0 k x1 x2 (x9 ++ [rd x1 x21]) x20 (wrap64 (x21 + 1))) else (none)) else (spec_CodesInCommon.l0 k x1 x2 x9 x20 (wrap64 (x21 + 1))))) else (none)) else (none)) else (some (x9, 0))
def spec_CodesInCommon.f (k : Nat) (l0_0 : List Int) (l1 : List Int) (l2 : List Int) : Option (List Int × Int) := (spec_l03Two.f k l0_0 l1 l2).bind fun t102 => (if t102 = 0 then (spec_CodesInCommon.l0 k l1 l2 (([] : List Int)) (l1.length : Int) 0) else (some (([] : List Int), t102)))
set_option maxHeartbeats 8000000 in
set_option maxRecDepth 100000 in
theorem spec_CodesInCommon.calls (k : Nat) (A0_0 : Option Addr) (c0_0 : Nat) (l0_0 : List Int) (A1 : Option Addr) (c1 : Nat) (l1 : List Int) (A2 : Option Addr) (c2 : Nat) (l2 : List Int) (r1 : List Int) (r2 : Int) (w : World) (hr0_0 : Kd.C (Kd.int .i64) w A0_0 l0_0.length l0_0) (hc0_0 : l0_0.length ≤ c0_0) (hr1 : Kd.C (Kd.int .i64) w A1 l1.length l1) (hc1 : l1.length ≤ c1) (hr2 : Kd.C (Kd.int .i64) w A2 l2.length l2) (hc2 : l2.length ≤ c2) (h : spec_CodesInCommon.f k l0_0 l1 l2 = some (r1, r2)) :
  Calls Tryz.prog 15 #[.agg #[.slice A0_0 l0_0.length c0_0], .slice A1 l1.length c1, .slice A2 l2.length c2] w fun e w' => ∃ v0_ : Value, e = .returned (.tuple #[v0_, .int .i64 r2]) ∧ Kd.R (Kd.int .i64) 2 w' w.heap.size (fun _ => True) v0_ r1 ∧ Below w.heap.size w w' := by
 have hu26 := Tryz.underlying26
 have HR0_0 := Aside0.mk hr0_0
 have HC0_0 := Aside0.mk hc0_0
 clear hr0_0 hc0_0
 have HR1 := Aside0.mk hr1
 have HC1 := Aside0.mk hc1
 clear hr1 hc1
 have HR2 := Aside0.mk hr2
 have HC2 := Aside0.mk hc2
 clear hr2 hc2
 have HB := Aside0.mk (Below.refl w.heap.size w)
 have H := h
 clear h
 unfold spec_CodesInCommon.f at H
 replace H := bd_ H
 obtain ⟨t102, A4, H⟩ := H
 by_cases c5 : t102 = 0
 rotate_left
 ·rw [if_neg c5] at H
  have c5b0 : (t102 == 0) = false := beq_eq_false_iff_ne.mpr c5
  have c5b1 : (t102 != 0) = true := bne_iff_ne.mpr c5
  simp only [Option.some.injEq, Prod.mk.injEq] at H
  obtain ⟨rfl, rfl⟩ := H
  go_enter Tryz.func15, Tryz.ntmps15
  go_wp2_with (first | ((with_reducible refine gate_dst (N := 3) rfl ?_); refine bx_ (N := 3) (cs := #[.slice A0_0 l0_0.length c0_0]) (t := 26) rfl rfl ?_; intro gb101 hg w18 hbox hb; have BK101 := Aside0.mk (hbox); have GW101 := ge_ hg HB; have GE101 := ge_ hg HB; replace HB := b1_ HB hb; clear hb hbox hg; have hcz19_0 := hz_ BK101; have hfz19_0 := blk_frozen BK101.out 0) | ((with_reducible refine gate_callee (f := 34) rfl ?_); refine gl_ (some 14) rfl rfl Tryz.func34 #[.agg #[.slice A0_0 l0_0.length c0_0], .slice A1 l1.length c1, .slice A2 l2.length c2] rfl ?_; (with_reducible refine (spec_l03Two.calls k _ _ l0_0 _ _ l1 _ _ l2 t102 _ (c2_ HR0_0 HB) HC0_0.out (c2_ HR1 HB) HC1.out (c2_ HR2 HB) HC2.out A4.out).mono ?_); rintro e w20 ⟨rfl, hb⟩; refine ⟨_, rfl, ?_⟩; replace BK101 := a2_ BK101 hb; replace HB := b1_ HB hb; (try clear hb); (try clear hb2); (try clear hk); (try clear hi)))
  go_ret2
  exact ⟨_, t5_, by first | exact Kd.R_nil _ _ _ _ _ | exact Kd.N_nil _ _ _ _ _ | exact Kd.V_nil _ _ _ _ _ | exact Kd.Q_nil _ _ _ _ _ | exact Kd.S_nil _ _ _ _ _, gb_ HB.out⟩

 rw [if_pos c5] at H
 have c5b0 : (t102 == 0) = true := beq_iff_eq.mpr c5
 have c5b1 : (t102 != 0) = false := bne_eq_false_iff_eq.mpr c5
 clear c5
 obtain ⟨y103, hy103⟩ : ∃ y_ : List Int, y_ = (([] : List Int)) := ⟨_, rfl⟩
 replace H : (spec_CodesInCommon.l0 k l1 l2 y103 (l1.length : Int) 0) = some (r1, r2) := y_ H
 have Ny103 := Aside0.mk hy103
 clear hy103
 have H' := Aside0.mk H
 clear H
 go_enter Tryz.func15, Tryz.ntmps15
 go_wp2_with (first | ((with_reducible refine gate_dst (N := 3) rfl ?_); refine bx_ (N := 3) (cs := #[.slice A0_0 l0_0.length c0_0]) (t := 26) rfl rfl ?_; intro gb101 hg w6 hbox hb; have BK101 := Aside0.mk (hbox); have GW101 := ge_ hg HB; have GE101 := ge_ hg HB; replace HB := b1_ HB hb; clear hb hbox hg; have hcz7_0 := hz_ BK101; have hfz7_0 := blk_frozen BK101.out 0) | ((with_reducible refine gate_callee (f := 34) rfl ?_); refine gl_ (some 14) rfl rfl Tryz.func34 #[.agg #[.slice A0_0 l0_0.length c0_0], .slice A1 l1.length c1, .slice A2 l2.length c2] rfl ?_; (with_reducible refine (spec_l03Two.calls k _ _ l0_0 _ _ l1 _ _ l2 t102 _ (c2_ HR0_0 HB) HC0_0.out (c2_ HR1 HB) HC1.out (c2_ HR2 HB) HC2.out A4.out).mono ?_); rintro e w8 ⟨rfl, hb⟩; refine ⟨_, rfl, ?_⟩; replace BK101 := a2_ BK101 hb; replace HB := b1_ HB hb; (try clear hb); (try clear hb2); (try clear hk); (try clear hi)) | ((with_reducible refine gate_dst (N := 18) rfl ?_); refine Kd.R_lit (Kd.int .i64) _ 2 ?hg (N := 18) ?hd (xs := ([] : List Int)) (inner := []) (ok := fun _ => True) (okp := fun _ => True) ?hr ?hp (fun _ hk => hk) trivial (Below.refl _ _) (Nat.le_refl _) (by simp) ?_; (case hd => rfl); (case hg => rfl); (case hr => exact t3_); (case hp => exact (Reps.none _ _)); intro v104 w9 ho10 hb hg_ hnew_; clear hg_ hnew_; (first | rw [← Ny103.out] at ho10 | (simp only [Int.reduceToNat] at ho10; rw [← Ny103.out] at ho10)); have HO105 := Aside0.mk (Kd.R_lower ho10 (below_size (gb_ HB.out))); replace BK101 := a2_ BK101 hb; replace HB := b1_ HB hb; clear hb ho10))
 go_loopg [9, 21] k (fun kq v9 v21 w' => ∃ (x9_1 : List Int) (x21_1 : Int), v21 = .int .i64 x21_1 ∧ Aside0 (spec_CodesInCommon.l0 kq l1 l2 x9_1 (l1.length : Int) x21_1 = some (r1, r2)) ∧ Aside0 (kq ≤ k) ∧ Aside0 (Kd.R (Kd.int .i64) 2 w' w.heap.size (fun _ => True) v9 x9_1) ∧ Aside0 (w'.heap[gb101]? = some (.cells #[(.slice A0_0 l0_0.length c0_0)] 26 (0, 0))) ∧ Aside0 (Below w.heap.size w w'))
 case atStart => exact ⟨(y103), (0), t2_, H', ⟨Nat.le_refl _⟩, ⟨rb_ HO105.out⟩, ⟨bb_ BK101.out⟩, ⟨gb_ HB.out⟩⟩
 clear H'
 try clear c1
 try clear c2
 try clear p2
 try clear c3
 try clear c5
 try clear c5b0
 try clear c5b1
 try clear hcz7_0
 try clear hfz7_0
 obtain ⟨x9_1, x21_1, rfl, HA, HK1, HO_9, BK101, HB⟩ := hrel
 obtain _ | k1 := gk
 ·exact absurd HA.out (by simp [spec_CodesInCommon.l0])
 have H := HA.out
 clear HA
 simp only [spec_CodesInCommon.l0] at H
 replace H := ie_ H
 obtain ⟨c11b0, H⟩ | ⟨c11b0, H⟩ := H
 ·simp only [Option.some.injEq, Prod.mk.injEq] at H
  obtain ⟨rfl, rfl⟩ := H
  go_wp2
  go_ret2
  exact ⟨_, t5_, rb_ HO_9.out, gb_ HB.out⟩
 replace H := id_ H
 obtain ⟨c12b0, H⟩ := H
 replace H := id_ H
 obtain ⟨c13b0, H⟩ := H
 replace H := bd_ H
 obtain ⟨t107, A14, H⟩ := H
 by_cases c15 : t107 = true
 rotate_left
 ·replace c15 := Bool.eq_false_iff.mpr c15
  subst c15
  have H1 : (spec_CodesInCommon.l0 k1 l1 l2 x9_1 (l1.length : Int) (wrap64 (x21_1 + 1))) = some (r1, r2) := by rw [if_neg (show ¬ (false = true) by decide)] at H; exact H
  clear H
  have H := H1
  clear H1
  have H' := Aside0.mk H
  clear H
  have p106 : 0 ≤ (x21_1 : Int) := of_decide_eq_true t6_
  have q106 : x21_1 < (l1.length : Int) := of_decide_eq_true t6_
  obtain ⟨ad106, e106, hx106_0⟩ := Kd.at_int HR1.out x21_1 p106 q106
  cases e106
  replace hx106_0 := hc_ HB hx106_0
  replace p106 := eq_true p106
  replace q106 := eq_true q106
  go_wp2_with (first | ((with_reducible refine gate_callee (f := 41) rfl ?_); refine gl_ (some 29) rfl rfl Tryz.func41 #[.slice A2 l2.length c2, .int .i64 (rd l1 x21_1)] rfl ?_; (with_reducible refine (spec_l01Has.calls k1 _ _ l2 (rd l1 x21_1) false _ (c2_ HR2 HB) HC2.out A14.out).mono ?_); rintro e w' ⟨rfl, ⟨nd, rfl⟩⟩; refine ⟨_, rfl, ?_⟩))
  go_roundg k1
  case measure => have := HK1.out; omega
  case rel => exact ⟨(x9_1), (wrap64 (x21_1 + 1)), t2_, H', ⟨by have := HK1.out; omega⟩, ⟨rb_ HO_9.out⟩, ⟨bb_ BK101.out⟩, ⟨gb_ HB.out⟩⟩
 subst c15
 have H1 : (if x9_1.length < 17592186044416 then (spec_CodesInCommon.l0 k1 l1 l2 (x9_1 ++ [rd l1 x21_1]) (l1.length : Int) (wrap64 (x21_1 + 1))) else (none)) = some (r1, r2) := by rw [if_pos rfl] at H; exact H
 clear H
 have H := H1
 clear H1
 replace H := ip_ H
 obtain ⟨c16, H⟩ := H
 have LMc16 := Aside0.mk c16
 clear c16
 obtain ⟨y109, hy109⟩ : ∃ y_ : List Int, y_ = (x9_1 ++ [rd l1 x21_1]) := ⟨_, rfl⟩
 replace H : (spec_CodesInCommon.l0 k1 l1 l2 y109 (l1.length : Int) (wrap64 (x21_1 + 1))) = some (r1, r2) := y_ H
 have Ny109 := Aside0.mk hy109
 clear hy109
 have H' := Aside0.mk H
 clear H
 have p106 : 0 ≤ (x21_1 : Int) := of_decide_eq_true t6_
 have q106 : x21_1 < (l1.length : Int) := of_decide_eq_true t6_
 obtain ⟨ad106, e106, hx106_0⟩ := Kd.at_int HR1.out x21_1 p106 q106
 cases e106
 replace hx106_0 := hc_ HB hx106_0
 replace p106 := eq_true p106
 replace q106 := eq_true q106
 go_wp2_with (first | ((with_reducible refine gate_callee (f := 41) rfl ?_); refine gl_ (some 29) rfl rfl Tryz.func41 #[.slice A2 l2.length c2, .int .i64 (rd l1 x21_1)] rfl ?_; (with_reducible refine (spec_l01Has.calls k1 _ _ l2 (rd l1 x21_1) true _ (c2_ HR2 HB) HC2.out A14.out).mono ?_); rintro e w' ⟨rfl, ⟨nd, rfl⟩⟩; refine ⟨_, rfl, ?_⟩; have p108 : 0 ≤ (x21_1 : Int) := of_decide_eq_true t6_; have q108 : x21_1 < (l1.length : Int) := of_decide_eq_true t6_; obtain ⟨ad108, e108, hx108_0⟩ := Kd.at_int HR1.out x21_1 p108 q108; obtain rfl : ad106 = ad108 := (by injection e108); replace hx108_0 := (HB.out.cell (World.block_lt_of_cell? _ _ hx108_0)).trans hx108_0; replace p108 := eq_true p108; replace q108 := eq_true q108) | ((with_reducible refine gate_builtin (b := .append) (xs := #[.tmp 30, .tmp 35]) rfl ?_); at_builtin; refine Kd.R_append (Kd.int .i64) (w0 := w) w.heap.size rfl (.tmp 30) (.tmp 35) 24 2 (.int .i64 0) 8 rfl Tryz.underlying24 info2 rfl (by decide) (by omega) u9 x9_1 (rd l1 x21_1) [.int .i64 (rd l1 x21_1)] (fun _ => True) (fun _ => False) rfl rfl ?aP (fun _ hk => hk.elim) ?aF ?aO ?aB ?aS ?aL ?_; (case aP => exact rfl); (case aB => exact (gb_ HB.out)); (case aF => exact (fun _ _ => trivial)); (case aO => exact (rb_ HO_9.out)); (case aS => exact (below_size (gb_ HB.out))); (case aL => have := LMc16.out; omega); intro v110 w17 ho hb hg hat; rw [← Ny109.out] at ho; replace BK101 := Aside0.mk (blk_grown (g := gb101) (o := .cells #[.slice A0_0 l0_0.length c0_0] 26 (0, 0)) (bb_ BK101.out) hg (Kd.R_ne HO_9.out BK101.out (by decide))); replace HB := Aside0.mk (hb); have HO111 := Aside0.mk (ho); clear HO_9 ho hb hg hat))
 go_roundg k1
 case measure => have := HK1.out; omega
 case rel => exact ⟨(y109), (wrap64 (x21_1 + 1)), t2_, H', ⟨by have := HK1.out; omega⟩, ⟨rb_ HO111.out⟩, ⟨bb_ BK101.out⟩, ⟨gb_ HB.out⟩⟩
mutual
def spec_l03Least.l0 : Nat → List Int → List Int → Int → List (List Int) → Int → Int → List Int → Option (List Int × Int)
  | 0, _, _, _, _, _, _, _ => none
  | k + 1, x1, x6, x7, x8, x20, x21, x102000 => if x21 < x20 then (if 0 ≤ x21 then (if x21 < (x8.length : Int) then ((spec_l03Places.f k x102000 x1 (rd_L2 x8 x21)).bind fun bt112 => (spec_l03Least.l1 k x1 x6 x7 x8 bt112.2 0 x20 x21 x102000)) else (none)) else (none)) else (some (x6, x7))
def spec_l03Least.l1 : Nat → List Int → List Int → Int → List (List Int) → List Int → Int → Int → Int → List Int → Option (List Int × Int)
  | 0, _, _, _, _, _, _, _, _, _ => none
  | k + 1, x1, x6, x7, x8, x11, x12, x20, x21, x102000 => (spec_l01N.f k x102000).bind fun t119 => (if x12 < t119 then ((spec_l01Shifted.f k x102000 x11 x12).bind fun t120 => ((spec_l03Before.f k t120 x6).bind fun t123 => (if t123 = true then (spec_l03Least.j2 k x1 t120 x7 x8 x11 x12 t120 x20 x21 x102000) else (spec_l03Least.j2 k x1 x6 x7 x8 x11 x12 t120 x20 x21 x102000)))) else (spec_l03Least.l0 k x1 x6 x7 x8 x20 (wrap64 (x21 + 1)) x102000))
def spec_l03Least.j2 : Nat → List Int → List Int → Int → List (List Int) → List Int → Int → List Int → Int → Int → List Int → Option (List Int × Int)
  | 0, _, _, _, _, _, _, _, _, _, _ => none
  | k + 1, x1, x6, x7, x8, x11, x12, x13, x20, x21, x102000 => (spec_l03Before.f k x13 x1).bind fun t124 => (if t124 = true then (spec_l03Least.l1 k x1 x6 x7 x8 x11 (wrap64 (x12 + 1)) x20 x21 x102000) else ((spec_l03Before.f k x1 x13).bind fun t125 => (if t125 = true then (spec_l03Least.l1 k x1 x6 x7 x8 x11 (wrap64 (x12 + 1)) x20 x21 x102000) else (spec_l03Least.l1 k x1 x6 (wrap64 (x7 + 1)) x8 x11 (wrap64 (x12 + 1)) x20 x21 x102000))))
end
def spec_l03Least.f (k : Nat) (l0_0 : List Int) (l1 : List Int) : Option (List Int × Int) := (spec_l01Own.f l1).bind fun t102 => ((spec_l03Orders.f k l0_0 (([] : List Int))).bind fun t108 => (spec_l03Least.l0 k l1 t102 0 t108 (t108.length : Int) 0 l0_0))
def spec_l03Least.T1 : Bool × List (List Nat × List Nat) := (true, [([], []), ([0], [0]), ([], []), ([], []), ([2, 3, 1], [2, 3]), ([1, 4, 0, 1], [1]), ([5, 0, 1, 5], []), ([4, 6, 0, 1, 2, 3, 4, 5, 6], [4])])
def spec_l03Least.B1 : List Nat := [0, 1, 0, 0, 15, 31, 63, 127]
theorem spec_l03Least.tab1 : rtab .any (opsOf Tryz.f24 1) = spec_l03Least.T1 := by kernel_rfl
theorem spec_l03Least.bits1 : waitsOk spec_l03Least.T1.2 spec_l03Least.B1 = true := by kernel_rfl
def spec_l03Least.T5 : Bool × List (List Nat × List Nat) := (true, [([], []), ([], []), ([], []), ([], []), ([2, 3], [2, 3]), ([4], [4]), ([0, 1, 5], [0, 1, 5]), ([6], [6]), ([7], [7]), ([7], [7]), ([], []), ([10, 8, 6, 0, 1, 2, 3, 4, 5, 6, 7, 8, 10], [8, 10]), ([9, 11, 0, 1, 2, 3, 4, 5, 6, 7, 8, 9, 10, 11], [9])])
def spec_l03Least.B5 : List Nat := [0, 0, 0, 0, 12, 28, 63, 127, 255, 255, 0, 1535, 4095]
theorem spec_l03Least.tab5 : rtab .any (opsOf Tryz.f24 5) = spec_l03Least.T5 := by kernel_rfl
theorem spec_l03Least.bits5 : waitsOk spec_l03Least.T5.2 spec_l03Least.B5 = true := by kernel_rfl
set_option maxHeartbeats 8000000 in
set_option maxRecDepth 100000 in
theorem spec_l03Least.calls (k : Nat) (A0_0 : Option Addr) (c0_0 : Nat) (l0_0 : List Int) (A1 : Option Addr) (c1 : Nat) (l1 : List Int) (r1 : List Int) (r2 : Int) (w : World) (hr0_0 : Kd.C (Kd.int .i64) w A0_0 l0_0.length l0_0) (hc0_0 : l0_0.length ≤ c0_0) (hr1 : Kd.C (Kd.int .i64) w A1 l1.length l1) (hc1 : l1.length ≤ c1) (h : spec_l03Least.f k l0_0 l1 = some (r1, r2)) :
  Calls Tryz.prog 24 #[.agg #[.slice A0_0 l0_0.length c0_0], .slice A1 l1.length c1] w fun e w' => ∃ v0_ : Value, e = .returned (.tuple #[v0_, .int .i64 r2]) ∧ Kd.R (Kd.int .i64) 2 w' w.heap.size (fun _ => True) v0_ r1 ∧ Below w.heap.size w w' := by
 have hu26 := Tryz.underlying26
 have HR0_0 := Aside0.mk hr0_0
 have HC0_0 := Aside0.mk hc0_0
 clear hr0_0 hc0_0
 have HR1 := Aside0.mk hr1
 have HC1 := Aside0.mk hc1
 clear hr1 hc1
 have HB := Aside0.mk (Below.refl w.heap.size w)
 have H := h
 clear h
 unfold spec_l03Least.f at H
 replace H := bd_ H
 obtain ⟨t102, A3, H⟩ := H
 obtain ⟨y105, hy105⟩ : ∃ y_ : List Int, y_ = (([] : List Int)) := ⟨_, rfl⟩
 replace H : ((spec_l03Orders.f k l0_0 y105).bind fun t108 => (spec_l03Least.l0 k l1 t102 0 t108 (t108.length : Int) 0 l0_0)) = some (r1, r2) := y_ H
 have Ny105 := Aside0.mk hy105
 clear hy105
 replace H := bd_ H
 obtain ⟨t108, A4, H⟩ := H
 have H' := Aside0.mk H
 clear H
 go_enter Tryz.func24, Tryz.ntmps24
 try go_wp2_with (first | ((with_reducible refine gate_dst (N := 2) rfl ?_); refine bx_ (N := 2) (cs := #[.slice A0_0 l0_0.length c0_0]) (t := 26) rfl rfl ?_; intro gb101 hg w5 hbox hb; have BK101 := Aside0.mk (hbox); have GW101 := ge_ hg HB; have GE101 := ge_ hg HB; replace HB := b1_ HB hb; clear hb hbox hg))
 replace BK101 := Aside0.mk (blk_drew BK101.out)
 replace HB := Aside0.mk (below_drew1 HB.out)
 refine start_ (n := 8) (S := fun w' => w'.cell? ⟨gb101, 0, none⟩ = some (.slice A0_0 l0_0.length c0_0)) (ds := []) #[false, false, false, false, false, false, false, false] (by kernel_rfl) rfl rfl ((blk_cell BK101.out 0).trans rfl) (fun hHeld => ?_); refine with_tabW spec_l03Least.tab1 spec_l03Least.bits1 (fun HT_ HW_ => ?_)
 generalize w5.drew = w6 at BK101 HB hHeld ⊢
 refine pv_ 0 14 HT_ ?_
 refine tv1_ 2 16 HT_ HW_ hHeld ?_
 refine join_ (σ := Value × Value) 4 #[true, true, true, true, false, false, false, false] (fun s_ => [(15, s_.1), (17, s_.2)]) (fun s_ w' => (w'.cell? ⟨gb101, 0, none⟩ = some (.slice A0_0 l0_0.length c0_0)) ∧ (Kd.R (Kd.int .i64) 2 w' w.heap.size (fun k_ => OB_ k_ s_.2) s_.1 t102) ∧ (Kd.R (Kd.int .i64) 2 w' w.heap.size (fun k_ => OB_ k_ s_.1) s_.2 y105) ∧ (w'.heap[gb101]? = some (.cells #[.slice A0_0 l0_0.length c0_0] 26 (0, 0))) ∧ (Below w.heap.size w w')) ?_ ?_
 rotate_left
 ·intro hCont
  refine two_ (i := 1) (j := 3) (Ni := some 15) (Nj := some 17) #[true, true, true, false, false, false, false, false] #[true, false, true, true, false, false, false, false] rfl rfl rfl rfl (two_of HT_.out (by kernel_rfl)) (by decide) (by decide) (fun K hK => ?_) (fun K hK => ?_)
  ·skip
   refine goes_ Tryz.func35 (by kernel_rfl) rfl #[.slice A1 l1.length c1] (by rfl) rfl rfl t1_ ?_
   with_reducible refine (spec_l01Own.calls _ _ l1 t102 _ (c2_ HR1 HB) HC1.out A3.out).mono ?_
   rintro e w7 ⟨v103, rfl, ho0, hb⟩
   refine ⟨_, rfl, ?_⟩
   have HO104 := Aside0.mk (Kd.R_lower ho0 (below_size (gb_ HB.out)))
   replace BK101 := a2_ BK101 hb
   replace HB := b1_ HB hb
   (try clear hb ho0)
   refine hK.out _ _ ((blk_cell BK101.out 0).trans rfl) (fun hHeld => ?_)
   clear hK K
   refine nm_ ?_
   refine ow_ 3 17 HT_ fun K hK => ?_
   refine Kd.R_lit_step (Kd.int .i64) _ 2 ?hg (N := 17) ?hd (xs := ([] : List Int)) (inner := []) (ok := fun _ => True) (okp := fun _ => True) ?hr ?hp (fun _ hk => hk) trivial (Below.refl _ _) (Nat.le_refl _) (by simp) ?_; (case hd => rfl); (case hg => rfl); (case hr => exact t3_); (case hp => exact (Reps.none _ _))
   intro v106 w8 ho9 hb hg_ hnew_
   clear hg_ hnew_
   (first | rw [← Ny105.out] at ho9 | (simp only [Int.reduceToNat] at ho9; rw [← Ny105.out] at ho9))
   have HO107 := Aside0.mk (Kd.R_lower (Kd.R_new' ho9 (Kd.R_lt (rb_ HO104.out))) (below_size (gb_ HB.out)))
   replace HO104 := a5_ HO104 ho9 hb
   replace BK101 := a2_ BK101 hb
   replace HB := b1_ HB hb
   clear hb ho9
   refine hK.out _ _ ((blk_cell BK101.out 0).trans rfl) (fun hHeld => ?_)
   clear hK K
   refine nm_ ?_
   exact norm_ (by simp only [putAll, Act.put, List.setIfInBounds_toArray, List.set_cons_zero, List.set_cons_succ]) (hCont (v103, v106) _ ⟨hHeld, (rb_ (Kd.R_mono HO104.out (fun _ hk => hk.2))), (rb_ (Kd.R_mono HO107.out (fun _ hk => hk.2))), (bb_ BK101.out), (gb_ HB.out)⟩)
  ·skip
   refine Kd.R_lit_step (Kd.int .i64) _ 2 ?hg (N := 17) ?hd (xs := ([] : List Int)) (inner := []) (ok := fun _ => True) (okp := fun _ => True) ?hr ?hp (fun _ hk => hk) trivial (Below.refl _ _) (Nat.le_refl _) (by simp) ?_; (case hd => rfl); (case hg => rfl); (case hr => exact t3_); (case hp => exact (Reps.none _ _))
   intro v106 w7 ho8 hb hg_ hnew_
   clear hg_ hnew_
   (first | rw [← Ny105.out] at ho8 | (simp only [Int.reduceToNat] at ho8; rw [← Ny105.out] at ho8))
   have HO107 := Aside0.mk (Kd.R_lower ho8 (below_size (gb_ HB.out)))
   replace BK101 := a2_ BK101 hb
   replace HB := b1_ HB hb
   clear hb ho8
   refine hK.out _ _ ((blk_cell BK101.out 0).trans rfl) (fun hHeld => ?_)
   clear hK K
   refine nm_ ?_
   refine ow_ 1 15 HT_ fun K hK => ?_
   refine goes_ Tryz.func35 (by kernel_rfl) rfl #[.slice A1 l1.length c1] (by rfl) rfl rfl t1_ ?_
   with_reducible refine (spec_l01Own.calls _ _ l1 t102 _ (c2_ HR1 HB) HC1.out A3.out).mono ?_
   rintro e w9 ⟨v103, rfl, ho0, hb⟩
   refine ⟨_, rfl, ?_⟩
   have HO104 := Aside0.mk (Kd.R_lower (Kd.R_new' ho0 (Kd.R_lt (rb_ HO107.out))) (below_size (gb_ HB.out)))
   replace HO107 := a5_ HO107 ho0 hb
   replace BK101 := a2_ BK101 hb
   replace HB := b1_ HB hb
   (try clear hb ho0)
   refine hK.out _ _ ((blk_cell BK101.out 0).trans rfl) (fun hHeld => ?_)
   clear hK K
   refine nm_ ?_
   exact norm_ (by simp only [putAll, Act.put, List.setIfInBounds_toArray, List.set_cons_zero, List.set_cons_succ]) (hCont (v103, v106) _ ⟨hHeld, (rb_ (Kd.R_mono HO104.out (fun _ hk => hk.2))), (rb_ (Kd.R_mono HO107.out (fun _ hk => hk.2))), (bb_ BK101.out), (gb_ HB.out)⟩)
 rintro ⟨v103, v106⟩ w10 ⟨hS_, h0_, h1_, h2_, h3_⟩
 have n0_ : Aside0 (Kd.R (Kd.int .i64) 2 w10 w.heap.size (fun k_ => OB_ k_ v106) v103 t102) := ⟨h0_⟩
 have n1_ : Aside0 (Kd.R (Kd.int .i64) 2 w10 w.heap.size (fun k_ => OB_ k_ v103) v106 y105) := ⟨h1_⟩
 have n2_ : Aside0 (w10.heap[gb101]? = some (.cells #[.slice A0_0 l0_0.length c0_0] 26 (0, 0))) := ⟨h2_⟩
 have n3_ : Aside0 (Below w.heap.size w w10) := ⟨h3_⟩
 clear BK101 HB h0_ h1_ h2_ h3_
 have HO104 := n0_
 have HO107 := n1_
 have BK101 := n2_
 have HB := n3_
 clear n0_ n1_ n2_ n3_
 have hHeld : w10.cell? ⟨gb101, 0, none⟩ = some (.slice A0_0 l0_0.length c0_0) := hS_
 obtain ⟨Ao11, co11, eo11⟩ := Kd.R_slice HO107.out
 (first | subst eo11 | (injection eo11 with f1_ f2_ f3_; have f4_ := f1_.symm; have f5_ := f3_.symm; clear f1_ f2_ f3_; subst f4_; subst f5_))
 refine nj_ ?_
 refine ow_ 4 18 HT_ fun K hK => ?_
 refine goes_ Tryz.func55 (by kernel_rfl) rfl #[.agg #[.slice A0_0 l0_0.length c0_0], .slice Ao11 y105.length co11] (by rfl) rfl rfl t1_ ?_
 with_reducible refine (spec_l03Orders.calls k _ _ l0_0 (fun k_ => some k_ = (.slice Ao11 y105.length co11 : Value).ownBlock) _ _ y105 t108 _ ?side1 ?side2 ?side3 A4.out).mono ?_
 (case side1 => exact c2_ HR0_0 HB)
 (case side2 => exact HC0_0.out)
 (case side3 => exact Kd.R_V (Kd.R_tight rfl (Kd.R_types (HO107.out) BK101.out (by decide))))
 rintro e w12 ⟨v109, rfl, ho0, hb⟩
 refine ⟨_, rfl, ?_⟩
 have HO110 := Aside0.mk (Kd.N_lower (Kd.N_mono (ok' := fun k_ => OB_ k_ v103 ∧ k_ ≠ gb101) ho0 (fun k_ hk_ => ⟨Or.elim hk_ (fun hs_ => ((Kd.R_types (HO107.out) BK101.out (by decide)).1 k_ hs_.symm).1) (fun hn_ => (Kd.fresh' (Kd.R_lt (rb_ HO104.out)) k_ hn_)), Or.elim hk_ (fun hs_ => ((Kd.R_types (HO107.out) BK101.out (by decide)).1 k_ hs_.symm).2) (fun hn_ => (Kd.freshB (g := gb101) (o := .cells #[.slice A0_0 l0_0.length c0_0] 26 (0, 0)) (bb_ BK101.out) k_ hn_))⟩)) (below_size (gb_ HB.out)))
 replace HO104 := a1_ HO104 hb
 replace HO107 := a1_ HO107 hb
 replace BK101 := a2_ BK101 hb
 replace HB := b1_ HB hb
 (try clear hb ho0)
 refine hK.out _ _ ((blk_cell BK101.out 0).trans rfl) (fun hHeld => ?_)
 clear hK K
 refine nm_ ?_
 refine pv_ 5 6 HT_ ?_
 refine pv_ 6 7 HT_ ?_
 refine pv_ 7 8 HT_ ?_
 refine done_ (done_of HT_.out (by kernel_rfl)) ?_
 obtain ⟨Ao13, co13, eo13⟩ := Kd.N_slice HO110.out
 subst eo13
 try go_wp2
 go_loopg [6, 7, 21] k (fun kq v6 v7 v21 w' => ∃ (x6_1 : List Int) (x7_1 : Int) (x21_1 : Int), v7 = .int .i64 x7_1 ∧ v21 = .int .i64 x21_1 ∧ Aside0 (spec_l03Least.l0 kq l1 x6_1 x7_1 t108 (t108.length : Int) x21_1 l0_0 = some (r1, r2)) ∧ Aside0 (kq ≤ k) ∧ Aside0 (Kd.R (Kd.int .i64) 2 w' w.heap.size (fun _ => True) v6 x6_1) ∧ Aside0 (Kd.N (Kd.slice 2 (Kd.int .i64)) 24 w' w.heap.size (fun k_ => OB_ k_ v6 ∧ k_ ≠ gb101) (.slice Ao13 t108.length co13) t108) ∧ Aside0 (w'.heap[gb101]? = some (.cells #[(.slice A0_0 l0_0.length c0_0)] 26 (0, 0))) ∧ Aside0 (Below w.heap.size w w'))
 case atStart => exact ⟨(t102), (0), (0), t2_, t2_, H', ⟨Nat.le_refl _⟩, ⟨rb_ (Kd.R_mono HO104.out (fun _ hk => trivial))⟩, ⟨nb_ HO110.out⟩, ⟨bb_ BK101.out⟩, ⟨gb_ HB.out⟩⟩
 clear H'
 try clear c1
 try clear c2
 try clear p2
 try clear c3
 try clear c5
 obtain ⟨x6_1, x7_1, x21_1, rfl, rfl, HA, HK1, HO_6, HO_8, BK101, HB⟩ := hrel
 obtain _ | k1 := gk
 ·exact absurd HA.out (by simp [spec_l03Least.l0])
 have H := HA.out
 clear HA
 simp only [spec_l03Least.l0] at H
 replace H := ie_ H
 obtain ⟨c14b0, H⟩ | ⟨c14b0, H⟩ := H
 ·simp only [Option.some.injEq, Prod.mk.injEq] at H
  obtain ⟨rfl, rfl⟩ := H
  go_wp2
  go_ret2
  exact ⟨_, t5_, rb_ HO_6.out, gb_ HB.out⟩

 replace H := id_ H
 obtain ⟨c15b0, H⟩ := H
 replace H := id_ H
 obtain ⟨c16b0, H⟩ := H
 replace H := bd_ H
 obtain ⟨⟨t112, t115⟩, A17, H⟩ := H
 try dsimp only at H
 have H' := Aside0.mk H
 clear H
 try go_wp2
 replace HO_6 := Aside0.mk (Kd.R_drew HO_6.out)
 replace HO_8 := Aside0.mk (Kd.N_drew HO_8.out)
 replace BK101 := Aside0.mk (blk_drew BK101.out)
 replace HB := Aside0.mk (below_drew1 HB.out)
 have p111 : 0 ≤ (x21_1 : Int) := of_decide_eq_true t6_
 have q111 : x21_1 < (t108.length : Int) := of_decide_eq_true t6_
 obtain ⟨ad111, A111_0, c111_0, e111, hx111_0, hl111_0, hi111_0⟩ := at_L2 (Kd.N_reads' HO_8.out).2.2 x21_1 p111 q111
 cases e111
 obtain ⟨ce111, hce111, hMe111, hcc111⟩ := Kd.N_get HO_8.out [] x21_1 p111 (by first | exact q111 | exact of_decide_eq_true t6_ | (have e_ := (Kd.N_reads' HO_8.out).1; omega))
 obtain ⟨ua111_0, uc111_0, rfl, ul111_0, ge111_0⟩ := Kd.FK_slice_open hMe111
 have hv111_0 := hcc111 0 _ rfl
 rw [Nat.add_zero, show ((Kd.slice 2 (Kd.int .i64))).sz = 1 from rfl, Nat.mul_one] at hv111_0
 replace hv111_0 := Option.some.inj (hv111_0.symm.trans hx111_0)
 injection hv111_0 with hva_ hvn_ hvc_
 rw [hva_] at ge111_0
 rw [hvc_] at ul111_0
 have HL111_0 := Aside0.mk (show Kd.V (Kd.int .i64) 2 _ w.heap.size _ _ (rd_L2 t108 x21_1) from Kd.V_mk ul111_0 ge111_0)
 clear hva_ hvn_ hvc_ ge111_0 ul111_0 hcc111 hce111
 have HR111_0 := Aside0.mk hi111_0
 have HC111_0 := Aside0.mk hl111_0
 clear hi111_0 hl111_0
 replace p111 := eq_true p111
 replace q111 := eq_true q111
 refine sr_ (n := 13) (S := fun w' => w'.cell? ⟨gb101, 0, none⟩ = some (.slice A0_0 l0_0.length c0_0) ∧ w'.cell? (ad111.add (x21_1).toNat) = some (.slice A111_0 (rd_L2 t108 x21_1).length c111_0)) (ds := []) ⟨(blk_cell BK101.out 0).trans rfl, hx111_0⟩ spec_l03Least.tab5 spec_l03Least.bits5 fun hHeld HT_ HW_ => ?_
 generalize wr.drew = w18 at HO_6 HO_8 BK101 HB HL111_0 HR111_0 hx111_0 hHeld ⊢
 refine pv_ 1 26 HT_ ?_
 refine pv_ 2 27 HT_ ?_
 refine pv_ 3 28 HT_ ?_
 refine pv_ 4 29 HT_ ?_
 refine tv2_ 0 25 HT_ HW_ hHeld ?_
 refine tv2_ 5 30 HT_ HW_ hHeld ?_
 refine join_ (σ := Value × Value × Nat) 2 #[true, true, true, true, true, true, true, true, true, true, true, false, false] (fun s_ => [(31, .tuple #[.agg #[s_.1], s_.2.1]), (10, .pointer (some ⟨s_.2.2, 0, none⟩)), (24, .tuple #[.agg #[s_.1], s_.2.1]), (32, .agg #[s_.1]), (33, s_.2.1)]) (fun s_ w' => (w'.cell? ⟨gb101, 0, none⟩ = some (.slice A0_0 l0_0.length c0_0) ∧ w'.cell? (ad111.add (x21_1).toNat) = some (.slice A111_0 (rd_L2 t108 x21_1).length c111_0)) ∧ (Kd.V (Kd.int .i64) 2 w' w.heap.size (fun k_ => OB_ k_ s_.1 ∧ OB_ k_ s_.2.1 ∧ OB_ k_ u6 ∧ OB_ k_ (.slice (some ad111) t108.length co13) ∧ k_ ≠ gb101 ∧ k_ ≠ s_.2.2) (.slice A111_0 (rd_L2 t108 x21_1).length c111_0) (rd_L2 t108 x21_1)) ∧ (Kd.R (Kd.int .i64) 2 w' w.heap.size (fun k_ => OB_ k_ s_.2.1 ∧ OB_ k_ u6) s_.1 t112) ∧ (Kd.R (Kd.int .i64) 2 w' w.heap.size (fun k_ => OB_ k_ s_.1 ∧ OB_ k_ u6) s_.2.1 t115) ∧ (Kd.R (Kd.int .i64) 2 w' w.heap.size (fun k_ => OB_ k_ s_.1 ∧ OB_ k_ s_.2.1) u6 x6_1) ∧ (Kd.N (Kd.slice 2 (Kd.int .i64)) 24 w' w.heap.size (fun k_ => OB_ k_ s_.1 ∧ OB_ k_ s_.2.1 ∧ OB_ k_ u6 ∧ k_ ≠ gb101 ∧ k_ ≠ s_.2.2) (.slice (some ad111) t108.length co13) t108) ∧ (w'.heap[gb101]? = some (.cells #[.slice A0_0 l0_0.length c0_0] 26 (0, 0))) ∧ (w'.heap[s_.2.2]? = some (.cells #[.slice none 0 0] 26 (0, 0))) ∧ (w.heap.size ≤ s_.2.2) ∧ (w.heap.size ≤ s_.2.2) ∧ (gb101 ≠ s_.2.2) ∧ (s_.2.2 ≠ gb101) ∧ (Below w.heap.size w w')) ?_ ?_
 rotate_left
 ·intro hCont
  refine two_ (i := 6) (j := 10) (Ni := some 31) (Nj := some 10) #[true, true, true, true, true, true, true, false, false, false, false, false, false] #[true, true, true, true, true, true, false, false, false, false, true, false, false] rfl rfl rfl rfl (two_of HT_.out (by kernel_rfl)) (by decide) (by decide) (fun K hK => ?_) (fun K hK => ?_)
  ·skip
   refine goes_ Tryz.func56 (by kernel_rfl) rfl #[.agg #[.slice A0_0 l0_0.length c0_0], .slice A1 l1.length c1, .slice A111_0 (rd_L2 t108 x21_1).length c111_0] (by rfl) rfl rfl t1_ ?_
   with_reducible refine (spec_l03Places.calls k1 _ _ l0_0 _ _ l1 _ _ (rd_L2 t108 x21_1) t112 t115 _ (c2_ HR0_0 HB) HC0_0.out (c2_ HR1 HB) HC1.out ?side5 ?side6 A17.out).mono ?_
   (case side5 => exact cb_ HR111_0)
   (case side6 => exact HC111_0.out)
   rintro e w19 ⟨v113, v116, rfl, ho0, ho1, hb⟩
   have HS1_ := (hb.cell (World.block_lt_of_cell? _ _ (hHeld.2))).trans (hHeld.2)
   refine ⟨_, rfl, ?_⟩
   replace HO_8 := Aside0.mk (Kd.N_mono (Kd.N_told (Kd.N_told (Kd.N_old (nb_ HO_8.out) hb) (Kd.R_base ho0)) (Kd.R_base ho1)) (fun _ h_ => h_.1))
   replace HL111_0 := Aside0.mk (Kd.V_mono (Kd.V_told (Kd.V_told (Kd.V_old (vb_ HL111_0.out) hb) (Kd.R_base ho0)) (Kd.R_base ho1)) (fun _ h_ => h_.1))
   have HO114 := Aside0.mk (Kd.R_lower (Kd.R_new' ho0 (Kd.R_lt (rb_ HO_6.out))) (below_size (gb_ HB.out)))
   have HO117 := Aside0.mk (Kd.R_lower (Kd.R_new' ho1 (Kd.R_lt (rb_ HO_6.out))) (below_size (gb_ HB.out)))
   replace HO_6 := Aside0.mk (Kd.R_mono (Kd.R_told (Kd.R_told (Kd.R_old (rb_ HO_6.out) hb) (Kd.R_base ho0)) (Kd.R_base ho1)) (fun _ h_ => h_.1))
   replace BK101 := a2_ BK101 hb
   replace HR111_0 := Aside0.mk (Kd.C_below (cb_ HR111_0) hb)
   replace HB := b1_ HB hb
   (try clear hb ho0 ho1)
   refine hK.out _ _ ⟨(blk_cell BK101.out 0).trans rfl, HS1_⟩ (fun hHeld => ?_)
   clear hK K
   refine nm_ ?_
   refine pv_ 7 24 HT_ ?_
   refine pv_ 8 32 HT_ ?_
   refine pv_ 9 33 HT_ ?_
   refine ow_ 10 10 HT_ fun K hK => ?_
   refine box_step ?hg (N := 10) ?hd (cs := #[.slice none 0 0]) (t := 26) ?hr ?_; (case hd => rfl); (case hg => rfl); (case hr => exact t3_)
   intro gb118 hg w20 hbox hb
   have HS1_ := (hb.cell (World.block_lt_of_cell? _ _ (hHeld.2))).trans (hHeld.2)
   have n0_ := a1_ HO_6 hb
   have n1_ := Aside0.mk (Kd.N_below (Kd.N_elderB (nb_ HO_8.out) gb118 (Nat.le_of_eq hg.symm)) hb)
   have n2_ := Aside0.mk (Kd.V_below (Kd.V_elderB (vb_ HL111_0.out) gb118 (Nat.le_of_eq hg.symm)) hb)
   have n3_ := a1_ HO114 hb
   have n4_ := a1_ HO117 hb
   have n5_ := a2_ BK101 hb
   have n6_ := Aside0.mk (Kd.C_below (cb_ HR111_0) hb)
   have n7_ := b1_ HB hb
   have n8_ := Aside0.mk (hbox)
   have n9_ := ge_ hg HB
   have n10_ := ge_ hg HB
   have n11_ := nl_ hg BK101
   have n12_ := nr_ hg BK101
   clear HO_6 HO_8 HL111_0 HO114 HO117 BK101 HR111_0 HB
   have HO_6 := n0_
   have HO_8 := n1_
   have HL111_0 := n2_
   have HO114 := n3_
   have HO117 := n4_
   have BK101 := n5_
   have HR111_0 := n6_
   have HB := n7_
   have BK118 := n8_
   have GW118 := n9_
   have GE118 := n10_
   have NB101_118 := n11_
   have NB118_101 := n12_
   clear n0_ n1_ n2_ n3_ n4_ n5_ n6_ n7_ n8_ n9_ n10_ n11_ n12_ hb hbox hg
   refine hK.out _ _ ⟨(blk_cell BK101.out 0).trans rfl, HS1_⟩ (fun hHeld => ?_)
   clear hK K
   refine nm_ ?_
   exact norm_ (by simp only [putAll, Act.put, List.setIfInBounds_toArray, List.set_cons_zero, List.set_cons_succ]) (hCont (v113, v116, gb118) _ ⟨hHeld, (vb_ (Kd.V_mono HL111_0.out (fun _ hk => ⟨hk.1.1.2, ⟨hk.1.2, ⟨hk.1.1.1.1.1, ⟨hk.1.1.1.2, ⟨hk.1.1.1.1.2, hk.2⟩⟩⟩⟩⟩))), (rb_ HO114.out), (rb_ HO117.out), (rb_ (Kd.R_mono HO_6.out (fun _ hk => ⟨hk.1.2, hk.2⟩))), (nb_ (Kd.N_mono HO_8.out (fun _ hk => ⟨hk.1.1.2, ⟨hk.1.2, ⟨hk.1.1.1.1, ⟨hk.1.1.1.2, hk.2⟩⟩⟩⟩))), (bb_ BK101.out), (bb_ BK118.out), GW118.out, GE118.out, NB101_118.out, NB118_101.out, (gb_ HB.out)⟩)
  ·skip
   refine box_step ?hg (N := 10) ?hd (cs := #[.slice none 0 0]) (t := 26) ?hr ?_; (case hd => rfl); (case hg => rfl); (case hr => exact t3_)
   intro gb118 hg w19 hbox hb
   have HS1_ := (hb.cell (World.block_lt_of_cell? _ _ (hHeld.2))).trans (hHeld.2)
   have n0_ := a1_ HO_6 hb
   have n1_ := Aside0.mk (Kd.N_below (Kd.N_elderB (nb_ HO_8.out) gb118 (Nat.le_of_eq hg.symm)) hb)
   have n2_ := Aside0.mk (Kd.V_below (Kd.V_elderB (vb_ HL111_0.out) gb118 (Nat.le_of_eq hg.symm)) hb)
   have n3_ := a2_ BK101 hb
   have n4_ := Aside0.mk (Kd.C_below (cb_ HR111_0) hb)
   have n5_ := b1_ HB hb
   have n6_ := Aside0.mk (hbox)
   have n7_ := ge_ hg HB
   have n8_ := ge_ hg HB
   have n9_ := nl_ hg BK101
   have n10_ := nr_ hg BK101
   clear HO_6 HO_8 HL111_0 BK101 HR111_0 HB
   have HO_6 := n0_
   have HO_8 := n1_
   have HL111_0 := n2_
   have BK101 := n3_
   have HR111_0 := n4_
   have HB := n5_
   have BK118 := n6_
   have GW118 := n7_
   have GE118 := n8_
   have NB101_118 := n9_
   have NB118_101 := n10_
   clear n0_ n1_ n2_ n3_ n4_ n5_ n6_ n7_ n8_ n9_ n10_ hb hbox hg
   refine hK.out _ _ ⟨(blk_cell BK101.out 0).trans rfl, HS1_⟩ (fun hHeld => ?_)
   clear hK K
   refine nm_ ?_
   refine ow_ 6 31 HT_ fun K hK => ?_
   refine goes_ Tryz.func56 (by kernel_rfl) rfl #[.agg #[.slice A0_0 l0_0.length c0_0], .slice A1 l1.length c1, .slice A111_0 (rd_L2 t108 x21_1).length c111_0] (by rfl) rfl rfl t1_ ?_
   with_reducible refine (spec_l03Places.calls k1 _ _ l0_0 _ _ l1 _ _ (rd_L2 t108 x21_1) t112 t115 _ (c2_ HR0_0 HB) HC0_0.out (c2_ HR1 HB) HC1.out ?side5 ?side6 A17.out).mono ?_
   (case side5 => exact cb_ HR111_0)
   (case side6 => exact HC111_0.out)
   rintro e w20 ⟨v113, v116, rfl, ho0, ho1, hb⟩
   have HS1_ := (hb.cell (World.block_lt_of_cell? _ _ (hHeld.2))).trans (hHeld.2)
   refine ⟨_, rfl, ?_⟩
   replace HO_8 := Aside0.mk (Kd.N_mono (Kd.N_told (Kd.N_told (Kd.N_old (nb_ HO_8.out) hb) (Kd.R_base ho0)) (Kd.R_base ho1)) (fun _ h_ => h_.1))
   replace HL111_0 := Aside0.mk (Kd.V_mono (Kd.V_told (Kd.V_told (Kd.V_old (vb_ HL111_0.out) hb) (Kd.R_base ho0)) (Kd.R_base ho1)) (fun _ h_ => h_.1))
   have HO114 := Aside0.mk (Kd.R_lower (Kd.R_new' ho0 (Kd.R_lt (rb_ HO_6.out))) (below_size (gb_ HB.out)))
   have HO117 := Aside0.mk (Kd.R_lower (Kd.R_new' ho1 (Kd.R_lt (rb_ HO_6.out))) (below_size (gb_ HB.out)))
   replace HO_6 := Aside0.mk (Kd.R_mono (Kd.R_told (Kd.R_told (Kd.R_old (rb_ HO_6.out) hb) (Kd.R_base ho0)) (Kd.R_base ho1)) (fun _ h_ => h_.1))
   replace BK101 := a2_ BK101 hb
   replace HR111_0 := Aside0.mk (Kd.C_below (cb_ HR111_0) hb)
   replace BK118 := a2_ BK118 hb
   replace HB := b1_ HB hb
   (try clear hb ho0 ho1)
   refine hK.out _ _ ⟨(blk_cell BK101.out 0).trans rfl, HS1_⟩ (fun hHeld => ?_)
   clear hK K
   refine nm_ ?_
   refine pv_ 7 24 HT_ ?_
   refine pv_ 8 32 HT_ ?_
   refine pv_ 9 33 HT_ ?_
   exact norm_ (by simp only [putAll, Act.put, List.setIfInBounds_toArray, List.set_cons_zero, List.set_cons_succ]) (hCont (v113, v116, gb118) _ ⟨hHeld, (vb_ (Kd.V_mono HL111_0.out (fun _ hk => ⟨hk.1.2, ⟨hk.2, ⟨hk.1.1.1.1.1, ⟨hk.1.1.1.2, ⟨hk.1.1.1.1.2, hk.1.1.2⟩⟩⟩⟩⟩))), (rb_ HO114.out), (rb_ HO117.out), (rb_ (Kd.R_mono HO_6.out (fun _ hk => ⟨hk.1.2, hk.2⟩))), (nb_ (Kd.N_mono HO_8.out (fun _ hk => ⟨hk.1.2, ⟨hk.2, ⟨hk.1.1.1.1, ⟨hk.1.1.1.2, hk.1.1.2⟩⟩⟩⟩))), (bb_ BK101.out), (bb_ BK118.out), GW118.out, GE118.out, NB101_118.out, NB118_101.out, (gb_ HB.out)⟩)
 rintro ⟨v113, v116, gb118⟩ w21 ⟨hS_, h0_, h1_, h2_, h3_, h4_, h5_, h6_, h7_, h8_, h9_, h10_, h11_⟩
 have n0_ : Aside0 (Kd.V (Kd.int .i64) 2 w21 w.heap.size (fun k_ => OB_ k_ v113 ∧ OB_ k_ v116 ∧ OB_ k_ u6 ∧ OB_ k_ (.slice (some ad111) t108.length co13) ∧ k_ ≠ gb101 ∧ k_ ≠ gb118) (.slice A111_0 (rd_L2 t108 x21_1).length c111_0) (rd_L2 t108 x21_1)) := ⟨h0_⟩
 have n1_ : Aside0 (Kd.R (Kd.int .i64) 2 w21 w.heap.size (fun k_ => OB_ k_ v116 ∧ OB_ k_ u6) v113 t112) := ⟨h1_⟩
 have n2_ : Aside0 (Kd.R (Kd.int .i64) 2 w21 w.heap.size (fun k_ => OB_ k_ v113 ∧ OB_ k_ u6) v116 t115) := ⟨h2_⟩
 have n3_ : Aside0 (Kd.R (Kd.int .i64) 2 w21 w.heap.size (fun k_ => OB_ k_ v113 ∧ OB_ k_ v116) u6 x6_1) := ⟨h3_⟩
 have n4_ : Aside0 (Kd.N (Kd.slice 2 (Kd.int .i64)) 24 w21 w.heap.size (fun k_ => OB_ k_ v113 ∧ OB_ k_ v116 ∧ OB_ k_ u6 ∧ k_ ≠ gb101 ∧ k_ ≠ gb118) (.slice (some ad111) t108.length co13) t108) := ⟨h4_⟩
 have n5_ : Aside0 (w21.heap[gb101]? = some (.cells #[.slice A0_0 l0_0.length c0_0] 26 (0, 0))) := ⟨h5_⟩
 have n6_ : Aside0 (w21.heap[gb118]? = some (.cells #[.slice none 0 0] 26 (0, 0))) := ⟨h6_⟩
 have n7_ : Aside0 (w.heap.size ≤ gb118) := ⟨h7_⟩
 have n8_ : Aside0 (w.heap.size ≤ gb118) := ⟨h8_⟩
 have n9_ : Aside0 (gb101 ≠ gb118) := ⟨h9_⟩
 have n10_ : Aside0 (gb118 ≠ gb101) := ⟨h10_⟩
 have n11_ : Aside0 (Below w.heap.size w w21) := ⟨h11_⟩
 clear HO_6 HO_8 BK101 HB h0_ h1_ h2_ h3_ h4_ h5_ h6_ h7_ h8_ h9_ h10_ h11_
 have HL111_0 := n0_
 have HO114 := n1_
 have HO117 := n2_
 have HO_6 := n3_
 have HO_8 := n4_
 have BK101 := n5_
 have BK118 := n6_
 have GW118 := n7_
 have GE118 := n8_
 have NB101_118 := n9_
 have NB118_101 := n10_
 have HB := n11_
 clear n0_ n1_ n2_ n3_ n4_ n5_ n6_ n7_ n8_ n9_ n10_ n11_
 have hHeld : w21.cell? ⟨gb101, 0, none⟩ = some (.slice A0_0 l0_0.length c0_0) ∧ w21.cell? (ad111.add (x21_1).toNat) = some (.slice A111_0 (rd_L2 t108 x21_1).length c111_0) := hS_
 obtain ⟨Ao22, co22, eo22⟩ := Kd.R_slice HO114.out
 (first | subst eo22 | (injection eo22 with f1_ f2_ f3_; have f4_ := f1_.symm; have f5_ := f3_.symm; clear f1_ f2_ f3_; subst f4_; subst f5_))
 refine nj_ ?_
 refine on_ (i := 11) (N := none) #[true, true, true, true, true, true, true, true, true, true, true, true, false] rfl rfl HT_ (fun K hK => ?_)
 have hs23 : w21.cell? ⟨gb118, 0, none⟩ = some (.slice none 0 0) := (blk_cell BK118.out 0).trans rfl
 have hfs23 := blk_frozen BK118.out 0
 have hns23_0 := NB101_118.out
 have hms23_0 := NB118_101.out
 refine skip_ (w1 := ?_) (by rfl) rfl ?_ ?_
 rotate_left
 ·go_simp
  rfl
 refine hK.out _ _ ⟨((cell_far (p := ⟨gb118, _, none⟩) NB101_118.out _).trans (hHeld.1)), ((cell_far (p := ⟨gb118, _, none⟩) (by first | exact Kd.own_blk (Kd.N_away HO_8.out (fun _ hk => hk.2.2.2.2)) | (rw [add_block]; exact Kd.own_blk (Kd.N_away HO_8.out (fun _ hk => hk.2.2.2.2))) | (show (Addr.add _ _).block ≠ _; rw [add_block]; exact Kd.own_blk (Kd.N_away HO_8.out (fun _ hk => hk.2.2.2.2))) | (dsimp only; exact Kd.own_blk (Kd.N_away HO_8.out (fun _ hk => hk.2.2.2.2)))) _).trans (hHeld.2))⟩ (fun hHeld => ?_)
 clear hK K
 refine pv_ 12 11 HT_ ?_
 refine done_ (done_of HT_.out (by kernel_rfl)) ?_
 try go_wp2
 go_loopg [6, 7, 12] k1 (fun kq v6 v7 v12 w' => ∃ (x6_2 : List Int) (x7_2 : Int) (x12_2 : Int), v7 = .int .i64 x7_2 ∧ v12 = .int .i64 x12_2 ∧ Aside0 (spec_l03Least.l1 kq l1 x6_2 x7_2 t108 t115 x12_2 (t108.length : Int) x21_1 l0_0 = some (r1, r2)) ∧ Aside0 (kq ≤ k1) ∧ Aside0 (Kd.R (Kd.int .i64) 2 w' w.heap.size (fun k_ => OB_ k_ v116 ∧ OB_ k_ (.slice Ao22 t112.length co22)) v6 x6_2) ∧ Aside0 (Kd.N (Kd.slice 2 (Kd.int .i64)) 24 w' w.heap.size (fun k_ => OB_ k_ v6 ∧ OB_ k_ v116 ∧ OB_ k_ (.slice Ao22 t112.length co22) ∧ k_ ≠ gb101 ∧ k_ ≠ gb118) (.slice (some ad111) t108.length co13) t108) ∧ Aside0 (Kd.R (Kd.int .i64) 2 w' w.heap.size (fun k_ => OB_ k_ v6 ∧ OB_ k_ (.slice Ao22 t112.length co22)) v116 t115) ∧ Aside0 (Kd.R (Kd.int .i64) 2 w' w.heap.size (fun k_ => OB_ k_ v6 ∧ OB_ k_ v116) (.slice Ao22 t112.length co22) t112) ∧ Aside0 (w'.heap[gb101]? = some (.cells #[(.slice A0_0 l0_0.length c0_0)] 26 (0, 0))) ∧ Aside0 (w'.heap[gb118]? = some (.cells #[(.slice Ao22 t112.length co22)] 26 (0, 0))) ∧ Aside0 (Below w.heap.size w w'))
 case atStart => exact ⟨(x6_1), (x7_1), (0), t2_, t2_, H', ⟨Nat.le_refl _⟩, ⟨by (with_reducible repeat (first | apply Kd.R_alloc | apply Kd.R_drewN | apply Kd.R_drew)); exact Kd.R_mono (Kd.R_far (p := ⟨gb118, 0, none⟩) (Kd.R_types HO_6.out BK118.out (by decide)) (fun _ hk => hk.2) (.slice Ao22 t112.length co22)) (fun _ hk => ⟨hk.1.2, hk.1.1⟩)⟩, ⟨by (with_reducible repeat (first | apply Kd.N_alloc | apply Kd.N_drewN | apply Kd.N_drew)); exact Kd.N_mono (Kd.N_far (p := ⟨gb118, 0, none⟩) (Kd.N_mono HO_8.out (fun k_ hk => (⟨hk, hk.2.2.2.2⟩ : _ ∧ k_ ≠ gb118))) (fun _ hk => hk.2) (.slice Ao22 t112.length co22)) (fun _ hk => ⟨hk.1.2.2.1, ⟨hk.1.2.1, ⟨hk.1.1, ⟨hk.1.2.2.2.1, hk.1.2.2.2.2⟩⟩⟩⟩)⟩, ⟨by (with_reducible repeat (first | apply Kd.R_alloc | apply Kd.R_drewN | apply Kd.R_drew)); exact Kd.R_mono (Kd.R_far (p := ⟨gb118, 0, none⟩) (Kd.R_types HO117.out BK118.out (by decide)) (fun _ hk => hk.2) (.slice Ao22 t112.length co22)) (fun _ hk => ⟨hk.1.2, hk.1.1⟩)⟩, ⟨by (with_reducible repeat (first | apply Kd.R_alloc | apply Kd.R_drewN | apply Kd.R_drew)); exact Kd.R_mono (Kd.R_far (p := ⟨gb118, 0, none⟩) (Kd.R_types HO114.out BK118.out (by decide)) (fun _ hk => hk.2) (.slice Ao22 t112.length co22)) (fun _ hk => ⟨hk.1.2, hk.1.1⟩)⟩, ⟨by (with_reducible repeat (first | refine blk_drewN ?_ _ | refine blk_drew ?_ | refine blk_alloc ?_ _)); refine blk_far ?_ NB101_118.out _; (with_reducible repeat (first | refine blk_drewN ?_ _ | refine blk_drew ?_ | refine blk_alloc ?_ _)); exact BK101.out⟩, ⟨by (with_reducible repeat (first | refine blk_drewN ?_ _ | refine blk_drew ?_ | refine blk_alloc ?_ _)); refine blk_put (cs := #[.slice none 0 0]) ?_ 0 _ rfl; (with_reducible repeat (first | refine blk_drewN ?_ _ | refine blk_drew ?_ | refine blk_alloc ?_ _)); exact BK118.out⟩, ⟨gb_ HB.out⟩⟩
 clear H'
 try clear c1
 try clear p1
 try clear q1
 try clear hx1
 try clear c2
 try clear p2
 try clear c3
 try clear c5
 try clear c11
 try clear p11
 try clear q11
 try clear hx11
 try clear c14
 try clear c14b0
 try clear c15
 try clear c15b0
 try clear c16
 try clear c16b0
 try clear hx111_0
 try clear p111
 try clear p2
 try clear q111
 obtain ⟨x6_2, x7_2, x12_2, rfl, rfl, HA, HK2, HO_6, HO_8, HO_11, HO_119000, BK101, BK118, HB⟩ := hrel
 obtain _ | k2 := gk
 ·exact absurd HA.out (by simp [spec_l03Least.l1])
 have H := HA.out
 clear HA
 simp only [spec_l03Least.l1] at H
 replace H := bd_ H
 obtain ⟨t119, A24, H⟩ := H
 replace H := ie_ H
 obtain ⟨c25b0, H⟩ | ⟨c25b0, H⟩ := H
 ·have H' := Aside0.mk H
  clear H
  have hnb42 := NB101_118.out
  have hnc42 := NB118_101.out
  have hcz43_0 := hz_ BK101
  have hfz43_0 := blk_frozen BK101.out 0
  go_wp2_with (first | ((with_reducible refine gate_callee (f := 53) rfl ?_); refine gl_ (some 36) rfl rfl Tryz.func53 #[.agg #[.slice A0_0 l0_0.length c0_0]] rfl ?_; (with_reducible refine (spec_l01N.calls k2 _ _ l0_0 t119 _ (c2_ HR0_0 HB) HC0_0.out A24.out).mono ?_); rintro e w44 ⟨rfl, hb⟩; refine ⟨_, rfl, ?_⟩; replace HO_6 := a1_ HO_6 hb; replace HO_8 := Aside0.mk (Kd.N_below (nb_ HO_8.out) hb); replace HO_11 := a1_ HO_11 hb; replace HO_119000 := a1_ HO_119000 hb; replace BK101 := a2_ BK101 hb; replace BK118 := a2_ BK118 hb; replace HB := b1_ HB hb; (try clear hb); (try clear hb2); (try clear hk); (try clear hi)))
  go_roundg k2
  case measure => have := HK1.out; have := HK2.out; omega
  case rel => exact ⟨(x6_2), (x7_2), (wrap64 (x21_1 + 1)), t2_, t2_, H', ⟨by have := HK1.out; have := HK2.out; omega⟩, ⟨rb_ (Kd.R_mono HO_6.out (fun _ hk => trivial))⟩, ⟨nb_ (Kd.N_mono HO_8.out (fun _ hk => ⟨hk.1, hk.2.2.2.1⟩))⟩, ⟨bb_ BK101.out⟩, ⟨gb_ HB.out⟩⟩
 replace H := bd_ H
 obtain ⟨t120, A26, H⟩ := H
 replace H := bd_ H
 obtain ⟨t123, A27, H⟩ := H
 have HC28 := Aside0.mk H
 clear H
 have hnb29 := NB101_118.out
 have hnc29 := NB118_101.out
 have hcz30_0 := hz_ BK101
 have hfz30_0 := blk_frozen BK101.out 0
 go_upto_if 46 with (first | ((with_reducible refine gate_callee (f := 53) rfl ?_); refine gl_ (some 36) rfl rfl Tryz.func53 #[.agg #[.slice A0_0 l0_0.length c0_0]] rfl ?_; (with_reducible refine (spec_l01N.calls k2 _ _ l0_0 t119 _ (c2_ HR0_0 HB) HC0_0.out A24.out).mono ?_); rintro e w31 ⟨rfl, hb⟩; refine ⟨_, rfl, ?_⟩; replace HO_6 := a1_ HO_6 hb; replace HO_8 := Aside0.mk (Kd.N_below (nb_ HO_8.out) hb); replace HO_11 := a1_ HO_11 hb; replace HO_119000 := a1_ HO_119000 hb; replace BK101 := a2_ BK101 hb; replace BK118 := a2_ BK118 hb; replace HB := b1_ HB hb; (try clear hb); (try clear hb2); (try clear hk); (try clear hi); have hcz32_0 := hz_ BK101; have hfz32_0 := blk_frozen BK101.out 0; obtain ⟨Ao33, co33, eo33⟩ := Kd.R_slice HO_11.out; subst eo33) | ((with_reducible refine gate_callee (f := 54) rfl ?_); refine gl_ (some 43) rfl rfl Tryz.func54 #[.agg #[.slice A0_0 l0_0.length c0_0], .slice Ao33 t115.length co33, .int .i64 x12_2] rfl ?_; (with_reducible refine (spec_l01Shifted.calls k2 _ _ l0_0 _ _ t115 x12_2 t120 _ ?side1 ?side2 ?side3 ?side4 A26.out).mono ?_); (case side1 => exact c2_ HR0_0 HB); (case side2 => exact HC0_0.out); (case side3 => exact c1_ HO_11); (case side4 => exact (Kd.R_reads' HO_11.out).2.1); rintro e w34 ⟨v121, rfl, ho0, hb⟩; refine ⟨_, rfl, ?_⟩; replace HO_8 := Aside0.mk (Kd.N_elder' (nb_ HO_8.out) (Kd.R_base ho0) hb); have HO122 := Aside0.mk (Kd.R_lower (Kd.R_new' (Kd.R_new' (Kd.R_new' ho0 (Kd.R_lt (rb_ HO_6.out))) (Kd.R_lt (rb_ HO_11.out))) (Kd.R_lt (rb_ HO_119000.out))) (below_size (gb_ HB.out))); replace HO_6 := a5_ HO_6 ho0 hb; replace HO_11 := a5_ HO_11 ho0 hb; replace HO_119000 := a5_ HO_119000 ho0 hb; replace BK101 := a2_ BK101 hb; replace BK118 := a2_ BK118 hb; replace HB := b1_ HB hb; (try clear hb); (try clear hb2); (try clear hk); (try clear hi); (try clear ho0); obtain ⟨Ao35, co35, eo35⟩ := Kd.R_slice HO122.out; subst eo35; obtain ⟨Ao36, co36, eo36⟩ := Kd.R_slice HO_6.out; subst eo36) | ((with_reducible refine gate_callee (f := 25) rfl ?_); refine gl_ (some 46) rfl rfl Tryz.func25 #[.slice Ao35 t120.length co35, .slice Ao36 x6_2.length co36] rfl ?_; (with_reducible refine (spec_l03Before.calls k2 _ _ t120 _ _ x6_2 t123 _ ?side1 ?side2 ?side3 ?side4 A27.out).mono ?_); (case side1 => exact c1_ HO122); (case side2 => exact (Kd.R_reads' HO122.out).2.1); (case side3 => exact c1_ HO_6); (case side4 => exact (Kd.R_reads' HO_6.out).2.1); rintro e w' ⟨rfl, ⟨nd, rfl⟩⟩; refine ⟨_, rfl, ?_⟩))
 (try simp only [Act.put, List.setIfInBounds_toArray, List.set_cons_zero, List.set_cons_succ])
 go_cut [6] (fun v6 wc => ∃ (kq : Nat) (x6_27 : List Int), Aside0 (spec_l03Least.j2 kq l1 x6_27 x7_2 t108 t115 x12_2 t120 (t108.length : Int) x21_1 l0_0 = some (r1, r2)) ∧ Aside0 (kq ≤ k2) ∧ Aside0 (Kd.R (Kd.int .i64) 2 wc w.heap.size (fun k_ => OB_ k_ (.slice Ao33 t115.length co33) ∧ OB_ k_ (.slice Ao22 t112.length co22)) v6 x6_27) ∧ Aside0 (Kd.N (Kd.slice 2 (Kd.int .i64)) 24 wc w.heap.size (fun k_ => OB_ k_ v6 ∧ OB_ k_ (.slice Ao33 t115.length co33) ∧ OB_ k_ (.slice Ao35 t120.length co35) ∧ OB_ k_ (.slice Ao22 t112.length co22) ∧ k_ ≠ gb101 ∧ k_ ≠ gb118) (.slice (some ad111) t108.length co13) t108) ∧ Aside0 (Kd.R (Kd.int .i64) 2 wc w.heap.size (fun k_ => OB_ k_ v6 ∧ OB_ k_ (.slice Ao35 t120.length co35) ∧ OB_ k_ (.slice Ao22 t112.length co22)) (.slice Ao33 t115.length co33) t115) ∧ Aside0 (Kd.R (Kd.int .i64) 2 wc w.heap.size (fun k_ => OB_ k_ (.slice Ao33 t115.length co33) ∧ OB_ k_ (.slice Ao22 t112.length co22)) (.slice Ao35 t120.length co35) t120) ∧ Aside0 (Kd.R (Kd.int .i64) 2 wc w.heap.size (fun k_ => OB_ k_ v6 ∧ OB_ k_ (.slice Ao33 t115.length co33) ∧ OB_ k_ (.slice Ao35 t120.length co35)) (.slice Ao22 t112.length co22) t112) ∧ Aside0 (wc.heap[gb101]? = some (.cells #[(.slice A0_0 l0_0.length c0_0)] 26 (0, 0))) ∧ Aside0 (wc.heap[gb118]? = some (.cells #[(.slice Ao22 t112.length co22)] 26 (0, 0))) ∧ Aside0 (Below w.heap.size w wc))
 case first =>
  have H := HC28.out
  clear HC28
  by_cases c37 : t123 = true
  ·subst c37
   have H1 : (spec_l03Least.j2 k2 l1 t120 x7_2 t108 t115 x12_2 t120 (t108.length : Int) x21_1 l0_0) = some (r1, r2) := by rw [if_pos rfl] at H; exact H
   clear H
   have H := H1
   clear H1
   have H' := Aside0.mk H
   clear H
   go_wp2
   go_meet
   case rel => exact ⟨_, (t120), H', ⟨by have := HK1.out; have := HK2.out; first | omega | exact Nat.le_refl _⟩, ⟨rb_ (Kd.R_mono HO122.out (fun _ hk => ⟨hk.1.2, hk.2⟩))⟩, ⟨nb_ (Kd.N_mono HO_8.out (fun _ hk => ⟨hk.2, ⟨hk.1.2.1, ⟨hk.2, ⟨hk.1.2.2.1, ⟨hk.1.2.2.2.1, hk.1.2.2.2.2⟩⟩⟩⟩⟩))⟩, ⟨rb_ (Kd.R_mono HO_11.out (fun _ hk => ⟨hk.2, ⟨hk.2, hk.1.2⟩⟩))⟩, ⟨rb_ (Kd.R_mono HO122.out (fun _ hk => ⟨hk.1.2, hk.2⟩))⟩, ⟨rb_ (Kd.R_mono HO_119000.out (fun _ hk => ⟨hk.2, ⟨hk.1.2, hk.2⟩⟩))⟩, ⟨bb_ BK101.out⟩, ⟨bb_ BK118.out⟩, ⟨gb_ HB.out⟩⟩
  replace c37 := Bool.eq_false_iff.mpr c37
  subst c37
  have H1 : (spec_l03Least.j2 k2 l1 x6_2 x7_2 t108 t115 x12_2 t120 (t108.length : Int) x21_1 l0_0) = some (r1, r2) := by rw [if_neg (show ¬ (false = true) by decide)] at H; exact H
  clear H
  have H := H1
  clear H1
  have H' := Aside0.mk H
  clear H
  go_wp2
  go_meet
  case rel => exact ⟨_, (x6_2), H', ⟨by have := HK1.out; have := HK2.out; first | omega | exact Nat.le_refl _⟩, ⟨rb_ (Kd.R_mono HO_6.out (fun _ hk => ⟨hk.1.1, hk.1.2⟩))⟩, ⟨nb_ (Kd.N_mono HO_8.out (fun _ hk => ⟨hk.1.1, ⟨hk.1.2.1, ⟨hk.2, ⟨hk.1.2.2.1, ⟨hk.1.2.2.2.1, hk.1.2.2.2.2⟩⟩⟩⟩⟩))⟩, ⟨rb_ (Kd.R_mono HO_11.out (fun _ hk => ⟨hk.1.1, ⟨hk.2, hk.1.2⟩⟩))⟩, ⟨rb_ (Kd.R_mono HO122.out (fun _ hk => ⟨hk.1.2, hk.2⟩))⟩, ⟨rb_ (Kd.R_mono HO_119000.out (fun _ hk => ⟨hk.1.1, ⟨hk.1.2, hk.2⟩⟩))⟩, ⟨bb_ BK101.out⟩, ⟨bb_ BK118.out⟩, ⟨gb_ HB.out⟩⟩
 clear HC28
 try clear c1
 try clear p1
 try clear q1
 try clear hx1
 try clear c2
 try clear p2
 try clear c3
 try clear c5
 try clear p6
 try clear c11
 try clear p11
 try clear q11
 try clear hx11
 try clear c14
 try clear c14b0
 try clear c15
 try clear c15b0
 try clear c16
 try clear c16b0
 try clear c25
 try clear c25b0
 try clear c29
 try clear c37
 try clear hcz30_0
 try clear hcz32_0
 try clear hfz30_0
 try clear hfz32_0
 try clear hx111_0
 try clear p1
 try clear p11
 try clear p111
 try clear p2
 try clear q1
 try clear q11
 try clear q111
 obtain ⟨kq, x6_27, HA, HJ27, HO_6, HO_8, HO_11, HO_13, HO_119000, BK101, BK118, HB⟩ := hcut
 cases kq with
 | zero => exact absurd HA.out (by simp [spec_l03Least.j2])
 | succ kj27 =>
  have H := HA.out
  clear HA
  simp only [spec_l03Least.j2] at H
  replace H := bd_ H
  obtain ⟨t124, A38, H⟩ := H
  by_cases c39 : t124 = true
  ·subst c39
   have H1 : (spec_l03Least.l1 kj27 l1 x6_27 x7_2 t108 t115 (wrap64 (x12_2 + 1)) (t108.length : Int) x21_1 l0_0) = some (r1, r2) := by rw [if_pos rfl] at H; exact H
   clear H
   have H := H1
   clear H1
   have H' := Aside0.mk H
   clear H
   go_wp2_with (first | ((with_reducible refine gate_callee (f := 25) rfl ?_); refine gl_ (some 50) rfl rfl Tryz.func25 #[.slice Ao35 t120.length co35, .slice A1 l1.length c1] rfl ?_; (with_reducible refine (spec_l03Before.calls kj27 _ _ t120 _ _ l1 true _ ?side1 ?side2 ?side3 ?side4 A38.out).mono ?_); (case side1 => exact c1_ HO_13); (case side2 => exact (Kd.R_reads' HO_13.out).2.1); (case side3 => exact c2_ HR1 HB); (case side4 => exact HC1.out); rintro e w' ⟨rfl, ⟨nd, rfl⟩⟩; refine ⟨_, rfl, ?_⟩))
   go_roundg kj27
   case measure => have := HK1.out; have := HK2.out; have := HJ27.out; omega
   case rel => exact ⟨(x6_27), (x7_2), (wrap64 (x12_2 + 1)), t2_, t2_, H', ⟨by have := HK1.out; have := HK2.out; have := HJ27.out; omega⟩, ⟨rb_ (Kd.R_mono HO_6.out (fun _ hk => ⟨hk.1, hk.2⟩))⟩, ⟨nb_ (Kd.N_mono HO_8.out (fun _ hk => ⟨hk.1, ⟨hk.2.1, ⟨hk.2.2.2.1, ⟨hk.2.2.2.2.1, hk.2.2.2.2.2⟩⟩⟩⟩))⟩, ⟨rb_ (Kd.R_mono HO_11.out (fun _ hk => ⟨hk.1, hk.2.2⟩))⟩, ⟨rb_ (Kd.R_mono HO_119000.out (fun _ hk => ⟨hk.1, hk.2.1⟩))⟩, ⟨bb_ BK101.out⟩, ⟨bb_ BK118.out⟩, ⟨gb_ HB.out⟩⟩
  replace c39 := Bool.eq_false_iff.mpr c39
  subst c39
  have H1 : ((spec_l03Before.f kj27 l1 t120).bind fun t125 => (if t125 = true then (spec_l03Least.l1 kj27 l1 x6_27 x7_2 t108 t115 (wrap64 (x12_2 + 1)) (t108.length : Int) x21_1 l0_0) else (spec_l03Least.l1 kj27 l1 x6_27 (wrap64 (x7_2 + 1)) t108 t115 (wrap64 (x12_2 + 1)) (t108.length : Int) x21_1 l0_0))) = some (r1, r2) := by rw [if_neg (show ¬ (false = true) by decide)] at H; exact H
  clear H
  have H := H1
  clear H1
  replace H := bd_ H
  obtain ⟨t125, A40, H⟩ := H
  by_cases c41 : t125 = true
  ·subst c41
   have H1 : (spec_l03Least.l1 kj27 l1 x6_27 x7_2 t108 t115 (wrap64 (x12_2 + 1)) (t108.length : Int) x21_1 l0_0) = some (r1, r2) := by rw [if_pos rfl] at H; exact H
   clear H
   have H := H1
   clear H1
   have H' := Aside0.mk H
   clear H
   go_wp2_with (first | ((with_reducible refine gate_callee (f := 25) rfl ?_); refine gl_ (some 50) rfl rfl Tryz.func25 #[.slice Ao35 t120.length co35, .slice A1 l1.length c1] rfl ?_; (with_reducible refine (spec_l03Before.calls kj27 _ _ t120 _ _ l1 false _ ?side1 ?side2 ?side3 ?side4 A38.out).mono ?_); (case side1 => exact c1_ HO_13); (case side2 => exact (Kd.R_reads' HO_13.out).2.1); (case side3 => exact c2_ HR1 HB); (case side4 => exact HC1.out); rintro e w' ⟨rfl, ⟨nd, rfl⟩⟩; refine ⟨_, rfl, ?_⟩) | (go_at_call 25; (with_reducible refine (spec_l03Before.calls kj27 _ _ l1 _ _ t120 true _ ?side1 ?side2 ?side3 ?side4 A40.out).mono ?_); (case side1 => repeat (first | exact (Kd.C_below HR1.out (gb_ HB.out)) | (with_reducible refine Kd.C_alloc ?_ _) | (with_reducible refine Kd.C_drewN ?_ _) | (with_reducible refine Kd.C_drew ?_))); (case side2 => exact HC1.out); (case side3 => exact c1_ HO_13); (case side4 => exact (Kd.R_reads' HO_13.out).2.1); rintro e w' ⟨rfl, ⟨nd, rfl⟩⟩))
   go_roundg kj27
   case measure => have := HK1.out; have := HK2.out; have := HJ27.out; omega
   case rel => exact ⟨(x6_27), (x7_2), (wrap64 (x12_2 + 1)), t2_, t2_, H', ⟨by have := HK1.out; have := HK2.out; have := HJ27.out; omega⟩, ⟨rb_ (Kd.R_mono HO_6.out (fun _ hk => ⟨hk.1, hk.2⟩))⟩, ⟨nb_ (Kd.N_mono HO_8.out (fun _ hk => ⟨hk.1, ⟨hk.2.1, ⟨hk.2.2.2.1, ⟨hk.2.2.2.2.1, hk.2.2.2.2.2⟩⟩⟩⟩))⟩, ⟨rb_ (Kd.R_mono HO_11.out (fun _ hk => ⟨hk.1, hk.2.2⟩))⟩, ⟨rb_ (Kd.R_mono HO_119000.out (fun _ hk => ⟨hk.1, hk.2.1⟩))⟩, ⟨bb_ BK101.out⟩, ⟨bb_ BK118.out⟩, ⟨gb_ HB.out⟩⟩
  replace c41 := Bool.eq_false_iff.mpr c41
  subst c41
  have H1 : (spec_l03Least.l1 kj27 l1 x6_27 (wrap64 (x7_2 + 1)) t108 t115 (wrap64 (x12_2 + 1)) (t108.length : Int) x21_1 l0_0) = some (r1, r2) := by rw [if_neg (show ¬ (false = true) by decide)] at H; exact H
  clear H
  have H := H1
  clear H1
  have H' := Aside0.mk H
  clear H
  go_wp2_with (first | ((with_reducible refine gate_callee (f := 25) rfl ?_); refine gl_ (some 50) rfl rfl Tryz.func25 #[.slice Ao35 t120.length co35, .slice A1 l1.length c1] rfl ?_; (with_reducible refine (spec_l03Before.calls kj27 _ _ t120 _ _ l1 false _ ?side1 ?side2 ?side3 ?side4 A38.out).mono ?_); (case side1 => exact c1_ HO_13); (case side2 => exact (Kd.R_reads' HO_13.out).2.1); (case side3 => exact c2_ HR1 HB); (case side4 => exact HC1.out); rintro e w' ⟨rfl, ⟨nd, rfl⟩⟩; refine ⟨_, rfl, ?_⟩) | (go_at_call 25; (with_reducible refine (spec_l03Before.calls kj27 _ _ l1 _ _ t120 false _ ?side1 ?side2 ?side3 ?side4 A40.out).mono ?_); (case side1 => repeat (first | exact (Kd.C_below HR1.out (gb_ HB.out)) | (with_reducible refine Kd.C_alloc ?_ _) | (with_reducible refine Kd.C_drewN ?_ _) | (with_reducible refine Kd.C_drew ?_))); (case side2 => exact HC1.out); (case side3 => exact c1_ HO_13); (case side4 => exact (Kd.R_reads' HO_13.out).2.1); rintro e w' ⟨rfl, ⟨nd, rfl⟩⟩))
  go_roundg kj27
  case measure => have := HK1.out; have := HK2.out; have := HJ27.out; omega
  case rel => exact ⟨(x6_27), (wrap64 (x7_2 + 1)), (wrap64 (x12_2 + 1)), t2_, t2_, H', ⟨by have := HK1.out; have := HK2.out; have := HJ27.out; omega⟩, ⟨rb_ (Kd.R_mono HO_6.out (fun _ hk => ⟨hk.1, hk.2⟩))⟩, ⟨nb_ (Kd.N_mono HO_8.out (fun _ hk => ⟨hk.1, ⟨hk.2.1, ⟨hk.2.2.2.1, ⟨hk.2.2.2.2.1, hk.2.2.2.2.2⟩⟩⟩⟩))⟩, ⟨rb_ (Kd.R_mono HO_11.out (fun _ hk => ⟨hk.1, hk.2.2⟩))⟩, ⟨rb_ (Kd.R_mono HO_119000.out (fun _ hk => ⟨hk.1, hk.2.1⟩))⟩, ⟨bb_ BK101.out⟩, ⟨bb_ BK118.out⟩, ⟨gb_ HB.out⟩⟩
mutual
def spec_l03Draw.l0 : Nat → List Int → Int → List Int → Int → Int → List Int → Option (List Int × List Int × List Int)
  | 0, _, _, _, _, _, _ => none
  | k + 1, x7, x8, x106000, x106001, x106002, x118000 => if x8 > 0 then ((spec_l01N.f k x118000).bind fun t124 => ((spec_l01Next.f x106000 x106001 x106002 t124).bind fun bt125 => ((spec_l01Put.f k x7 bt125.1).bind fun t128 => (spec_l03Draw.l0 k t128 (wrap64 (x8 - 1)) x106000 bt125.2.1 bt125.2.2 x118000)))) else ((spec_l01N.f k x118000).bind fun t131 => ((spec_l01Next.f x106000 x106001 x106002 t131).bind fun bt132 => ((spec_l01Shifted.f k x118000 x7 bt132.1).bind fun t135 => ((spec_l01Next.f x106000 bt132.2.1 bt132.2.2 3).bind fun bt138 => (if bt138.1 = 0 then ((spec_l03Orders.f k x118000 (([] : List Int))).bind fun t144 => ((spec_l01Next.f x106000 bt138.2.1 bt138.2.2 (t144.length : Int)).bind fun bt147 => (if 0 ≤ bt147.1 then (if bt147.1 < (t144.length : Int) then ((spec_l03Places.f k x118000 t135 (rd_L2 t144 bt147.1)).bind fun bt151 => (spec_l03Draw.j1 k x7 bt151.2 x106000 bt147.2.1 bt147.2.2 x118000)) else (none)) else (none)))) else (if bt138.1 = 1 then (if (t135.length : Int) > 0 then (if 1 ≤ (t135.length : Int) then ((spec_l01N.f k x118000).bind fun t160 => ((spec_l01Next.f x106000 bt138.2.1 bt138.2.2 t160).bind fun bt161 => ((spec_l01Put.f k (t135.drop (1 : Int).toNat) bt161.1).bind fun t164 => (spec_l03Draw.j1 k x7 t164 x106000 bt161.2.1 bt161.2.2 x118000)))) else (none)) else (spec_l03Draw.j1 k x7 t135 x106000 bt138.2.1 bt138.2.2 x118000)) else (spec_l03Draw.j1 k x7 t135 x106000 bt138.2.1 bt138.2.2 x118000)))))))
def spec_l03Draw.j1 : Nat → List Int → List Int → List Int → Int → Int → List Int → Option (List Int × List Int × List Int)
  | 0, _, _, _, _, _, _ => none
  | k + 1, x7, x9, x106000, x106001, x106002, x118000 => (spec_l01Bad.f k x106000 x106001 x106002 x118000).bind fun bt167 => ((spec_l01BadCode.f k x106000 bt167.2.1 bt167.2.2 x118000 x7).bind fun bt172 => ((spec_l01BadCode.f k x106000 bt172.2.1 bt172.2.2 x118000 x9).bind fun bt177 => (some (bt167.1, bt172.1, bt177.1))))
end
def spec_l03Draw.f (k : Nat) (l0 : List Int) : Option (List Int × List Int × List Int) := (spec_l01From.f k l0).bind fun bt102 => ((spec_l01Pick.f bt102.1 bt102.2.1 bt102.2.2 (([8, 9, 16, 27, 81] : List Int))).bind fun bt109 => ((spec_l01DrawOf.f k bt102.1 bt109.2.1 bt109.2.2 bt109.1).bind fun bt112 => ((spec_l01Next.f bt102.1 bt112.2.1 bt112.2.2 7).bind fun bt121 => (spec_l03Draw.l0 k (([] : List Int)) bt121.1 bt102.1 bt121.2.1 bt121.2.2 bt112.1))))
def spec_l03Draw.T8 : Bool × List (List Nat × List Nat) := (true, [([], []), ([], []), ([], []), ([], []), ([3], [3]), ([2, 4, 4], [2, 4]), ([0, 1, 5, 5], [0, 1, 5]), ([6, 6, 0, 1, 2, 3, 4, 5, 6], [6])])
def spec_l03Draw.B8 : List Nat := [0, 0, 0, 0, 8, 28, 63, 127]
theorem spec_l03Draw.tab8 : rtab .any (opsOf Tryz.f20 8) = spec_l03Draw.T8 := by kernel_rfl
theorem spec_l03Draw.bits8 : waitsOk spec_l03Draw.T8.2 spec_l03Draw.B8 = true := by kernel_rfl
def spec_l03Draw.T12 : Bool × List (List Nat × List Nat) := (true, [([], []), ([], []), ([], []), ([], []), ([], []), ([4], [4]), ([3, 5], [3, 5]), ([2, 6], [2, 6]), ([7], [7]), ([0, 1, 8, 6], [0, 1, 8]), ([9], [9]), ([10], [10]), ([10], [10]), ([12, 9, 0, 1, 2, 3, 4, 5, 6, 7, 8, 9, 10, 11, 12], [1, 12])])
def spec_l03Draw.B12 : List Nat := [0, 0, 0, 0, 0, 16, 56, 124, 252, 511, 1023, 2047, 2047, 8191]
theorem spec_l03Draw.tab12 : rtab .any (opsOf Tryz.f20 12) = spec_l03Draw.T12 := by kernel_rfl
theorem spec_l03Draw.bits12 : waitsOk spec_l03Draw.T12.2 spec_l03Draw.B12 = true := by kernel_rfl
def spec_l03Draw.T15 : Bool × List (List Nat × List Nat) := (true, [([], []), ([0], [0]), ([], []), ([], []), ([3], [3]), ([2, 4, 4], [2, 4]), ([1, 5, 5], [1, 5]), ([6, 6, 0, 1, 2, 3, 4, 5, 6], [0, 6])])
def spec_l03Draw.B15 : List Nat := [0, 1, 0, 0, 8, 28, 63, 127]
theorem spec_l03Draw.tab15 : rtab .any (opsOf Tryz.f20 15) = spec_l03Draw.T15 := by kernel_rfl
theorem spec_l03Draw.bits15 : waitsOk spec_l03Draw.T15.2 spec_l03Draw.B15 = true := by kernel_rfl
def spec_l03Draw.T16 : Bool × List (List Nat × List Nat) := (true, [([], []), ([], []), ([0, 1], [0, 1]), ([], []), ([], []), ([], []), ([3, 4, 5, 2], [3, 4, 5]), ([], []), ([], []), ([], []), ([7, 8, 9, 6], [7, 8, 9]), ([2, 10, 0, 1, 2], [2]), ([6, 11, 0, 1, 2, 3, 4, 5, 6, 11], [6]), ([10, 12, 0, 1, 2, 3, 4, 5, 6, 7, 8, 9, 10, 11, 12], [10])])
def spec_l03Draw.B16 : List Nat := [0, 0, 3, 0, 0, 0, 63, 0, 0, 0, 1023, 2047, 4095, 8191]
theorem spec_l03Draw.tab16 : rtab .any (opsOf Tryz.f20 16) = spec_l03Draw.T16 := by kernel_rfl
theorem spec_l03Draw.bits16 : waitsOk spec_l03Draw.T16.2 spec_l03Draw.B16 = true := by kernel_rfl
set_option maxHeartbeats 8000000 in
set_option maxRecDepth 100000 in
theorem spec_l03Draw.calls (k : Nat) (A0 : Option Addr) (c0 : Nat) (l0 : List Int) (r1 : List Int) (r2 : List Int) (r3 : List Int) (w : World) (hr0 : Kd.C (Kd.int .u8) w A0 l0.length l0) (hc0 : l0.length ≤ c0) (h : spec_l03Draw.f k l0 = some (r1, r2, r3)) :
  Calls Tryz.prog 20 #[.slice A0 l0.length c0] w fun e w' => ∃ v0_ v1_ v2_ : Value, e = .returned (.tuple #[.agg #[v0_], v1_, v2_]) ∧ Kd.R (Kd.int .i64) 2 w' w.heap.size (fun k_ => OB_ k_ v1_ ∧ OB_ k_ v2_) v0_ r1 ∧ Kd.R (Kd.int .i64) 2 w' w.heap.size (fun k_ => OB_ k_ v0_ ∧ OB_ k_ v2_) v1_ r2 ∧ Kd.R (Kd.int .i64) 2 w' w.heap.size (fun k_ => OB_ k_ v0_ ∧ OB_ k_ v1_) v2_ r3 ∧ Below w.heap.size w w' := by
 have hu26 := Tryz.underlying26
 have HR0 := Aside0.mk hr0
 have HC0 := Aside0.mk hc0
 clear hr0 hc0
 have HB := Aside0.mk (Below.refl w.heap.size w)
 have H := h
 clear h
 unfold spec_l03Draw.f at H
 replace H := bd_ H
 obtain ⟨⟨t102, t103, t104⟩, A2, H⟩ := H
 try dsimp only at H
 obtain ⟨y106, hy106⟩ : ∃ y_ : List Int, y_ = (([8, 9, 16, 27, 81] : List Int)) := ⟨_, rfl⟩
 replace H : ((spec_l01Pick.f t102 t103 t104 y106).bind fun bt109 => ((spec_l01DrawOf.f k t102 bt109.2.1 bt109.2.2 bt109.1).bind fun bt112 => ((spec_l01Next.f t102 bt112.2.1 bt112.2.2 7).bind fun bt121 => (spec_l03Draw.l0 k (([] : List Int)) bt121.1 t102 bt121.2.1 bt121.2.2 bt112.1)))) = some (r1, r2, r3) := y_ H
 have Ny106 := Aside0.mk hy106
 clear hy106
 replace H := bd_ H
 obtain ⟨⟨t109, t110, t111⟩, A3, H⟩ := H
 try dsimp only at H
 replace H := bd_ H
 obtain ⟨⟨t112, t115, t116⟩, A4, H⟩ := H
 try dsimp only at H
 obtain ⟨y118, hy118⟩ : ∃ y_ : List Int, y_ = (([] : List Int)) := ⟨_, rfl⟩
 replace H : ((spec_l01Next.f t102 t115 t116 7).bind fun bt121 => (spec_l03Draw.l0 k y118 bt121.1 t102 bt121.2.1 bt121.2.2 t112)) = some (r1, r2, r3) := y_ H
 have Ny118 := Aside0.mk hy118
 clear hy118
 replace H := bd_ H
 obtain ⟨⟨t121, t122, t123⟩, A5, H⟩ := H
 try dsimp only at H
 have H' := Aside0.mk H
 clear H
 go_enter Tryz.func20, Tryz.ntmps20
 go_wp2_with (first | ((with_reducible refine gate_dst (N := 2) rfl ?_); refine bx_ (N := 2) (cs := #[.slice none 0 0]) (t := 26) rfl rfl ?_; intro gb101 hg w6 hbox hb; have BK101 := Aside0.mk (hbox); have GW101 := ge_ hg HB; have GE101 := ge_ hg HB; replace HB := b1_ HB hb; clear hb hbox hg) | ((with_reducible refine gate_callee (f := 49) rfl ?_); refine gl_ (some 12) rfl rfl Tryz.func49 #[.slice A0 l0.length c0] rfl ?_; (with_reducible refine (spec_l01From.calls k _ _ l0 t102 t103 t104 w _ ?side1 ?side2 ?side3 A2.out).mono ?_); (case side1 => exact gb_ HB.out); (case side2 => exact HR0.out); (case side3 => exact HC0.out); rintro e w7 ⟨g105, rfl, hi, hb, hb2⟩; refine ⟨_, rfl, ?_⟩; replace HB := Aside0.mk (hb); have HI105 := Aside0.mk (hi); have NB105_101 := Aside0.mk (IsS93.ne_blk hi (blk_below (g := gb101) (o := .cells #[.slice none 0 0] 26 (0, 0)) (bb_ BK101.out) hb2) (by decide)); have NB101_105 := Aside0.mk (Ne.symm (IsS93.ne_blk hi (blk_below (g := gb101) (o := .cells #[.slice none 0 0] 26 (0, 0)) (bb_ BK101.out) hb2) (by decide))); replace BK101 := Aside0.mk (blk_below (g := gb101) (o := .cells #[.slice none 0 0] 26 (0, 0)) (bb_ BK101.out) hb2); (try clear hb); (try clear hb2); (try clear hk); (try clear hi)) | ((with_reducible refine gate_dst (N := 15) rfl ?_); refine Kd.R_lit (Kd.int .i64) _ 2 ?hg (N := 15) ?hd (xs := ([8, 9, 16, 27, 81] : List Int)) (inner := [.int .i64 8, .int .i64 9, .int .i64 16, .int .i64 27, .int .i64 81]) (ok := fun _ => True) (okp := fun _ => True) ?hr ?hp (fun _ hk => hk) trivial (Below.refl _ _) (Nat.le_refl _) (by simp) ?_; (case hd => rfl); (case hg => rfl); (case hr => exact t3_); (case hp => exact (Reps.one (show Kd.M (Kd.int .i64) _ _ _ 8 [.int .i64 8] from rfl) (Reps.one (show Kd.M (Kd.int .i64) _ _ _ 9 [.int .i64 9] from rfl) (Reps.one (show Kd.M (Kd.int .i64) _ _ _ 16 [.int .i64 16] from rfl) (Reps.one (show Kd.M (Kd.int .i64) _ _ _ 27 [.int .i64 27] from rfl) (Reps.one (show Kd.M (Kd.int .i64) _ _ _ 81 [.int .i64 81] from rfl) (Reps.none _ _))))))); intro v107 w8 ho9 hb hg_ hnew_; clear hg_ hnew_; (first | rw [← Ny106.out] at ho9 | (simp only [Int.reduceToNat] at ho9; rw [← Ny106.out] at ho9)); have HO108 := Aside0.mk (Kd.R_lower ho9 (below_size (gb_ HB.out))); replace BK101 := a2_ BK101 hb; replace HI105 := i1_ HI105 hb; replace HB := b1_ HB hb; clear hb ho9; obtain ⟨Ao10, co10, eo10⟩ := Kd.R_slice HO108.out; subst eo10) | ((with_reducible refine gate_callee (f := 51) rfl ?_); refine gl_ (some 16) rfl rfl Tryz.func51 #[.pointer (some ⟨g105, 0, none⟩), .slice Ao10 y106.length co10] rfl ?_; (with_reducible refine (spec_l01Pick.calls g105 t102 t103 t104 _ _ y106 t109 t110 t111 w _ ?side1 ?side2 ?side3 ?side4 ?side5 A3.out).mono ?_); (case side1 => exact i_ HI105); (case side2 => exact gb_ HB.out); (case side3 => exact c1_ HO108); (case side4 => exact (Kd.R_reads' HO108.out).2.1); (case side5 => exact far_slice (IsS93.own_ne HI105.out HO108.out (by decide))); rintro e w11 ⟨rfl, hi, hb, hk⟩; refine ⟨_, rfl, ?_⟩; replace BK101 := kx_ BK101 NB101_105 hk; replace HO108 := kr_ HI105 HO108 hk; replace HB := Aside0.mk (hb); replace HI105 := Aside0.mk (hi); (try clear hb); (try clear hb2); (try clear hk); (try clear hi)) | ((with_reducible refine gate_callee (f := 50) rfl ?_); refine gl_ (some 17) rfl rfl Tryz.func50 #[.pointer (some ⟨g105, 0, none⟩), .int .i64 t109] rfl ?_; (with_reducible refine (spec_l01DrawOf.calls k g105 t102 t110 t111 t109 t112 t115 t116 w _ ?side1 ?side2 A4.out).mono ?_); (case side1 => exact i_ HI105); (case side2 => exact gb_ HB.out); rintro e w12 ⟨v113, rfl, ho0, hi, hb, hk⟩; refine ⟨_, rfl, ?_⟩; replace BK101 := kx_ BK101 NB101_105 hk; have HO114 := Aside0.mk (Kd.R_lower (Kd.R_new' ho0 (Kd.R_lt (rb_ HO108.out))) (below_size (gb_ HB.out))); replace HO108 := Aside0.mk (Kd.R_mono (Kd.R_told (Kd.R_oldK (IsS93.apart (show IsS93 w _ g105 t102 t110 t111 from i_ HI105) (rb_ HO108.out) (by decide)) hk) (Kd.R_base ho0)) (fun _ h_ => h_.1)); replace HB := Aside0.mk (hb); replace HI105 := Aside0.mk (hi); (try clear hb); (try clear hb2); (try clear hk); (try clear hi); (try clear ho0)) | ((with_reducible refine gate_dst (N := 6) rfl ?_); refine bx_ (N := 6) (cs := #[.slice none 0 0]) (t := 26) rfl rfl ?_; intro gb117 hg w13 hbox hb; replace HO108 := a1_ HO108 hb; replace HO114 := a1_ HO114 hb; have BK117 := Aside0.mk (hbox); have GW117 := ge_ hg HB; have GE117 := ge_ hg HB; replace HB := b1_ HB hb; have NB101_117 := nl_ hg BK101; have NB117_101 := nr_ hg BK101; replace BK101 := a2_ BK101 hb; have NB105_117 := il_ hg HI105; have NB117_105 := ir_ hg HI105; replace HI105 := i1_ HI105 hb; clear hb hbox hg; obtain ⟨Ao14, co14, eo14⟩ := Kd.R_slice HO114.out; subst eo14; have hnb15 := NB117_101.out; have hnc15 := NB101_117.out; have hnb16 := NB117_105.out; have hnc16 := NB105_117.out; have hcz17_0 := hz_ BK117; have hfz17_0 := blk_frozen BK117.out 0) | ((with_reducible refine gate_dst (N := 18) rfl ?_); refine Kd.R_lit (Kd.int .i64) _ 2 ?hg (N := 18) ?hd (xs := ([] : List Int)) (inner := []) (ok := fun _ => True) (okp := fun _ => True) ?hr ?hp (fun _ hk => hk) trivial (Below.refl _ _) (Nat.le_refl _) (by simp) ?_; (case hd => rfl); (case hg => rfl); (case hr => exact t3_); (case hp => exact (Reps.none _ _)); intro v119 w18 ho19 hb hg_ hnew_; clear hg_ hnew_; (first | rw [← Ny118.out] at ho19 | (simp only [Int.reduceToNat] at ho19; rw [← Ny118.out] at ho19)); have n0_ := a8_ HO108 BK117 ho19 hb; have n1_ := a8_ HO114 BK117 ho19 hb; have n2_ := Aside0.mk (Kd.R_lower (Kd.R_new' (Kd.R_new' ho19 (Kd.R_lt (rb_ (Kd.R_mono (Kd.R_far (p := ⟨gb117, 0, none⟩) (Kd.R_types HO108.out BK117.out (by decide)) (fun _ hk => hk.2) (.slice Ao14 t112.length co14)) (fun _ h_ => h_.1))))) (Kd.R_lt (rb_ (Kd.R_mono (Kd.R_far (p := ⟨gb117, 0, none⟩) (Kd.R_types HO114.out BK117.out (by decide)) (fun _ hk => hk.2) (.slice Ao14 t112.length co14)) (fun _ h_ => h_.1))))) (below_size (gb_ HB.out))); have n3_ := a3_ BK101 NB101_117 hb; have n4_ := Aside0.mk (IsS93.below (show IsS93 w (w13.setCell ⟨gb117, 0, none⟩ (.slice Ao14 t112.length co14)) g105 t102 t115 t116 from i_ HI105) hb); have n5_ := Aside0.mk (blk_below (g := gb117) (o := .cells #[.slice Ao14 t112.length co14] 26 (0, 0)) (by (with_reducible repeat (first | refine blk_drewN ?_ _ | refine blk_drew ?_ | refine blk_alloc ?_ _)); refine blk_put (cs := #[.slice none 0 0]) ?_ 0 _ rfl; (with_reducible repeat (first | refine blk_drewN ?_ _ | refine blk_drew ?_ | refine blk_alloc ?_ _)); exact BK117.out) hb); have n6_ := b1_ HB hb; clear HO108 HO114 BK101 HI105 BK117 HB; have HO108 := n0_; have HO114 := n1_; have HO120 := n2_; have BK101 := n3_; have HI105 := n4_; have BK117 := n5_; have HB := n6_; clear n0_ n1_ n2_ n3_ n4_ n5_ n6_ hb ho19) | ((with_reducible refine gate_callee (f := 52) rfl ?_); refine gl_ (some 20) rfl rfl Tryz.func52 #[.pointer (some ⟨g105, 0, none⟩), .int .i64 7] rfl ?_; (with_reducible refine (spec_l01Next.calls g105 t102 t115 t116 7 t121 t122 t123 w _ ?side1 ?side2 A5.out).mono ?_); (case side1 => exact i_ HI105); (case side2 => exact gb_ HB.out); rintro e w20 ⟨rfl, hi, hb, hk⟩; refine ⟨_, rfl, ?_⟩; replace BK101 := kx_ BK101 NB101_105 hk; replace HO108 := kr_ HI105 HO108 hk; replace HO114 := kr_ HI105 HO114 hk; replace BK117 := kx_ BK117 NB117_105 hk; replace HO120 := kr_ HI105 HO120 hk; replace HB := Aside0.mk (hb); replace HI105 := Aside0.mk (hi); (try clear hb); (try clear hb2); (try clear hk); (try clear hi)))
 go_loopg [7, 8] k (fun kq v7 v8 w' => ∃ (x7_1 : List Int) (x8_1 : Int) (x106001_1 : Int) (x106002_1 : Int), v8 = .int .i64 x8_1 ∧ Aside0 (spec_l03Draw.l0 kq x7_1 x8_1 t102 x106001_1 x106002_1 t112 = some (r1, r2, r3)) ∧ Aside0 (kq ≤ k) ∧ Aside0 (Kd.R (Kd.int .i64) 2 w' w.heap.size (fun k_ => OB_ k_ (.slice Ao14 t112.length co14)) v7 x7_1) ∧ Aside0 (Kd.R (Kd.int .i64) 2 w' w.heap.size (fun k_ => OB_ k_ v7) (.slice Ao14 t112.length co14) t112) ∧ Aside0 (w'.heap[gb101]? = some (.cells #[(.slice none 0 0)] 26 (0, 0))) ∧ Aside0 (w'.heap[gb117]? = some (.cells #[(.slice Ao14 t112.length co14)] 26 (0, 0))) ∧ Aside0 (IsS93 w w' g105 t102 x106001_1 x106002_1) ∧ Aside0 (Below w.heap.size w w'))
 case atStart => exact ⟨(y118), (t121), (t122), (t123), t2_, H', ⟨Nat.le_refl _⟩, ⟨rb_ (Kd.R_mono HO120.out (fun _ hk => hk.2))⟩, ⟨rb_ (Kd.R_mono HO114.out (fun _ hk => hk.2))⟩, ⟨bb_ BK101.out⟩, ⟨bb_ BK117.out⟩, ⟨i_ HI105⟩, ⟨gb_ HB.out⟩⟩
 clear H'
 try clear c1
 try clear c2
 try clear p2
 try clear c4
 try clear c5
 try clear c15
 try clear c16
 try clear c20
 try clear hcz17_0
 try clear hfz17_0
 obtain ⟨x7_1, x8_1, x106001_1, x106002_1, rfl, HA, HK1, HO_7, HO_118000, BK101, BK117, HI105, HB⟩ := hrel
 obtain _ | k1 := gk
 ·exact absurd HA.out (by simp [spec_l03Draw.l0])
 have H := HA.out
 clear HA
 simp only [spec_l03Draw.l0] at H
 by_cases c21 : x8_1 > 0
 ·rw [if_pos c21] at H
  have c21b0 : decide (0 < x8_1) = true := decide_eq_true c21
  clear c21
  replace H := bd_ H
  obtain ⟨t124, A22, H⟩ := H
  replace H := bd_ H
  obtain ⟨⟨t125, t126, t127⟩, A23, H⟩ := H
  try dsimp only at H
  replace H := bd_ H
  obtain ⟨t128, A24, H⟩ := H
  have H' := Aside0.mk H
  clear H
  have hnb25 := NB117_101.out
  have hnc25 := NB101_117.out
  have hnb26 := NB117_105.out
  have hnc26 := NB105_117.out
  have hcz27_0 := hz_ BK117
  have hfz27_0 := blk_frozen BK117.out 0
  go_wp2_with (first | ((with_reducible refine gate_callee (f := 53) rfl ?_); refine gl_ (some 28) rfl rfl Tryz.func53 #[.agg #[.slice Ao14 t112.length co14]] rfl ?_; (with_reducible refine (spec_l01N.calls k1 _ _ t112 t124 _ ?side1 ?side2 A22.out).mono ?_); (case side1 => exact c1_ HO_118000); (case side2 => exact (Kd.R_reads' HO_118000.out).2.1); rintro e w28 ⟨rfl, hb⟩; refine ⟨_, rfl, ?_⟩; replace HO_7 := a1_ HO_7 hb; replace HO_118000 := a1_ HO_118000 hb; replace BK101 := a2_ BK101 hb; replace BK117 := a2_ BK117 hb; replace HI105 := i1_ HI105 hb; replace HB := b1_ HB hb; (try clear hb); (try clear hb2); (try clear hk); (try clear hi)) | ((with_reducible refine gate_callee (f := 52) rfl ?_); refine gl_ (some 29) rfl rfl Tryz.func52 #[.pointer (some ⟨g105, 0, none⟩), .int .i64 t124] rfl ?_; (with_reducible refine (spec_l01Next.calls g105 t102 x106001_1 x106002_1 t124 t125 t126 t127 w _ ?side1 ?side2 A23.out).mono ?_); (case side1 => exact i_ HI105); (case side2 => exact gb_ HB.out); rintro e w29 ⟨rfl, hi, hb, hk⟩; refine ⟨_, rfl, ?_⟩; replace HO_7 := kr_ HI105 HO_7 hk; replace HO_118000 := kr_ HI105 HO_118000 hk; replace BK101 := kx_ BK101 NB101_105 hk; replace BK117 := kx_ BK117 NB117_105 hk; replace HB := Aside0.mk (hb); replace HI105 := Aside0.mk (hi); (try clear hb); (try clear hb2); (try clear hk); (try clear hi); obtain ⟨Ao30, co30, eo30⟩ := Kd.R_slice HO_7.out; subst eo30) | ((with_reducible refine gate_callee (f := 36) rfl ?_); refine gl_ (some 30) rfl rfl Tryz.func36 #[.slice Ao30 x7_1.length co30, .int .i64 t125] rfl ?_; (with_reducible refine (spec_l01Put.calls k1 (fun k_ => some k_ = (.slice Ao30 x7_1.length co30 : Value).ownBlock) (.slice Ao30 x7_1.length co30) x7_1 t125 t128 w _ ?side1 ?side2 A24.out).mono ?_); (case side1 => exact gb_ HB.out); (case side2 => exact Kd.R_tight rfl HO_7.out); rintro e w31 ⟨v129, rfl, ho0, hb, hkp⟩; refine ⟨_, rfl, ?_⟩; replace BK101 := a7_ BK101 hkp HO_7; replace BK117 := a7_ BK117 hkp HO_7; replace HI105 := Aside0.mk (IsS93.kept (i_ HI105) hkp (fun hs_ => (fun e_ => (IsS93.own_ne HI105.out HO_7.out (by decide)) e_) hs_)); have HO130 := Aside0.mk (Kd.R_mono (ok' := fun k_ => OB_ k_ (.slice Ao14 t112.length co14)) ho0 (fun k_ hk_ => Or.elim hk_ (fun hs_ => fun e_ => (((HO_118000.out).1 k_ e_.symm)) hs_) (fun hn_ => (Kd.fresh' (Kd.R_lt (rb_ HO_118000.out)) k_ hn_)))); replace HO_118000 := Aside0.mk (Kd.R_mono (ok' := fun k_ => OB_ k_ v129) (Kd.R_keptB (HO_118000.out) hkp (fun k_ hk_ hs_ => (hk_) hs_)) (fun k_ hk_ => fun e_ => Or.elim (ho0.1 k_ e_.symm) (fun hs_ => hk_.2.1 hs_) (fun hn_ => Nat.not_le.2 hk_.2.2 hn_))); replace HB := Aside0.mk (hb); clear HO_7; (try clear hb); (try clear hkp); (try clear ho0)))
  go_roundg k1
  case measure => have := HK1.out; omega
  case rel => exact ⟨(t128), (wrap64 (x8_1 - 1)), (t126), (t127), t2_, H', ⟨by have := HK1.out; omega⟩, ⟨rb_ HO130.out⟩, ⟨rb_ HO_118000.out⟩, ⟨bb_ BK101.out⟩, ⟨bb_ BK117.out⟩, ⟨i_ HI105⟩, ⟨gb_ HB.out⟩⟩
 rw [if_neg c21] at H
 have c21b0 : decide (0 < x8_1) = false := decide_eq_false c21
 clear c21
 replace H := bd_ H
 obtain ⟨t131, A32, H⟩ := H
 replace H := bd_ H
 obtain ⟨⟨t132, t133, t134⟩, A33, H⟩ := H
 try dsimp only at H
 replace H := bd_ H
 obtain ⟨t135, A34, H⟩ := H
 replace H := bd_ H
 obtain ⟨⟨t138, t139, t140⟩, A35, H⟩ := H
 try dsimp only at H
 have HC36 := Aside0.mk H
 clear H
 try go_wp2
 replace HO_7 := Aside0.mk (Kd.R_drew HO_7.out)
 replace HO_118000 := Aside0.mk (Kd.R_drew HO_118000.out)
 replace BK101 := Aside0.mk (blk_drew BK101.out)
 replace BK117 := Aside0.mk (blk_drew BK117.out)
 replace HI105 := Aside0.mk (IsS93.drew HI105.out)
 replace HB := Aside0.mk (below_drew1 HB.out)
 refine start_ (n := 8) (S := fun w' => w'.cell? ⟨gb117, 0, none⟩ = some (.slice Ao14 t112.length co14)) (ds := []) #[false, false, false, false, false, false, false, false] (by kernel_rfl) rfl rfl ((blk_cell BK117.out 0).trans rfl) (fun hHeld => ?_); refine with_tabW spec_l03Draw.tab8 spec_l03Draw.bits8 (fun HT_ HW_ => ?_)
 generalize wr.drew = w37 at HO_7 HO_118000 BK101 BK117 HI105 HB hHeld ⊢
 refine pv_ 1 32 HT_ ?_
 refine pv_ 2 33 HT_ ?_
 refine tv1_ 0 31 HT_ HW_ hHeld ?_
 refine tv1_ 3 34 HT_ HW_ hHeld ?_
 refine ow_ 4 35 HT_ fun K hK => ?_
 refine goes_ Tryz.func53 (by kernel_rfl) rfl #[.agg #[.slice Ao14 t112.length co14]] (by rfl) rfl rfl t1_ ?_
 with_reducible refine (spec_l01N.calls k1 _ _ t112 t131 _ ?side1 ?side2 A32.out).mono ?_
 (case side1 => exact c1_ HO_118000)
 (case side2 => exact (Kd.R_reads' HO_118000.out).2.1)
 rintro e w38 ⟨rfl, hb⟩
 refine ⟨_, rfl, ?_⟩
 replace HO_7 := a1_ HO_7 hb
 replace HO_118000 := a1_ HO_118000 hb
 replace BK101 := a2_ BK101 hb
 replace BK117 := a2_ BK117 hb
 replace HI105 := i1_ HI105 hb
 replace HB := b1_ HB hb
 (try clear hb)
 refine hK.out _ _ ((blk_cell BK117.out 0).trans rfl) (fun hHeld => ?_)
 clear hK K
 refine nm_ ?_
 refine ow_ 5 36 HT_ fun K hK => ?_
 refine goes_ Tryz.func52 (by kernel_rfl) rfl #[.pointer (some ⟨g105, 0, none⟩), .int .i64 t131] (by rfl) rfl rfl t1_ ?_
 with_reducible refine (spec_l01Next.calls g105 t102 x106001_1 x106002_1 t131 t132 t133 t134 w _ ?side1 ?side2 A33.out).mono ?_
 (case side1 => exact i_ HI105)
 (case side2 => exact gb_ HB.out)
 rintro e w39 ⟨rfl, hi, hb, hk⟩
 refine ⟨_, rfl, ?_⟩
 replace HO_7 := kr_ HI105 HO_7 hk
 replace HO_118000 := kr_ HI105 HO_118000 hk
 replace BK101 := kx_ BK101 NB101_105 hk
 replace BK117 := kx_ BK117 NB117_105 hk
 replace HB := Aside0.mk (hb)
 replace HI105 := Aside0.mk (hi)
 (try clear hb hk hi)
 obtain ⟨Ao40, co40, eo40⟩ := Kd.R_slice HO_7.out
 (first | subst eo40 | (injection eo40 with f1_ f2_ f3_; have f4_ := f1_.symm; have f5_ := f3_.symm; clear f1_ f2_ f3_; subst f4_; subst f5_))
 refine hK.out _ _ ((blk_cell BK117.out 0).trans rfl) (fun hHeld => ?_)
 clear hK K
 refine nm_ ?_
 refine ow_ 6 37 HT_ fun K hK => ?_
 refine goes_ Tryz.func54 (by kernel_rfl) rfl #[.agg #[.slice Ao14 t112.length co14], .slice Ao40 x7_1.length co40, .int .i64 t132] (by rfl) rfl rfl t1_ ?_
 with_reducible refine (spec_l01Shifted.calls k1 _ _ t112 _ _ x7_1 t132 t135 _ ?side1 ?side2 ?side3 ?side4 A34.out).mono ?_
 (case side1 => exact c1_ HO_118000)
 (case side2 => exact (Kd.R_reads' HO_118000.out).2.1)
 (case side3 => exact c1_ HO_7)
 (case side4 => exact (Kd.R_reads' HO_7.out).2.1)
 rintro e w41 ⟨v136, rfl, ho0, hb⟩
 refine ⟨_, rfl, ?_⟩
 have HO137 := Aside0.mk (Kd.R_lower (Kd.R_new' (Kd.R_new' ho0 (Kd.R_lt (rb_ HO_7.out))) (Kd.R_lt (rb_ HO_118000.out))) (below_size (gb_ HB.out)))
 replace HO_7 := a5_ HO_7 ho0 hb
 replace HO_118000 := a5_ HO_118000 ho0 hb
 replace BK101 := a2_ BK101 hb
 replace BK117 := a2_ BK117 hb
 replace HI105 := i1_ HI105 hb
 replace HB := b1_ HB hb
 (try clear hb ho0)
 refine hK.out _ _ ((blk_cell BK117.out 0).trans rfl) (fun hHeld => ?_)
 clear hK K
 refine nm_ ?_
 refine pv_ 7 9 HT_ ?_
 refine done_ (done_of HT_.out (by kernel_rfl)) ?_
 go_upto_block 2 with (first | ((with_reducible refine gate_callee (f := 52) rfl ?_); refine gl_ (some 39) rfl rfl Tryz.func52 #[.pointer (some ⟨g105, 0, none⟩), .int .i64 3] rfl ?_; (with_reducible refine (spec_l01Next.calls g105 t102 t133 t134 3 t138 t139 t140 w _ ?side1 ?side2 A35.out).mono ?_); (case side1 => exact i_ HI105); (case side2 => exact gb_ HB.out); rintro e w42 ⟨rfl, hi, hb, hk⟩; refine ⟨_, rfl, ?_⟩; replace HO_7 := kr_ HI105 HO_7 hk; replace HO_118000 := kr_ HI105 HO_118000 hk; replace BK101 := kx_ BK101 NB101_105 hk; replace BK117 := kx_ BK117 NB117_105 hk; replace HO137 := kr_ HI105 HO137 hk; replace HB := Aside0.mk (hb); replace HI105 := Aside0.mk (hi); (try clear hb); (try clear hb2); (try clear hk); (try clear hi)))
 (try simp only [Act.put, List.setIfInBounds_toArray, List.set_cons_zero, List.set_cons_succ])
 go_cut [9] (fun v9 wc => ∃ (kq : Nat) (x9_35 : List Int) (x106001_35 : Int) (x106002_35 : Int), Aside0 (spec_l03Draw.j1 kq x7_1 x9_35 t102 x106001_35 x106002_35 t112 = some (r1, r2, r3)) ∧ Aside0 (kq ≤ k1) ∧ Aside0 (Kd.R (Kd.int .i64) 2 wc w.heap.size (fun k_ => OB_ k_ v9 ∧ OB_ k_ (.slice Ao14 t112.length co14)) (.slice Ao40 x7_1.length co40) x7_1) ∧ Aside0 (Kd.Q (Kd.int .i64) 2 wc w.heap.size (fun k_ => OB_ k_ (.slice Ao40 x7_1.length co40) ∧ OB_ k_ (.slice Ao14 t112.length co14)) v9 x9_35) ∧ Aside0 (Kd.R (Kd.int .i64) 2 wc w.heap.size (fun k_ => OB_ k_ (.slice Ao40 x7_1.length co40) ∧ OB_ k_ v9) (.slice Ao14 t112.length co14) t112) ∧ Aside0 (wc.heap[gb101]? = some (.cells #[(.slice none 0 0)] 26 (0, 0))) ∧ Aside0 (wc.heap[gb117]? = some (.cells #[(.slice Ao14 t112.length co14)] 26 (0, 0))) ∧ Aside0 (IsS93 w wc g105 t102 x106001_35 x106002_35) ∧ Aside0 (Below w.heap.size w wc))
 case first =>
  have H := HC36.out
  clear HC36
  by_cases c43 : t138 = 0
  rotate_left
  ·rw [if_neg c43] at H
   have c43b0 : (t138 == 0) = false := beq_eq_false_iff_ne.mpr c43
   have c43b1 : (t138 != 0) = true := bne_iff_ne.mpr c43
   (first | rw [c43b0] | (simp only [i64_w, i32_w]; rw [c43b0]) | skip)
   by_cases c61 : t138 = 1
   rotate_left
   ·rw [if_neg c61] at H
    have c61b0 : (t138 == 1) = false := beq_eq_false_iff_ne.mpr c61
    have c61b1 : (t138 != 1) = true := bne_iff_ne.mpr c61
    have H' := Aside0.mk H
    clear H
    go_wp2
    go_meet
    case rel => exact ⟨_, (t135), (t139), (t140), H', ⟨by have := HK1.out; first | omega | exact Nat.le_refl _⟩, ⟨rb_ (Kd.R_mono HO_7.out (fun _ hk => ⟨hk.2, hk.1⟩))⟩, ⟨Kd.Q_of_R (rb_ (Kd.R_mono HO137.out (fun _ hk => ⟨hk.1.2, hk.2⟩)))⟩, ⟨rb_ HO_118000.out⟩, ⟨bb_ BK101.out⟩, ⟨bb_ BK117.out⟩, ⟨i_ HI105⟩, ⟨gb_ HB.out⟩⟩
   rw [if_pos c61] at H
   have c61b0 : (t138 == 1) = true := beq_iff_eq.mpr c61
   have c61b1 : (t138 != 1) = false := bne_eq_false_iff_eq.mpr c61
   clear c61
   by_cases c62 : (t135.length : Int) > 0
   rotate_left
   ·rw [if_neg c62] at H
    have c62b0 : decide (0 < (t135.length : Int)) = false := decide_eq_false c62
    have c62b1 : decide (0 < t135.length) = false := decide_eq_false (by omega)
    clear c62
    have H' := Aside0.mk H
    clear H
    obtain ⟨Ao73, co73, eo73⟩ := Kd.R_slice HO137.out
    subst eo73
    go_wp2
    go_meet
    case rel => exact ⟨_, (t135), (t139), (t140), H', ⟨by have := HK1.out; first | omega | exact Nat.le_refl _⟩, ⟨rb_ (Kd.R_mono HO_7.out (fun _ hk => ⟨hk.2, hk.1⟩))⟩, ⟨Kd.Q_of_R (rb_ (Kd.R_mono HO137.out (fun _ hk => ⟨hk.1.2, hk.2⟩)))⟩, ⟨rb_ HO_118000.out⟩, ⟨bb_ BK101.out⟩, ⟨bb_ BK117.out⟩, ⟨i_ HI105⟩, ⟨gb_ HB.out⟩⟩
   rw [if_pos c62] at H
   have c62b0 : decide (0 < (t135.length : Int)) = true := decide_eq_true c62
   have c62b1 : decide (0 < t135.length) = true := decide_eq_true (by omega)
   clear c62
   replace H := ip_ H
   obtain ⟨c63, H⟩ := H
   have c63b0 := eq_true c63
   have c63b1 := decide_eq_true c63
   clear c63
   obtain ⟨y157, hy157⟩ : ∃ y_ : List Int, y_ = (t135.drop (1 : Int).toNat) := ⟨_, rfl⟩
   replace H : ((spec_l01N.f k1 t112).bind fun t160 => ((spec_l01Next.f t102 t139 t140 t160).bind fun bt161 => ((spec_l01Put.f k1 y157 bt161.1).bind fun t164 => (spec_l03Draw.j1 k1 x7_1 t164 t102 bt161.2.1 bt161.2.2 t112)))) = some (r1, r2, r3) := y_ H
   have Ny157 := Aside0.mk hy157
   clear hy157
   replace H := bd_ H
   obtain ⟨t160, A64, H⟩ := H
   replace H := bd_ H
   obtain ⟨⟨t161, t162, t163⟩, A65, H⟩ := H
   try dsimp only at H
   replace H := bd_ H
   obtain ⟨t164, A66, H⟩ := H
   have H' := Aside0.mk H
   clear H
   obtain ⟨Ao67, co67, eo67⟩ := Kd.R_slice HO137.out
   subst eo67
   try go_wp2
   replace HO_7 := Aside0.mk (Kd.R_drew HO_7.out)
   replace HO_118000 := Aside0.mk (Kd.R_drew HO_118000.out)
   replace HO137 := Aside0.mk (Kd.R_drew HO137.out)
   replace BK101 := Aside0.mk (blk_drew BK101.out)
   replace BK117 := Aside0.mk (blk_drew BK117.out)
   replace HI105 := Aside0.mk (IsS93.drew HI105.out)
   replace HB := Aside0.mk (below_drew1 HB.out)
   have n_ := Aside0.mk (Kd.R_mono (ok' := (fun k_ => OB_ k_ (.slice Ao40 x7_1.length co40) ∧ OB_ k_ (.slice Ao14 t112.length co14))) HO137.out (fun k_ hk => ⟨hk.1.2, hk.2⟩))
   clear HO137
   have HO137 := n_
   clear n_
   have q69 : (1 : Int) ≤ ((t135.length : Int) : Int) := of_decide_eq_true t6_
   obtain ⟨i069, hi069, _, hsz69, _⟩ := info_parts info2
   have hcut69 := cut_from (P := Tryz.prog) 24 2 .i64 Tryz.underlying24 hi069 1 hsz69 Ao67 t135.length co67 1 (by omega) q69
   have hr69 := Kd.Q_drop (k := (1 : Int).toNat) (Kd.Q_of_R HO137.out) (by omega)
   obtain ⟨A69, hA69⟩ : ∃ A1, A1 = (if co67 = (1 : Int).toNat then Ao67 else (Ao67 : Option Addr).map (·.add ((1 : Int).toNat * 1))) := ⟨_, rfl⟩
   obtain ⟨c69, hc69⟩ : ∃ c1, c1 = co67 - (1 : Int).toNat := ⟨_, rfl⟩
   have hy69 : y157.length = t135.length - (1 : Int).toNat := (by rw [Ny157.out, List.length_drop])
   rw [← Ny157.out] at hr69
   rw [← hy69, ← hA69, ← hc69] at hcut69
   replace hr69 : Kd.Q (Kd.int .i64) 2 w42.drew w.heap.size (fun k_ => OB_ k_ (.slice Ao40 x7_1.length co40) ∧ OB_ k_ (.slice Ao14 t112.length co14)) (.slice A69 y157.length c69) y157 := (by rw [hA69, hc69, hy69]; exact hr69)
   have HE69 : Aside0 ((Value.slice A69 y157.length c69).ownBlock = (.slice Ao67 t135.length co67 : Value).ownBlock) := ⟨by rw [hA69]; split <;> (cases (Ao67 : Option Addr) <;> rfl)⟩
   clear hy69 hi069 hsz69 HO137 hA69 hc69
   have HO159 := Aside0.mk hr69
   clear hr69
   replace q69 := eq_true q69
   have n_ := Aside0.mk (Kd.R_mono (ok' := fun k_ => (OB_ k_ (.slice Ao14 t112.length co14) ∧ OB_ k_ (.slice A69 y157.length c69))) HO_7.out (fun k_ hk => ⟨hk.1, (by show some k_ ≠ _; rw [HE69.out]; exact hk.2)⟩))
   clear HO_7
   have HO_7 := n_
   clear n_
   have n_ := Aside0.mk (Kd.R_mono (ok' := fun k_ => (OB_ k_ (.slice Ao40 x7_1.length co40) ∧ OB_ k_ (.slice A69 y157.length c69))) HO_118000.out (fun k_ hk => ⟨hk.1, (by show some k_ ≠ _; rw [HE69.out]; exact hk.2)⟩))
   clear HO_118000
   have HO_118000 := n_
   clear n_
   refine start_ (n := 8) (S := fun w' => w'.cell? ⟨gb117, 0, none⟩ = some (.slice Ao14 t112.length co14)) (ds := []) #[false, false, false, false, false, false, false, false] (by kernel_rfl) rfl rfl ((blk_cell BK117.out 0).trans rfl) (fun hHeld => ?_); refine with_tabW spec_l03Draw.tab15 spec_l03Draw.bits15 (fun HT_ HW_ => ?_)
   generalize w42.drew = w68 at HO_7 HO_118000 BK101 BK117 HI105 HB HO159 hHeld ⊢
   refine pv_ 0 63 HT_ ?_
   refine pv_ 1 64 HT_ ?_
   refine pv_ 2 65 HT_ ?_
   refine tv1_ 3 66 HT_ HW_ hHeld ?_
   refine ow_ 4 67 HT_ fun K hK => ?_
   refine goes_ Tryz.func53 (by kernel_rfl) rfl #[.agg #[.slice Ao14 t112.length co14]] (by rfl) rfl rfl t1_ ?_
   with_reducible refine (spec_l01N.calls k1 _ _ t112 t160 _ ?side1 ?side2 A64.out).mono ?_
   (case side1 => exact c1_ HO_118000)
   (case side2 => exact (Kd.R_reads' HO_118000.out).2.1)
   rintro e w70 ⟨rfl, hb⟩
   refine ⟨_, rfl, ?_⟩
   replace HO_7 := a1_ HO_7 hb
   replace HO_118000 := a1_ HO_118000 hb
   replace HO159 := Aside0.mk (Kd.Q_below (qb_ HO159.out) hb)
   replace BK101 := a2_ BK101 hb
   replace BK117 := a2_ BK117 hb
   replace HI105 := i1_ HI105 hb
   replace HB := b1_ HB hb
   (try clear hb)
   refine hK.out _ _ ((blk_cell BK117.out 0).trans rfl) (fun hHeld => ?_)
   clear hK K
   refine nm_ ?_
   refine ow_ 5 68 HT_ fun K hK => ?_
   refine goes_ Tryz.func52 (by kernel_rfl) rfl #[.pointer (some ⟨g105, 0, none⟩), .int .i64 t160] (by rfl) rfl rfl t1_ ?_
   with_reducible refine (spec_l01Next.calls g105 t102 t139 t140 t160 t161 t162 t163 w _ ?side1 ?side2 A65.out).mono ?_
   (case side1 => exact i_ HI105)
   (case side2 => exact gb_ HB.out)
   rintro e w71 ⟨rfl, hi, hb, hk⟩
   refine ⟨_, rfl, ?_⟩
   replace HO_7 := kr_ HI105 HO_7 hk
   replace HO_118000 := kr_ HI105 HO_118000 hk
   replace BK101 := kx_ BK101 NB101_105 hk
   replace BK117 := kx_ BK117 NB117_105 hk
   replace HO159 := Aside0.mk (Kd.Q_mono (Kd.Q_keep (IsS93.apartQ (show IsS93 w _ g105 t102 t139 t140 from i_ HI105) (qb_ HO159.out) (by decide)) hk (fun _ h => h.2)) (fun _ h => h.1))
   replace HB := Aside0.mk (hb)
   replace HI105 := Aside0.mk (hi)
   (try clear hb hk hi)
   refine hK.out _ _ ((blk_cell BK117.out 0).trans rfl) (fun hHeld => ?_)
   clear hK K
   refine nm_ ?_
   refine ow_ 6 69 HT_ fun K hK => ?_
   refine goes_ Tryz.func36 (by kernel_rfl) rfl #[.slice A69 y157.length c69, .int .i64 t161] (by rfl) rfl rfl t1_ ?_
   with_reducible refine (spec_l01Put.callsQ k1 (fun k_ => some k_ = (.slice A69 y157.length c69 : Value).ownBlock) (.slice A69 y157.length c69) y157 t161 t164 w _ ?side1 ?side2 A66.out).mono ?_
   (case side1 => exact gb_ HB.out)
   (case side2 => exact Kd.Q_tight rfl HO159.out)
   rintro e w72 ⟨v165, rfl, ho0, hb, hkp⟩
   refine ⟨_, rfl, ?_⟩
   replace BK101 := Aside0.mk (blk_kept (bb_ BK101.out) hkp (fun hs_ => (fun e_ => (Kd.Q_ne HO159.out BK101.out (by decide)) e_) hs_))
   replace BK117 := Aside0.mk (blk_kept (bb_ BK117.out) hkp (fun hs_ => (fun e_ => (Kd.Q_ne HO159.out BK117.out (by decide)) e_) hs_))
   replace HI105 := Aside0.mk (IsS93.kept (i_ HI105) hkp (fun hs_ => (fun e_ => (IsS93.own_neQ HI105.out HO159.out (by decide)) e_) hs_))
   have HO166 := Aside0.mk (Kd.Q_mono (ok' := fun k_ => OB_ k_ (.slice Ao40 x7_1.length co40) ∧ OB_ k_ (.slice Ao14 t112.length co14)) ho0 (fun k_ hk_ => ⟨Or.elim hk_ (fun hs_ => fun e_ => (((HO_7.out).1 k_ e_.symm).2) hs_) (fun hn_ => (Kd.fresh' (Kd.R_lt (rb_ HO_7.out)) k_ hn_)), Or.elim hk_ (fun hs_ => fun e_ => (((HO_118000.out).1 k_ e_.symm).2) hs_) (fun hn_ => (Kd.fresh' (Kd.R_lt (rb_ HO_118000.out)) k_ hn_))⟩))
   replace HO_7 := Aside0.mk (Kd.R_mono (ok' := fun k_ => OB_ k_ (.slice Ao14 t112.length co14) ∧ OB_ k_ v165) (Kd.R_keptB (HO_7.out) hkp (fun k_ hk_ hs_ => (hk_.2) hs_)) (fun k_ hk_ => ⟨hk_.1.1, fun e_ => Or.elim (ho0.1 k_ e_.symm) (fun hs_ => hk_.2.1 hs_) (fun hn_ => Nat.not_le.2 hk_.2.2 hn_)⟩))
   replace HO_118000 := Aside0.mk (Kd.R_mono (ok' := fun k_ => OB_ k_ (.slice Ao40 x7_1.length co40) ∧ OB_ k_ v165) (Kd.R_keptB (HO_118000.out) hkp (fun k_ hk_ hs_ => (hk_.2) hs_)) (fun k_ hk_ => ⟨hk_.1.1, fun e_ => Or.elim (ho0.1 k_ e_.symm) (fun hs_ => hk_.2.1 hs_) (fun hn_ => Nat.not_le.2 hk_.2.2 hn_)⟩))
   replace HB := Aside0.mk (hb)
   clear HO159
   (try clear hb hkp ho0)
   refine hK.out _ _ ((blk_cell BK117.out 0).trans rfl) (fun hHeld => ?_)
   clear hK K
   refine nm_ ?_
   refine pv_ 7 9 HT_ ?_
   refine done_ (done_of HT_.out (by kernel_rfl)) ?_
   try go_wp2
   go_meet
   case rel => exact ⟨_, (t164), (t162), (t163), H', ⟨by have := HK1.out; first | omega | exact Nat.le_refl _⟩, ⟨rb_ (Kd.R_mono HO_7.out (fun _ hk => ⟨hk.2, hk.1⟩))⟩, ⟨qb_ HO166.out⟩, ⟨rb_ HO_118000.out⟩, ⟨bb_ BK101.out⟩, ⟨bb_ BK117.out⟩, ⟨i_ HI105⟩, ⟨gb_ HB.out⟩⟩
  rw [if_pos c43] at H
  have c43b0 : (t138 == 0) = true := beq_iff_eq.mpr c43
  have c43b1 : (t138 != 0) = false := bne_eq_false_iff_eq.mpr c43
  clear c43
  (first | rw [c43b0] | (simp only [i64_w, i32_w]; rw [c43b0]) | skip)
  obtain ⟨y141, hy141⟩ : ∃ y_ : List Int, y_ = (([] : List Int)) := ⟨_, rfl⟩
  replace H : ((spec_l03Orders.f k1 t112 y141).bind fun t144 => ((spec_l01Next.f t102 t139 t140 (t144.length : Int)).bind fun bt147 => (if 0 ≤ bt147.1 then (if bt147.1 < (t144.length : Int) then ((spec_l03Places.f k1 t112 t135 (rd_L2 t144 bt147.1)).bind fun bt151 => (spec_l03Draw.j1 k1 x7_1 bt151.2 t102 bt147.2.1 bt147.2.2 t112)) else (none)) else (none)))) = some (r1, r2, r3) := y_ H
  have Ny141 := Aside0.mk hy141
  clear hy141
  replace H := bd_ H
  obtain ⟨t144, A44, H⟩ := H
  replace H := bd_ H
  obtain ⟨⟨t147, t148, t149⟩, A45, H⟩ := H
  try dsimp only at H
  replace H := id_ H
  obtain ⟨c46b0, H⟩ := H
  replace H := id_ H
  obtain ⟨c47b0, H⟩ := H
  replace H := bd_ H
  obtain ⟨⟨t151, t154⟩, A48, H⟩ := H
  try dsimp only at H
  have H' := Aside0.mk H
  clear H
  have hnb49 := NB117_101.out
  have hnc49 := NB101_117.out
  have hnb50 := NB117_105.out
  have hnc50 := NB105_117.out
  have hcz51_0 := hz_ BK117
  have hfz51_0 := blk_frozen BK117.out 0
  try go_wp2_with (first | ((with_reducible refine gate_dst (N := 43) rfl ?_); refine Kd.R_lit (Kd.int .i64) _ 2 ?hg (N := 43) ?hd (xs := ([] : List Int)) (inner := []) (ok := fun _ => True) (okp := fun _ => True) ?hr ?hp (fun _ hk => hk) trivial (Below.refl _ _) (Nat.le_refl _) (by simp) ?_; (case hd => rfl); (case hg => rfl); (case hr => exact t3_); (case hp => exact (Reps.none _ _)); intro v142 w52 ho53 hb hg_ hnew_; clear hg_ hnew_; (first | rw [← Ny141.out] at ho53 | (simp only [Int.reduceToNat] at ho53; rw [← Ny141.out] at ho53)); have HO143 := Aside0.mk (Kd.R_lower (Kd.R_new' (Kd.R_new' (Kd.R_new' ho53 (Kd.R_lt (rb_ HO_7.out))) (Kd.R_lt (rb_ HO_118000.out))) (Kd.R_lt (rb_ HO137.out))) (below_size (gb_ HB.out))); replace HO_7 := a5_ HO_7 ho53 hb; replace HO_118000 := a5_ HO_118000 ho53 hb; replace HO137 := a5_ HO137 ho53 hb; replace BK101 := a2_ BK101 hb; replace BK117 := a2_ BK117 hb; replace HI105 := i1_ HI105 hb; replace HB := b1_ HB hb; clear hb ho53; obtain ⟨Ao54, co54, eo54⟩ := Kd.R_slice HO143.out; subst eo54) | ((with_reducible refine gate_callee (f := 55) rfl ?_); refine gl_ (some 44) rfl rfl Tryz.func55 #[.agg #[.slice Ao14 t112.length co14], .slice Ao54 y141.length co54] rfl ?_; (with_reducible refine (spec_l03Orders.calls k1 _ _ t112 (fun k_ => some k_ = (.slice Ao54 y141.length co54 : Value).ownBlock) _ _ y141 t144 _ ?side1 ?side2 ?side3 A44.out).mono ?_); (case side1 => exact c1_ HO_118000); (case side2 => exact (Kd.R_reads' HO_118000.out).2.1); (case side3 => exact Kd.R_V (Kd.R_tight rfl (IsS93.apart HI105.out (Kd.R_types (Kd.R_types (HO143.out) BK101.out (by decide)) BK117.out (by decide)) (by decide)))); rintro e w55 ⟨v145, rfl, ho0, hb⟩; refine ⟨_, rfl, ?_⟩; have HO146 := Aside0.mk (Kd.N_lower (Kd.N_mono (ok' := fun k_ => OB_ k_ (.slice Ao40 x7_1.length co40) ∧ OB_ k_ (.slice Ao14 t112.length co14) ∧ OB_ k_ v136 ∧ k_ ≠ gb101 ∧ k_ ≠ gb117 ∧ k_ ≠ g105) ho0 (fun k_ hk_ => ⟨Or.elim hk_ (fun hs_ => ((IsS93.apart HI105.out (Kd.R_types (Kd.R_types (HO143.out) BK101.out (by decide)) BK117.out (by decide)) (by decide)).1 k_ hs_.symm).1.1.1.1.1.2) (fun hn_ => (Kd.fresh' (Kd.R_lt (rb_ HO_7.out)) k_ hn_)), Or.elim hk_ (fun hs_ => ((IsS93.apart HI105.out (Kd.R_types (Kd.R_types (HO143.out) BK101.out (by decide)) BK117.out (by decide)) (by decide)).1 k_ hs_.symm).1.1.1.1.2) (fun hn_ => (Kd.fresh' (Kd.R_lt (rb_ HO_118000.out)) k_ hn_)), Or.elim hk_ (fun hs_ => ((IsS93.apart HI105.out (Kd.R_types (Kd.R_types (HO143.out) BK101.out (by decide)) BK117.out (by decide)) (by decide)).1 k_ hs_.symm).1.1.1.2) (fun hn_ => (Kd.fresh' (Kd.R_lt (rb_ HO137.out)) k_ hn_)), Or.elim hk_ (fun hs_ => ((IsS93.apart HI105.out (Kd.R_types (Kd.R_types (HO143.out) BK101.out (by decide)) BK117.out (by decide)) (by decide)).1 k_ hs_.symm).1.1.2) (fun hn_ => (Kd.freshB (g := gb101) (o := .cells #[.slice none 0 0] 26 (0, 0)) (bb_ BK101.out) k_ hn_)), Or.elim hk_ (fun hs_ => ((IsS93.apart HI105.out (Kd.R_types (Kd.R_types (HO143.out) BK101.out (by decide)) BK117.out (by decide)) (by decide)).1 k_ hs_.symm).1.2) (fun hn_ => (Kd.freshB (g := gb117) (o := .cells #[.slice Ao14 t112.length co14] 26 (0, 0)) (bb_ BK117.out) k_ hn_)), Or.elim hk_ (fun hs_ => ((IsS93.apart HI105.out (Kd.R_types (Kd.R_types (HO143.out) BK101.out (by decide)) BK117.out (by decide)) (by decide)).1 k_ hs_.symm).2) (fun hn_ => (IsS93.fresh (i_ HI105) k_ hn_))⟩)) (below_size (gb_ HB.out))); replace HO_7 := a1_ HO_7 hb; replace HO_118000 := a1_ HO_118000 hb; replace HO137 := a1_ HO137 hb; replace HO143 := a1_ HO143 hb; replace BK101 := a2_ BK101 hb; replace BK117 := a2_ BK117 hb; replace HI105 := i1_ HI105 hb; replace HB := b1_ HB hb; (try clear hb); (try clear hb2); (try clear hk); (try clear hi); (try clear ho0)))
  replace HO_7 := Aside0.mk (Kd.R_drew HO_7.out)
  replace HO_118000 := Aside0.mk (Kd.R_drew HO_118000.out)
  replace HO137 := Aside0.mk (Kd.R_drew HO137.out)
  replace HO143 := Aside0.mk (Kd.R_drew HO143.out)
  replace HO146 := Aside0.mk (Kd.N_drew HO146.out)
  replace BK101 := Aside0.mk (blk_drew BK101.out)
  replace BK117 := Aside0.mk (blk_drew BK117.out)
  replace HI105 := Aside0.mk (IsS93.drew HI105.out)
  replace HB := Aside0.mk (below_drew1 HB.out)
  obtain ⟨Ao57, co57, eo57⟩ := Kd.N_slice HO146.out
  (first | subst eo57 | (injection eo57 with f1_ f2_ f3_; have f4_ := f1_.symm; have f5_ := f3_.symm; clear f1_ f2_ f3_; subst f4_; subst f5_))
  have p150 : 0 ≤ (t147 : Int) := of_decide_eq_true t6_
  have q150 : t147 < (t144.length : Int) := of_decide_eq_true t6_
  obtain ⟨ad150, A150_0, c150_0, e150, hx150_0, hl150_0, hi150_0⟩ := at_L2 (Kd.N_reads' HO146.out).2.2 t147 p150 q150
  cases e150
  obtain ⟨ce150, hce150, hMe150, hcc150⟩ := Kd.N_get HO146.out [] t147 p150 (by first | exact q150 | exact of_decide_eq_true t6_ | (have e_ := (Kd.N_reads' HO146.out).1; omega))
  obtain ⟨ua150_0, uc150_0, rfl, ul150_0, ge150_0⟩ := Kd.FK_slice_open hMe150
  have hv150_0 := hcc150 0 _ rfl
  rw [Nat.add_zero, show ((Kd.slice 2 (Kd.int .i64))).sz = 1 from rfl, Nat.mul_one] at hv150_0
  replace hv150_0 := Option.some.inj (hv150_0.symm.trans hx150_0)
  injection hv150_0 with hva_ hvn_ hvc_
  rw [hva_] at ge150_0
  rw [hvc_] at ul150_0
  have HL150_0 := Aside0.mk (show Kd.V (Kd.int .i64) 2 _ w.heap.size _ _ (rd_L2 t144 t147) from Kd.V_mk ul150_0 ge150_0)
  clear hva_ hvn_ hvc_ ge150_0 ul150_0 hcc150 hce150
  have HR150_0 := Aside0.mk hi150_0
  have HC150_0 := Aside0.mk hl150_0
  clear hi150_0 hl150_0
  replace p150 := eq_true p150
  replace q150 := eq_true q150
  refine sr_ (n := 14) (S := fun w' => w'.cell? ⟨gb117, 0, none⟩ = some (.slice Ao14 t112.length co14) ∧ w'.cell? (ad150.add (t147).toNat) = some (.slice A150_0 (rd_L2 t144 t147).length c150_0)) (ds := []) ⟨(blk_cell BK117.out 0).trans rfl, hx150_0⟩ spec_l03Draw.tab12 spec_l03Draw.bits12 fun hHeld HT_ HW_ => ?_
  generalize w55.drew = w56 at HO_7 HO_118000 HO137 HO143 HO146 BK101 BK117 HI105 HB HL150_0 HR150_0 hx150_0 hHeld ⊢
  refine pv_ 1 47 HT_ ?_
  refine pv_ 2 48 HT_ ?_
  refine pv_ 3 49 HT_ ?_
  refine pv_ 4 50 HT_ ?_
  refine pv_ 5 51 HT_ ?_
  refine tv2_ 0 46 HT_ HW_ hHeld ?_
  refine ow_ 6 52 HT_ fun K hK => ?_
  refine goes_ Tryz.func52 (by kernel_rfl) rfl #[.pointer (some ⟨g105, 0, none⟩), .int .i64 (t144.length : Int)] (by rfl) rfl rfl t1_ ?_
  with_reducible refine (spec_l01Next.calls g105 t102 t139 t140 (t144.length : Int) t147 t148 t149 w _ ?side1 ?side2 A45.out).mono ?_
  (case side1 => exact i_ HI105)
  (case side2 => exact gb_ HB.out)
  rintro e w58 ⟨rfl, hi, hb, hk⟩
  have HS1_ := keep_cell hk (hHeld.2) (by first | (rw [add_block]; exact Kd.own_blk (IsS93.own_neN HI105.out HO146.out (by decide))) | (show (Addr.add _ _).block ≠ _; rw [add_block]; exact Kd.own_blk (IsS93.own_neN HI105.out HO146.out (by decide))) | exact Kd.own_blk (IsS93.own_neN HI105.out HO146.out (by decide)))
  refine ⟨_, rfl, ?_⟩
  have hl9 := Aside0.mk (Kd.V_keep HL150_0.out hk (fun k_ hk_ => hk_.1.2.2.2.2.2))
  clear HL150_0 HR150_0
  have HL150_0 := hl9
  have HR150_0 := Aside0.mk (Kd.V_reads' HL150_0.out).2.2
  clear hl9
  replace HO_7 := kr_ HI105 HO_7 hk
  replace HO_118000 := kr_ HI105 HO_118000 hk
  replace BK101 := kx_ BK101 NB101_105 hk
  replace BK117 := kx_ BK117 NB117_105 hk
  replace HO137 := kr_ HI105 HO137 hk
  replace HO143 := kr_ HI105 HO143 hk
  replace HO146 := Aside0.mk (Kd.N_mono (Kd.N_keep (Kd.N_mono (ok := fun k_ => (OB_ k_ (.slice Ao40 x7_1.length co40) ∧ (OB_ k_ (.slice Ao14 t112.length co14) ∧ (OB_ k_ v136 ∧ (k_ ≠ gb101 ∧ (k_ ≠ gb117 ∧ k_ ≠ g105)))))) (nb_ HO146.out) (fun k_ hk_ => (⟨hk_, hk_.2.2.2.2.2⟩ : _ ∧ k_ ≠ g105))) hk (fun _ h => h.2)) (fun _ h => h.1))
  replace HB := Aside0.mk (hb)
  replace HI105 := Aside0.mk (hi)
  (try clear hb hk hi)
  obtain ⟨Ao59, co59, eo59⟩ := Kd.R_slice HO137.out
  (first | subst eo59 | (injection eo59 with f1_ f2_ f3_; have f4_ := f1_.symm; have f5_ := f3_.symm; clear f1_ f2_ f3_; subst f4_; subst f5_))
  refine hK.out _ _ ⟨(blk_cell BK117.out 0).trans rfl, HS1_⟩ (fun hHeld => ?_)
  clear hK K
  refine nm_ ?_
  refine pv_ 7 53 HT_ ?_
  refine tv2_ 8 54 HT_ HW_ hHeld ?_
  refine ow_ 9 55 HT_ fun K hK => ?_
  refine goes_ Tryz.func56 (by kernel_rfl) rfl #[.agg #[.slice Ao14 t112.length co14], .slice Ao59 t135.length co59, .slice A150_0 (rd_L2 t144 t147).length c150_0] (by rfl) rfl rfl t1_ ?_
  with_reducible refine (spec_l03Places.calls k1 _ _ t112 _ _ t135 _ _ (rd_L2 t144 t147) t151 t154 _ ?side1 ?side2 ?side3 ?side4 ?side5 ?side6 A48.out).mono ?_
  (case side1 => exact c1_ HO_118000)
  (case side2 => exact (Kd.R_reads' HO_118000.out).2.1)
  (case side3 => exact c1_ HO137)
  (case side4 => exact (Kd.R_reads' HO137.out).2.1)
  (case side5 => exact cb_ HR150_0)
  (case side6 => exact HC150_0.out)
  rintro e w60 ⟨v152, v155, rfl, ho0, ho1, hb⟩
  have HS1_ := (hb.cell (World.block_lt_of_cell? _ _ (hHeld.2))).trans (hHeld.2)
  refine ⟨_, rfl, ?_⟩
  replace HO146 := Aside0.mk (Kd.N_mono (Kd.N_told (Kd.N_told (Kd.N_old (nb_ HO146.out) hb) (Kd.R_base ho0)) (Kd.R_base ho1)) (fun _ h_ => h_.1))
  replace HL150_0 := Aside0.mk (Kd.V_mono (Kd.V_told (Kd.V_told (Kd.V_old (vb_ HL150_0.out) hb) (Kd.R_base ho0)) (Kd.R_base ho1)) (fun _ h_ => h_.1))
  have HO153 := Aside0.mk (Kd.R_lower (Kd.R_new' (Kd.R_new' (Kd.R_new' (Kd.R_new' ho0 (Kd.R_lt (rb_ HO_7.out))) (Kd.R_lt (rb_ HO_118000.out))) (Kd.R_lt (rb_ HO137.out))) (Kd.R_lt (rb_ HO143.out))) (below_size (gb_ HB.out)))
  have HO156 := Aside0.mk (Kd.R_lower (Kd.R_new' (Kd.R_new' (Kd.R_new' (Kd.R_new' ho1 (Kd.R_lt (rb_ HO_7.out))) (Kd.R_lt (rb_ HO_118000.out))) (Kd.R_lt (rb_ HO137.out))) (Kd.R_lt (rb_ HO143.out))) (below_size (gb_ HB.out)))
  replace HO_7 := Aside0.mk (Kd.R_mono (Kd.R_told (Kd.R_told (Kd.R_old (rb_ HO_7.out) hb) (Kd.R_base ho0)) (Kd.R_base ho1)) (fun _ h_ => h_.1))
  replace HO_118000 := Aside0.mk (Kd.R_mono (Kd.R_told (Kd.R_told (Kd.R_old (rb_ HO_118000.out) hb) (Kd.R_base ho0)) (Kd.R_base ho1)) (fun _ h_ => h_.1))
  replace HO137 := Aside0.mk (Kd.R_mono (Kd.R_told (Kd.R_told (Kd.R_old (rb_ HO137.out) hb) (Kd.R_base ho0)) (Kd.R_base ho1)) (fun _ h_ => h_.1))
  replace HO143 := Aside0.mk (Kd.R_mono (Kd.R_told (Kd.R_told (Kd.R_old (rb_ HO143.out) hb) (Kd.R_base ho0)) (Kd.R_base ho1)) (fun _ h_ => h_.1))
  replace BK101 := a2_ BK101 hb
  replace BK117 := a2_ BK117 hb
  replace HI105 := i1_ HI105 hb
  replace HR150_0 := Aside0.mk (Kd.C_below (cb_ HR150_0) hb)
  replace HB := b1_ HB hb
  (try clear hb ho0 ho1)
  refine hK.out _ _ ⟨(blk_cell BK117.out 0).trans rfl, HS1_⟩ (fun hHeld => ?_)
  clear hK K
  refine nm_ ?_
  refine pv_ 10 45 HT_ ?_
  refine pv_ 11 56 HT_ ?_
  refine pv_ 12 57 HT_ ?_
  refine pv_ 13 9 HT_ ?_
  refine done_ (done_of HT_.out (by kernel_rfl)) ?_
  try go_wp2
  go_meet
  case rel => exact ⟨_, (t154), (t148), (t149), H', ⟨by have := HK1.out; first | omega | exact Nat.le_refl _⟩, ⟨rb_ (Kd.R_mono HO_7.out (fun _ hk => ⟨hk.2, hk.1.1.1.1⟩))⟩, ⟨Kd.Q_of_R (rb_ (Kd.R_mono HO156.out (fun _ hk => ⟨hk.1.1.1.2, hk.1.1.2⟩)))⟩, ⟨rb_ (Kd.R_mono HO_118000.out (fun _ hk => ⟨hk.1.1.1.1, hk.2⟩))⟩, ⟨bb_ BK101.out⟩, ⟨bb_ BK117.out⟩, ⟨i_ HI105⟩, ⟨gb_ HB.out⟩⟩
 clear HC36
 try clear c1
 try clear p1
 try clear q1
 try clear hx1
 try clear p2
 try clear c3
 try clear c4
 try clear c5
 try clear c6
 try clear q6
 try clear c15
 try clear p15
 try clear q15
 try clear hx15
 try clear c36
 try clear c43
 try clear c43b0
 try clear c43b1
 try clear c46
 try clear c46b0
 try clear c47
 try clear c47b0
 try clear c49
 try clear c50
 try clear c52
 try clear c53
 try clear c55
 try clear c56
 try clear c61
 try clear c61b0
 try clear c61b1
 try clear c62
 try clear c62b0
 try clear c62b1
 try clear c63
 try clear c63b0
 try clear c63b1
 try clear c69
 try clear q69
 try clear hcz51_0
 try clear hfz51_0
 try clear hx150_0
 try clear p150
 try clear q150
 try clear q69
 obtain ⟨kq, x9_35, x106001_35, x106002_35, HA, HJ35, HO_7, HO_9, HO_118000, BK101, BK117, HI105, HB⟩ := hcut
 cases kq with
 | zero => exact absurd HA.out (by simp [spec_l03Draw.j1])
 | succ kj35 =>
  have H := HA.out
  clear HA
  simp only [spec_l03Draw.j1] at H
  replace H := bd_ H
  obtain ⟨⟨t167, t170, t171⟩, A74, H⟩ := H
  try dsimp only at H
  replace H := bd_ H
  obtain ⟨⟨t172, t175, t176⟩, A75, H⟩ := H
  try dsimp only at H
  replace H := bd_ H
  obtain ⟨⟨t177, t180, t181⟩, A76, H⟩ := H
  try dsimp only at H
  simp only [Option.some.injEq, Prod.mk.injEq] at H
  obtain ⟨rfl, rfl, rfl⟩ := H
  try go_wp2
  replace HO_7 := Aside0.mk (Kd.R_drew HO_7.out)
  replace HO_9 := Aside0.mk (Kd.Q_drew HO_9.out)
  replace HO_118000 := Aside0.mk (Kd.R_drew HO_118000.out)
  replace BK101 := Aside0.mk (blk_drew BK101.out)
  replace BK117 := Aside0.mk (blk_drew BK117.out)
  replace HI105 := Aside0.mk (IsS93.drew HI105.out)
  replace HB := Aside0.mk (below_drew1 HB.out)
  refine start_ (n := 14) (S := fun w' => w'.cell? ⟨gb117, 0, none⟩ = some (.slice Ao14 t112.length co14)) (ds := []) #[false, false, false, false, false, false, false, false, false, false, false, false, false, false] (by kernel_rfl) rfl rfl ((blk_cell BK117.out 0).trans rfl) (fun hHeld => ?_); refine with_tabW spec_l03Draw.tab16 spec_l03Draw.bits16 (fun HT_ HW_ => ?_)
  generalize wc.drew = w77 at HO_7 HO_9 HO_118000 BK101 BK117 HI105 HB hHeld ⊢
  refine pv_ 0 70 HT_ ?_
  refine pv_ 3 73 HT_ ?_
  refine pv_ 5 75 HT_ ?_
  refine pv_ 7 77 HT_ ?_
  refine pv_ 9 79 HT_ ?_
  refine tv1_ 1 71 HT_ HW_ hHeld ?_
  refine tv1_ 4 74 HT_ HW_ hHeld ?_
  refine tv1_ 8 78 HT_ HW_ hHeld ?_
  refine ow_ 2 72 HT_ fun K hK => ?_
  refine goes_ Tryz.func57 (by kernel_rfl) rfl #[.pointer (some ⟨g105, 0, none⟩), .agg #[.slice Ao14 t112.length co14]] (by rfl) rfl rfl t1_ ?_
  with_reducible refine (spec_l01Bad.callsK kj35 g105 t102 x106001_35 x106002_35 (fun k_ => some k_ = (.slice Ao14 t112.length co14 : Value).ownBlock) (.slice Ao14 t112.length co14) t112 t167 t170 t171 w _ ?side1 ?side2 ?side3 A74.out).mono ?_
  (case side1 => exact i_ HI105)
  (case side2 => exact gb_ HB.out)
  (case side3 => exact Kd.R_tight rfl HO_118000.out)
  rintro e w78 ⟨v168, rfl, ho0, hi, hb, hkp, hkq⟩
  have gone := Aside0.mk (Kd.R_mono (ok' := fun _ => True) (Kd.R_keptB (IsS93.apart HI105.out HO_118000.out (by decide)) hkq (fun k_ hk_ e_ => hk_.2 e_)) (fun _ _ => trivial))
  clear hkq
  refine ⟨_, rfl, ?_⟩
  have n0_ := Aside0.mk (Kd.R_mono (ok' := fun k_ => OB_ k_ u9 ∧ OB_ k_ v168) (Kd.R_keptB ((IsS93.apart HI105.out HO_7.out (by decide))) hkp (fun k_ hk_ hs_ => Or.elim hs_ (fun hs_ => (hk_.1.2) hs_) (fun e_ => (hk_.2) e_))) (fun k_ hk_ => ⟨hk_.1.1.1, fun e_ => Or.elim (ho0.1 k_ e_.symm) (fun hs_ => hk_.2.1 (.inl hs_)) (fun hn_ => Nat.not_le.2 hk_.2.2 hn_)⟩))
  have n1_ := Aside0.mk (Kd.Q_mono (ok' := fun k_ => OB_ k_ (.slice Ao40 x7_1.length co40) ∧ OB_ k_ v168) (Kd.Q_keptB ((IsS93.apartQ HI105.out HO_9.out (by decide))) hkp (fun k_ hk_ hs_ => Or.elim hs_ (fun hs_ => (hk_.1.2) hs_) (fun e_ => (hk_.2) e_))) (fun k_ hk_ => ⟨hk_.1.1.1, fun e_ => Or.elim (ho0.1 k_ e_.symm) (fun hs_ => hk_.2.1 (.inl hs_)) (fun hn_ => Nat.not_le.2 hk_.2.2 hn_)⟩))
  have n2_ := Aside0.mk (blk_kept (bb_ BK101.out) hkp (fun hs_ => Or.elim hs_ (fun hs_ => (fun e_ => (Kd.R_ne HO_118000.out BK101.out (by decide)) e_) hs_) (fun e_ => NB101_105.out e_)))
  have n3_ := Aside0.mk (blk_kept (bb_ BK117.out) hkp (fun hs_ => Or.elim hs_ (fun hs_ => (fun e_ => (Kd.R_ne HO_118000.out BK117.out (by decide)) e_) hs_) (fun e_ => NB117_105.out e_)))
  have n4_ := Aside0.mk (hi)
  have n5_ := Aside0.mk (Kd.R_mono (ok' := fun k_ => OB_ k_ (.slice Ao40 x7_1.length co40) ∧ OB_ k_ u9) ho0 (fun k_ hk_ => ⟨Or.elim hk_ (fun hs_ => fun e_ => ((((IsS93.apart HI105.out HO_7.out (by decide))).1 k_ e_.symm).1.2) hs_) (fun hn_ => (Kd.fresh' (Kd.R_lt (rb_ HO_7.out)) k_ hn_)), Or.elim hk_ (fun hs_ => fun e_ => ((((IsS93.apartQ HI105.out HO_9.out (by decide))).1 k_ e_.symm).1.2) hs_) (fun hn_ => (Kd.fresh' (Kd.Q_lt (qb_ HO_9.out)) k_ hn_))⟩))
  have n6_ := Aside0.mk (hb)
  clear HO_7 HO_9 BK101 BK117 HI105 HB HO_118000
  have HO_7 := n0_
  have HO_9 := n1_
  have BK101 := n2_
  have BK117 := n3_
  have HI105 := n4_
  have HO169 := n5_
  have HB := n6_
  clear n0_ n1_ n2_ n3_ n4_ n5_ n6_
  (try clear hb hkp ho0)
  refine hK.out _ _ ((blk_cell BK117.out 0).trans rfl) (fun hHeld => ?_)
  clear hK K
  refine nm_ ?_
  refine ow_ 6 76 HT_ fun K hK => ?_
  refine goes_ Tryz.func58 (by kernel_rfl) rfl #[.pointer (some ⟨g105, 0, none⟩), .agg #[.slice Ao14 t112.length co14], .slice Ao40 x7_1.length co40] (by rfl) rfl rfl t1_ ?_
  with_reducible refine (spec_l01BadCode.calls kj35 g105 t102 t170 t171 _ _ t112 _ _ x7_1 t172 t175 t176 w _ ?side1 ?side2 ?side3 ?side4 ?side5 ?side6 ?side7 ?side8 A75.out).mono ?_
  (case side1 => exact i_ HI105)
  (case side2 => exact gb_ HB.out)
  (case side3 => exact c1_ gone)
  (case side4 => exact (Kd.R_reads' gone.out).2.1)
  (case side5 => exact far_slice (IsS93.own_ne HI105.out gone.out (by decide)))
  (case side6 => exact c1_ HO_7)
  (case side7 => exact (Kd.R_reads' HO_7.out).2.1)
  (case side8 => exact far_slice (IsS93.own_ne HI105.out HO_7.out (by decide)))
  rintro e w79 ⟨v173, rfl, ho0, hi, hb, hk⟩
  have gone9 := Aside0.mk (Kd.R_mono (Kd.R_keep (IsS93.apart HI105.out gone.out (by decide)) hk (fun _ h => h.2)) (fun _ h => h.1))
  clear gone
  have gone := gone9
  clear gone9
  refine ⟨_, rfl, ?_⟩
  replace BK101 := kx_ BK101 NB101_105 hk
  replace BK117 := kx_ BK117 NB117_105 hk
  have HO174 := Aside0.mk (Kd.R_lower (Kd.R_new' (Kd.R_new' (Kd.R_new' ho0 (Kd.R_lt (rb_ HO_7.out))) (Kd.Q_lt (qb_ HO_9.out))) (Kd.R_lt (rb_ HO169.out))) (below_size (gb_ HB.out)))
  replace HO_7 := Aside0.mk (Kd.R_mono (Kd.R_told (Kd.R_oldK (IsS93.apart (show IsS93 w _ g105 t102 t170 t171 from i_ HI105) (rb_ HO_7.out) (by decide)) hk) (Kd.R_base ho0)) (fun _ h_ => h_.1))
  replace HO_9 := Aside0.mk (Kd.Q_mono (Kd.Q_told (Kd.Q_oldK (IsS93.apartQ (show IsS93 w _ g105 t102 t170 t171 from i_ HI105) (qb_ HO_9.out) (by decide)) hk) (Kd.R_base ho0)) (fun _ h_ => h_.1))
  replace HO169 := Aside0.mk (Kd.R_mono (Kd.R_told (Kd.R_oldK (IsS93.apart (show IsS93 w _ g105 t102 t170 t171 from i_ HI105) (rb_ HO169.out) (by decide)) hk) (Kd.R_base ho0)) (fun _ h_ => h_.1))
  replace HB := Aside0.mk (hb)
  replace HI105 := Aside0.mk (hi)
  (try clear hb hk hi ho0)
  obtain ⟨Ao80, co80, eo80, _⟩ := Kd.Q_slice HO_9.out
  (first | subst eo80 | (injection eo80 with f1_ f2_ f3_; have f4_ := f1_.symm; have f5_ := f3_.symm; clear f1_ f2_ f3_; subst f4_; subst f5_))
  refine hK.out _ _ ((blk_cell BK117.out 0).trans rfl) (fun hHeld => ?_)
  clear hK K
  refine nm_ ?_
  refine ow_ 10 80 HT_ fun K hK => ?_
  refine goes_ Tryz.func58 (by kernel_rfl) rfl #[.pointer (some ⟨g105, 0, none⟩), .agg #[.slice Ao14 t112.length co14], .slice Ao80 x9_35.length co80] (by rfl) rfl rfl t1_ ?_
  with_reducible refine (spec_l01BadCode.calls kj35 g105 t102 t175 t176 _ _ t112 _ _ x9_35 t177 t180 t181 w _ ?side1 ?side2 ?side3 ?side4 ?side5 ?side6 ?side7 ?side8 A76.out).mono ?_
  (case side1 => exact i_ HI105)
  (case side2 => exact gb_ HB.out)
  (case side3 => exact c1_ gone)
  (case side4 => exact (Kd.R_reads' gone.out).2.1)
  (case side5 => exact far_slice (IsS93.own_ne HI105.out gone.out (by decide)))
  (case side6 => repeat (first | exact (Kd.Q_reads' HO_9.out).2.2 | (with_reducible refine Kd.C_alloc ?_ _) | (with_reducible refine Kd.C_drewN ?_ _) | (with_reducible refine Kd.C_drew ?_)))
  (case side7 => exact (Kd.Q_reads' HO_9.out).2.1)
  (case side8 => exact far_slice (IsS93.own_neQ HI105.out HO_9.out (by decide)))
  rintro e w81 ⟨v178, rfl, ho0, hi, hb, hk⟩
  have gone9 := Aside0.mk (Kd.R_mono (Kd.R_keep (IsS93.apart HI105.out gone.out (by decide)) hk (fun _ h => h.2)) (fun _ h => h.1))
  clear gone
  have gone := gone9
  clear gone9
  refine ⟨_, rfl, ?_⟩
  replace BK101 := kx_ BK101 NB101_105 hk
  replace BK117 := kx_ BK117 NB117_105 hk
  have HO179 := Aside0.mk (Kd.R_lower (Kd.R_new' (Kd.R_new' (Kd.R_new' (Kd.R_new' ho0 (Kd.R_lt (rb_ HO_7.out))) (Kd.Q_lt (qb_ HO_9.out))) (Kd.R_lt (rb_ HO169.out))) (Kd.R_lt (rb_ HO174.out))) (below_size (gb_ HB.out)))
  replace HO_7 := Aside0.mk (Kd.R_mono (Kd.R_told (Kd.R_oldK (IsS93.apart (show IsS93 w _ g105 t102 t175 t176 from i_ HI105) (rb_ HO_7.out) (by decide)) hk) (Kd.R_base ho0)) (fun _ h_ => h_.1))
  replace HO_9 := Aside0.mk (Kd.Q_mono (Kd.Q_told (Kd.Q_oldK (IsS93.apartQ (show IsS93 w _ g105 t102 t175 t176 from i_ HI105) (qb_ HO_9.out) (by decide)) hk) (Kd.R_base ho0)) (fun _ h_ => h_.1))
  replace HO169 := Aside0.mk (Kd.R_mono (Kd.R_told (Kd.R_oldK (IsS93.apart (show IsS93 w _ g105 t102 t175 t176 from i_ HI105) (rb_ HO169.out) (by decide)) hk) (Kd.R_base ho0)) (fun _ h_ => h_.1))
  replace HO174 := Aside0.mk (Kd.R_mono (Kd.R_told (Kd.R_oldK (IsS93.apart (show IsS93 w _ g105 t102 t175 t176 from i_ HI105) (rb_ HO174.out) (by decide)) hk) (Kd.R_base ho0)) (fun _ h_ => h_.1))
  replace HB := Aside0.mk (hb)
  replace HI105 := Aside0.mk (hi)
  (try clear hb hk hi ho0)
  obtain ⟨Ao82, co82, eo82⟩ := Kd.R_slice HO169.out
  (first | subst eo82 | (injection eo82 with f1_ f2_ f3_; have f4_ := f1_.symm; have f5_ := f3_.symm; clear f1_ f2_ f3_; subst f4_; subst f5_))
  refine hK.out _ _ ((blk_cell BK117.out 0).trans rfl) (fun hHeld => ?_)
  clear hK K
  refine nm_ ?_
  refine on_ (i := 11) (N := none) #[true, true, true, true, true, true, true, true, true, true, true, true, false, false] rfl rfl HT_ (fun K hK => ?_)
  have hs83 : w81.cell? ⟨gb101, 0, none⟩ = some (.slice none 0 0) := (blk_cell BK101.out 0).trans rfl
  have hfs83 := blk_frozen BK101.out 0
  have hns83_1 := NB117_101.out
  have hms83_1 := NB101_117.out
  refine skip_ (w1 := ?_) (by rfl) rfl ?_ ?_
  rotate_left
  ·go_simp
   rfl
  refine hK.out _ _ (((cell_far (p := ⟨gb101, _, none⟩) NB117_101.out _).trans (hHeld))) (fun hHeld => ?_)
  clear hK K
  refine pv_ 12 3 HT_ ?_
  refine pv_ 13 4 HT_ ?_
  refine done_ (done_of HT_.out (by kernel_rfl)) ?_
  try go_wp2
  refine bodyPost_ret (results_ctt rfl _ _ gb101 26 #[.slice Ao82 t167.length co82] (0, 0) _ rfl (by (with_reducible repeat (first | refine blk_drewN ?_ _ | refine blk_drew ?_ | refine blk_alloc ?_ _)); refine blk_put (cs := #[.slice none 0 0]) ?_ 0 _ rfl; (with_reducible repeat (first | refine blk_drewN ?_ _ | refine blk_drew ?_ | refine blk_alloc ?_ _)); exact BK101.out) Tryz.underlying26 rfl (by kernel_rfl)) rfl ?_
  exact ⟨_, _, _, t5_, by (with_reducible repeat (first | apply Kd.R_alloc | apply Kd.R_drewN | apply Kd.R_drew)); exact Kd.R_mono (Kd.R_far (p := ⟨gb101, 0, none⟩) (Kd.R_types HO169.out BK101.out (by decide)) (fun _ hk => hk.2) (.slice Ao82 t167.length co82)) (fun _ hk => ⟨hk.1.1.2, hk.1.2⟩), by (with_reducible repeat (first | apply Kd.R_alloc | apply Kd.R_drewN | apply Kd.R_drew)); exact Kd.R_mono (Kd.R_far (p := ⟨gb101, 0, none⟩) (Kd.R_types HO174.out BK101.out (by decide)) (fun _ hk => hk.2) (.slice Ao82 t167.length co82)) (fun _ hk => ⟨hk.1.1.2, hk.1.2⟩), by (with_reducible repeat (first | apply Kd.R_alloc | apply Kd.R_drewN | apply Kd.R_drew)); exact Kd.R_mono (Kd.R_far (p := ⟨gb101, 0, none⟩) (Kd.R_types HO179.out BK101.out (by decide)) (fun _ hk => hk.2) (.slice Ao82 t167.length co82)) (fun _ hk => ⟨hk.1.1.2, hk.1.2⟩), gb_ HB.out⟩
def spec_AreAlike.f (k : Nat) (l0_0 : List Int) (l1 : List Int) (l2 : List Int) : Option (Bool × Int) := (spec_l03Few.f k l0_0 l1 l2).bind fun t102 => (if t102 = 0 then (if (l1.length : Int) = (l2.length : Int) then ((spec_l03Least.f k l0_0 l1).bind fun bt103 => ((spec_l03Least.f k l0_0 l2).bind fun bt107 => ((spec_l03Before.f k bt103.1 bt107.1).bind fun t111 => (if t111 = true then (some (false, 0)) else ((spec_l03Before.f k bt107.1 bt103.1).bind fun t112 => (some (!t112, 0))))))) else (some (false, 0))) else (some (false, t102)))
set_option maxHeartbeats 8000000 in
set_option maxRecDepth 100000 in
theorem spec_AreAlike.calls (k : Nat) (A0_0 : Option Addr) (c0_0 : Nat) (l0_0 : List Int) (A1 : Option Addr) (c1 : Nat) (l1 : List Int) (A2 : Option Addr) (c2 : Nat) (l2 : List Int) (r1 : Bool) (r2 : Int) (w : World) (hr0_0 : Kd.C (Kd.int .i64) w A0_0 l0_0.length l0_0) (hc0_0 : l0_0.length ≤ c0_0) (hr1 : Kd.C (Kd.int .i64) w A1 l1.length l1) (hc1 : l1.length ≤ c1) (hr2 : Kd.C (Kd.int .i64) w A2 l2.length l2) (hc2 : l2.length ≤ c2) (h : spec_AreAlike.f k l0_0 l1 l2 = some (r1, r2)) :
  Calls Tryz.prog 7 #[.agg #[.slice A0_0 l0_0.length c0_0], .slice A1 l1.length c1, .slice A2 l2.length c2] w fun e w' => e = .returned (.tuple #[.bool r1, .int .i64 r2]) ∧ Below w.heap.size w w' := by
 have hu26 := Tryz.underlying26
 have HR0_0 := Aside0.mk hr0_0
 have HC0_0 := Aside0.mk hc0_0
 clear hr0_0 hc0_0
 have HR1 := Aside0.mk hr1
 have HC1 := Aside0.mk hc1
 clear hr1 hc1
 have HR2 := Aside0.mk hr2
 have HC2 := Aside0.mk hc2
 clear hr2 hc2
 have HB := Aside0.mk (Below.refl w.heap.size w)
 have H := h
 clear h
 unfold spec_AreAlike.f at H
 replace H := bd_ H
 obtain ⟨t102, A4, H⟩ := H
 by_cases c5 : t102 = 0
 rotate_left
 ·rw [if_neg c5] at H
  have c5b0 : (t102 == 0) = false := beq_eq_false_iff_ne.mpr c5
  have c5b1 : (t102 != 0) = true := bne_iff_ne.mpr c5
  simp only [Option.some.injEq, Prod.mk.injEq] at H
  obtain ⟨rfl, rfl⟩ := H
  go_enter Tryz.func7, Tryz.ntmps7
  go_wp2_with (first | ((with_reducible refine gate_dst (N := 3) rfl ?_); refine bx_ (N := 3) (cs := #[.slice A0_0 l0_0.length c0_0]) (t := 26) rfl rfl ?_; intro gb101 hg w33 hbox hb; have BK101 := Aside0.mk (hbox); have GW101 := ge_ hg HB; have GE101 := ge_ hg HB; replace HB := b1_ HB hb; clear hb hbox hg; have hcz34_0 := hz_ BK101; have hfz34_0 := blk_frozen BK101.out 0) | ((with_reducible refine gate_callee (f := 23) rfl ?_); refine gl_ (some 16) rfl rfl Tryz.func23 #[.agg #[.slice A0_0 l0_0.length c0_0], .slice A1 l1.length c1, .slice A2 l2.length c2] rfl ?_; (with_reducible refine (spec_l03Few.calls k _ _ l0_0 _ _ l1 _ _ l2 t102 _ (c2_ HR0_0 HB) HC0_0.out (c2_ HR1 HB) HC1.out (c2_ HR2 HB) HC2.out A4.out).mono ?_); rintro e w35 ⟨rfl, hb⟩; refine ⟨_, rfl, ?_⟩; replace BK101 := a2_ BK101 hb; replace HB := b1_ HB hb; (try clear hb); (try clear hb2); (try clear hk); (try clear hi)))
  go_ret2
  exact ⟨t5_, gb_ HB.out⟩

 rw [if_pos c5] at H
 have c5b0 : (t102 == 0) = true := beq_iff_eq.mpr c5
 have c5b1 : (t102 != 0) = false := bne_eq_false_iff_eq.mpr c5
 clear c5
 by_cases c6 : (l1.length : Int) = (l2.length : Int)
 rotate_left
 ·rw [if_neg c6] at H
  have c6b0 : ((l1.length : Int) == (l2.length : Int)) = false := beq_eq_false_iff_ne.mpr c6
  have c6b1 : ((l1.length : Int) != (l2.length : Int)) = true := bne_iff_ne.mpr c6
  have c6b2 : (l1.length == l2.length) = false := by first | simpa using c6 | (simp at c6 ⊢; omega)
  simp only [Option.some.injEq, Prod.mk.injEq] at H
  obtain ⟨rfl, rfl⟩ := H
  go_enter Tryz.func7, Tryz.ntmps7
  go_wp2_with (first | ((with_reducible refine gate_dst (N := 3) rfl ?_); refine bx_ (N := 3) (cs := #[.slice A0_0 l0_0.length c0_0]) (t := 26) rfl rfl ?_; intro gb101 hg w30 hbox hb; have BK101 := Aside0.mk (hbox); have GW101 := ge_ hg HB; have GE101 := ge_ hg HB; replace HB := b1_ HB hb; clear hb hbox hg; have hcz31_0 := hz_ BK101; have hfz31_0 := blk_frozen BK101.out 0) | ((with_reducible refine gate_callee (f := 23) rfl ?_); refine gl_ (some 16) rfl rfl Tryz.func23 #[.agg #[.slice A0_0 l0_0.length c0_0], .slice A1 l1.length c1, .slice A2 l2.length c2] rfl ?_; (with_reducible refine (spec_l03Few.calls k _ _ l0_0 _ _ l1 _ _ l2 t102 _ (c2_ HR0_0 HB) HC0_0.out (c2_ HR1 HB) HC1.out (c2_ HR2 HB) HC2.out A4.out).mono ?_); rintro e w32 ⟨rfl, hb⟩; refine ⟨_, rfl, ?_⟩; replace BK101 := a2_ BK101 hb; replace HB := b1_ HB hb; (try clear hb); (try clear hb2); (try clear hk); (try clear hi)))
  go_ret2
  exact ⟨t5_, gb_ HB.out⟩
 rw [if_pos c6] at H
 have c6b0 : ((l1.length : Int) == (l2.length : Int)) = true := beq_iff_eq.mpr c6
 have c6b1 : ((l1.length : Int) != (l2.length : Int)) = false := bne_eq_false_iff_eq.mpr c6
 have c6b2 : (l1.length == l2.length) = true := by first | simpa using c6 | (simp at c6 ⊢; omega)
 clear c6
 replace H := bd_ H
 obtain ⟨⟨t103, t106⟩, A7, H⟩ := H
 try dsimp only at H
 replace H := bd_ H
 obtain ⟨⟨t107, t110⟩, A8, H⟩ := H
 try dsimp only at H
 replace H := bd_ H
 obtain ⟨t111, A9, H⟩ := H
 by_cases c10 : t111 = true
 ·subst c10
  have H1 : (some (false, 0)) = some (r1, r2) := by rw [if_pos rfl] at H; exact H
  clear H
  have H := H1
  clear H1
  simp only [Option.some.injEq, Prod.mk.injEq] at H
  obtain ⟨rfl, rfl⟩ := H
  go_enter Tryz.func7, Tryz.ntmps7
  go_wp2_with (first | ((with_reducible refine gate_dst (N := 3) rfl ?_); refine bx_ (N := 3) (cs := #[.slice A0_0 l0_0.length c0_0]) (t := 26) rfl rfl ?_; intro gb101 hg w11 hbox hb; have BK101 := Aside0.mk (hbox); have GW101 := ge_ hg HB; have GE101 := ge_ hg HB; replace HB := b1_ HB hb; clear hb hbox hg; have hcz12_0 := hz_ BK101; have hfz12_0 := blk_frozen BK101.out 0) | ((with_reducible refine gate_callee (f := 23) rfl ?_); refine gl_ (some 16) rfl rfl Tryz.func23 #[.agg #[.slice A0_0 l0_0.length c0_0], .slice A1 l1.length c1, .slice A2 l2.length c2] rfl ?_; (with_reducible refine (spec_l03Few.calls k _ _ l0_0 _ _ l1 _ _ l2 t102 _ (c2_ HR0_0 HB) HC0_0.out (c2_ HR1 HB) HC1.out (c2_ HR2 HB) HC2.out A4.out).mono ?_); rintro e w13 ⟨rfl, hb⟩; refine ⟨_, rfl, ?_⟩; replace BK101 := a2_ BK101 hb; replace HB := b1_ HB hb; (try clear hb); (try clear hb2); (try clear hk); (try clear hi); have hcz14_0 := hz_ BK101; have hfz14_0 := blk_frozen BK101.out 0) | ((with_reducible refine gate_callee (f := 24) rfl ?_); refine gl_ (some 28) rfl rfl Tryz.func24 #[.agg #[.slice A0_0 l0_0.length c0_0], .slice A1 l1.length c1] rfl ?_; (with_reducible refine (spec_l03Least.calls k _ _ l0_0 _ _ l1 t103 t106 _ (c2_ HR0_0 HB) HC0_0.out (c2_ HR1 HB) HC1.out A7.out).mono ?_); rintro e w15 ⟨v104, rfl, ho0, hb⟩; refine ⟨_, rfl, ?_⟩; have HO105 := Aside0.mk (Kd.R_lower ho0 (below_size (gb_ HB.out))); replace BK101 := a2_ BK101 hb; replace HB := b1_ HB hb; (try clear hb); (try clear hb2); (try clear hk); (try clear hi); (try clear ho0); have hcz16_0 := hz_ BK101; have hfz16_0 := blk_frozen BK101.out 0) | ((with_reducible refine gate_callee (f := 24) rfl ?_); refine gl_ (some 34) rfl rfl Tryz.func24 #[.agg #[.slice A0_0 l0_0.length c0_0], .slice A2 l2.length c2] rfl ?_; (with_reducible refine (spec_l03Least.calls k _ _ l0_0 _ _ l2 t107 t110 _ (c2_ HR0_0 HB) HC0_0.out (c2_ HR2 HB) HC2.out A8.out).mono ?_); rintro e w17 ⟨v108, rfl, ho0, hb⟩; refine ⟨_, rfl, ?_⟩; have HO109 := Aside0.mk (Kd.R_lower (Kd.R_new' ho0 (Kd.R_lt (rb_ HO105.out))) (below_size (gb_ HB.out))); replace HO105 := a5_ HO105 ho0 hb; replace BK101 := a2_ BK101 hb; replace HB := b1_ HB hb; (try clear hb); (try clear hb2); (try clear hk); (try clear hi); (try clear ho0); obtain ⟨Ao18, co18, eo18⟩ := Kd.R_slice HO105.out; subst eo18; obtain ⟨Ao19, co19, eo19⟩ := Kd.R_slice HO109.out; subst eo19) | ((with_reducible refine gate_callee (f := 25) rfl ?_); refine gl_ (some 39) rfl rfl Tryz.func25 #[.slice Ao18 t103.length co18, .slice Ao19 t107.length co19] rfl ?_; (with_reducible refine (spec_l03Before.calls k _ _ t103 _ _ t107 true _ ?side1 ?side2 ?side3 ?side4 A9.out).mono ?_); (case side1 => exact c1_ HO105); (case side2 => exact (Kd.R_reads' HO105.out).2.1); (case side3 => exact c1_ HO109); (case side4 => exact (Kd.R_reads' HO109.out).2.1); rintro e w' ⟨rfl, ⟨nd, rfl⟩⟩; refine ⟨_, rfl, ?_⟩))
  go_ret2
  exact ⟨t5_, gb_ HB.out⟩
 replace c10 := Bool.eq_false_iff.mpr c10
 subst c10
 have H1 : ((spec_l03Before.f k t107 t103).bind fun t112 => (some (!t112, 0))) = some (r1, r2) := by rw [if_neg (show ¬ (false = true) by decide)] at H; exact H
 clear H
 have H := H1
 clear H1
 replace H := bd_ H
 obtain ⟨t112, A20, H⟩ := H
 simp only [Option.some.injEq, Prod.mk.injEq] at H
 obtain ⟨rfl, rfl⟩ := H
 go_enter Tryz.func7, Tryz.ntmps7
 go_wp2_with (first | ((with_reducible refine gate_dst (N := 3) rfl ?_); refine bx_ (N := 3) (cs := #[.slice A0_0 l0_0.length c0_0]) (t := 26) rfl rfl ?_; intro gb101 hg w21 hbox hb; have BK101 := Aside0.mk (hbox); have GW101 := ge_ hg HB; have GE101 := ge_ hg HB; replace HB := b1_ HB hb; clear hb hbox hg; have hcz22_0 := hz_ BK101; have hfz22_0 := blk_frozen BK101.out 0) | ((with_reducible refine gate_callee (f := 23) rfl ?_); refine gl_ (some 16) rfl rfl Tryz.func23 #[.agg #[.slice A0_0 l0_0.length c0_0], .slice A1 l1.length c1, .slice A2 l2.length c2] rfl ?_; (with_reducible refine (spec_l03Few.calls k _ _ l0_0 _ _ l1 _ _ l2 t102 _ (c2_ HR0_0 HB) HC0_0.out (c2_ HR1 HB) HC1.out (c2_ HR2 HB) HC2.out A4.out).mono ?_); rintro e w23 ⟨rfl, hb⟩; refine ⟨_, rfl, ?_⟩; replace BK101 := a2_ BK101 hb; replace HB := b1_ HB hb; (try clear hb); (try clear hb2); (try clear hk); (try clear hi); have hcz24_0 := hz_ BK101; have hfz24_0 := blk_frozen BK101.out 0) | ((with_reducible refine gate_callee (f := 24) rfl ?_); refine gl_ (some 28) rfl rfl Tryz.func24 #[.agg #[.slice A0_0 l0_0.length c0_0], .slice A1 l1.length c1] rfl ?_; (with_reducible refine (spec_l03Least.calls k _ _ l0_0 _ _ l1 t103 t106 _ (c2_ HR0_0 HB) HC0_0.out (c2_ HR1 HB) HC1.out A7.out).mono ?_); rintro e w25 ⟨v104, rfl, ho0, hb⟩; refine ⟨_, rfl, ?_⟩; have HO105 := Aside0.mk (Kd.R_lower ho0 (below_size (gb_ HB.out))); replace BK101 := a2_ BK101 hb; replace HB := b1_ HB hb; (try clear hb); (try clear hb2); (try clear hk); (try clear hi); (try clear ho0); have hcz26_0 := hz_ BK101; have hfz26_0 := blk_frozen BK101.out 0) | ((with_reducible refine gate_callee (f := 24) rfl ?_); refine gl_ (some 34) rfl rfl Tryz.func24 #[.agg #[.slice A0_0 l0_0.length c0_0], .slice A2 l2.length c2] rfl ?_; (with_reducible refine (spec_l03Least.calls k _ _ l0_0 _ _ l2 t107 t110 _ (c2_ HR0_0 HB) HC0_0.out (c2_ HR2 HB) HC2.out A8.out).mono ?_); rintro e w27 ⟨v108, rfl, ho0, hb⟩; refine ⟨_, rfl, ?_⟩; have HO109 := Aside0.mk (Kd.R_lower (Kd.R_new' ho0 (Kd.R_lt (rb_ HO105.out))) (below_size (gb_ HB.out))); replace HO105 := a5_ HO105 ho0 hb; replace BK101 := a2_ BK101 hb; replace HB := b1_ HB hb; (try clear hb); (try clear hb2); (try clear hk); (try clear hi); (try clear ho0); obtain ⟨Ao28, co28, eo28⟩ := Kd.R_slice HO105.out; subst eo28; obtain ⟨Ao29, co29, eo29⟩ := Kd.R_slice HO109.out; subst eo29) | ((with_reducible refine gate_callee (f := 25) rfl ?_); refine gl_ (some 39) rfl rfl Tryz.func25 #[.slice Ao28 t103.length co28, .slice Ao29 t107.length co29] rfl ?_; (with_reducible refine (spec_l03Before.calls k _ _ t103 _ _ t107 false _ ?side1 ?side2 ?side3 ?side4 A9.out).mono ?_); (case side1 => exact c1_ HO105); (case side2 => exact (Kd.R_reads' HO105.out).2.1); (case side3 => exact c1_ HO109); (case side4 => exact (Kd.R_reads' HO109.out).2.1); rintro e w' ⟨rfl, ⟨nd, rfl⟩⟩; refine ⟨_, rfl, ?_⟩) | (go_at_call 25; (with_reducible refine (spec_l03Before.calls k _ _ t107 _ _ t103 t112 _ ?side1 ?side2 ?side3 ?side4 A20.out).mono ?_); (case side1 => exact c1_ HO109); (case side2 => exact (Kd.R_reads' HO109.out).2.1); (case side3 => exact c1_ HO105); (case side4 => exact (Kd.R_reads' HO105.out).2.1); rintro e w' ⟨rfl, ⟨nd, rfl⟩⟩))
 go_ret2
 exact ⟨t5_, gb_ HB.out⟩
def spec_LeastForm.f (k : Nat) (l0_0 : List Int) (l1 : List Int) : Option (List Int × Int) := (spec_l03Few.f k l0_0 l1 l1).bind fun t102 => (if t102 = 0 then ((spec_l03Least.f k l0_0 l1).bind fun bt103 => (some (bt103.1, 0))) else (some (([] : List Int), t102)))
set_option maxHeartbeats 8000000 in
set_option maxRecDepth 100000 in
theorem spec_LeastForm.calls (k : Nat) (A0_0 : Option Addr) (c0_0 : Nat) (l0_0 : List Int) (A1 : Option Addr) (c1 : Nat) (l1 : List Int) (r1 : List Int) (r2 : Int) (w : World) (hr0_0 : Kd.C (Kd.int .i64) w A0_0 l0_0.length l0_0) (hc0_0 : l0_0.length ≤ c0_0) (hr1 : Kd.C (Kd.int .i64) w A1 l1.length l1) (hc1 : l1.length ≤ c1) (h : spec_LeastForm.f k l0_0 l1 = some (r1, r2)) :
  Calls Tryz.prog 9 #[.agg #[.slice A0_0 l0_0.length c0_0], .slice A1 l1.length c1] w fun e w' => ∃ v0_ : Value, e = .returned (.tuple #[v0_, .int .i64 r2]) ∧ Kd.R (Kd.int .i64) 2 w' w.heap.size (fun _ => True) v0_ r1 ∧ Below w.heap.size w w' := by
 have hu26 := Tryz.underlying26
 have HR0_0 := Aside0.mk hr0_0
 have HC0_0 := Aside0.mk hc0_0
 clear hr0_0 hc0_0
 have HR1 := Aside0.mk hr1
 have HC1 := Aside0.mk hc1
 clear hr1 hc1
 have HB := Aside0.mk (Below.refl w.heap.size w)
 have H := h
 clear h
 unfold spec_LeastForm.f at H
 replace H := bd_ H
 obtain ⟨t102, A3, H⟩ := H
 by_cases c4 : t102 = 0
 rotate_left
 ·rw [if_neg c4] at H
  have c4b0 : (t102 == 0) = false := beq_eq_false_iff_ne.mpr c4
  have c4b1 : (t102 != 0) = true := bne_iff_ne.mpr c4
  simp only [Option.some.injEq, Prod.mk.injEq] at H
  obtain ⟨rfl, rfl⟩ := H
  go_enter Tryz.func9, Tryz.ntmps9
  go_wp2_with (first | ((with_reducible refine gate_dst (N := 2) rfl ?_); refine bx_ (N := 2) (cs := #[.slice A0_0 l0_0.length c0_0]) (t := 26) rfl rfl ?_; intro gb101 hg w11 hbox hb; have BK101 := Aside0.mk (hbox); have GW101 := ge_ hg HB; have GE101 := ge_ hg HB; replace HB := b1_ HB hb; clear hb hbox hg; have hcz12_0 := hz_ BK101; have hfz12_0 := blk_frozen BK101.out 0) | ((with_reducible refine gate_callee (f := 23) rfl ?_); refine gl_ (some 12) rfl rfl Tryz.func23 #[.agg #[.slice A0_0 l0_0.length c0_0], .slice A1 l1.length c1, .slice A1 l1.length c1] rfl ?_; (with_reducible refine (spec_l03Few.calls k _ _ l0_0 _ _ l1 _ _ l1 t102 _ (c2_ HR0_0 HB) HC0_0.out (c2_ HR1 HB) HC1.out (c2_ HR1 HB) HC1.out A3.out).mono ?_); rintro e w13 ⟨rfl, hb⟩; refine ⟨_, rfl, ?_⟩; replace BK101 := a2_ BK101 hb; replace HB := b1_ HB hb; (try clear hb); (try clear hb2); (try clear hk); (try clear hi)))
  go_ret2
  exact ⟨_, t5_, by first | exact Kd.R_nil _ _ _ _ _ | exact Kd.N_nil _ _ _ _ _ | exact Kd.V_nil _ _ _ _ _ | exact Kd.Q_nil _ _ _ _ _ | exact Kd.S_nil _ _ _ _ _, gb_ HB.out⟩

 rw [if_pos c4] at H
 have c4b0 : (t102 == 0) = true := beq_iff_eq.mpr c4
 have c4b1 : (t102 != 0) = false := bne_eq_false_iff_eq.mpr c4
 clear c4
 replace H := bd_ H
 obtain ⟨⟨t103, t106⟩, A5, H⟩ := H
 try dsimp only at H
 simp only [Option.some.injEq, Prod.mk.injEq] at H
 obtain ⟨rfl, rfl⟩ := H
 go_enter Tryz.func9, Tryz.ntmps9
 go_wp2_with (first | ((with_reducible refine gate_dst (N := 2) rfl ?_); refine bx_ (N := 2) (cs := #[.slice A0_0 l0_0.length c0_0]) (t := 26) rfl rfl ?_; intro gb101 hg w6 hbox hb; have BK101 := Aside0.mk (hbox); have GW101 := ge_ hg HB; have GE101 := ge_ hg HB; replace HB := b1_ HB hb; clear hb hbox hg; have hcz7_0 := hz_ BK101; have hfz7_0 := blk_frozen BK101.out 0) | ((with_reducible refine gate_callee (f := 23) rfl ?_); refine gl_ (some 12) rfl rfl Tryz.func23 #[.agg #[.slice A0_0 l0_0.length c0_0], .slice A1 l1.length c1, .slice A1 l1.length c1] rfl ?_; (with_reducible refine (spec_l03Few.calls k _ _ l0_0 _ _ l1 _ _ l1 t102 _ (c2_ HR0_0 HB) HC0_0.out (c2_ HR1 HB) HC1.out (c2_ HR1 HB) HC1.out A3.out).mono ?_); rintro e w8 ⟨rfl, hb⟩; refine ⟨_, rfl, ?_⟩; replace BK101 := a2_ BK101 hb; replace HB := b1_ HB hb; (try clear hb); (try clear hb2); (try clear hk); (try clear hi); have hcz9_0 := hz_ BK101; have hfz9_0 := blk_frozen BK101.out 0) | ((with_reducible refine gate_callee (f := 24) rfl ?_); refine gl_ (some 19) rfl rfl Tryz.func24 #[.agg #[.slice A0_0 l0_0.length c0_0], .slice A1 l1.length c1] rfl ?_; (with_reducible refine (spec_l03Least.calls k _ _ l0_0 _ _ l1 t103 t106 _ (c2_ HR0_0 HB) HC0_0.out (c2_ HR1 HB) HC1.out A5.out).mono ?_); rintro e w10 ⟨v104, rfl, ho0, hb⟩; refine ⟨_, rfl, ?_⟩; have HO105 := Aside0.mk (Kd.R_lower ho0 (below_size (gb_ HB.out))); replace BK101 := a2_ BK101 hb; replace HB := b1_ HB hb; (try clear hb); (try clear hb2); (try clear hk); (try clear hi); (try clear ho0)))
 go_ret2
 exact ⟨_, t5_, rb_ HO105.out, gb_ HB.out⟩
def spec_CountKeeping.f (k : Nat) (l0_0 : List Int) (l1 : List Int) : Option (Int × Int) := (spec_l03Few.f k l0_0 l1 l1).bind fun t102 => (if t102 = 0 then ((spec_l03Least.f k l0_0 l1).bind fun bt103 => (some (bt103.2, 0))) else (some (0, t102)))
set_option maxHeartbeats 8000000 in
set_option maxRecDepth 100000 in
theorem spec_CountKeeping.calls (k : Nat) (A0_0 : Option Addr) (c0_0 : Nat) (l0_0 : List Int) (A1 : Option Addr) (c1 : Nat) (l1 : List Int) (r1 : Int) (r2 : Int) (w : World) (hr0_0 : Kd.C (Kd.int .i64) w A0_0 l0_0.length l0_0) (hc0_0 : l0_0.length ≤ c0_0) (hr1 : Kd.C (Kd.int .i64) w A1 l1.length l1) (hc1 : l1.length ≤ c1) (h : spec_CountKeeping.f k l0_0 l1 = some (r1, r2)) :
  Calls Tryz.prog 11 #[.agg #[.slice A0_0 l0_0.length c0_0], .slice A1 l1.length c1] w fun e w' => e = .returned (.tuple #[.int .i64 r1, .int .i64 r2]) ∧ Below w.heap.size w w' := by
 have hu26 := Tryz.underlying26
 have HR0_0 := Aside0.mk hr0_0
 have HC0_0 := Aside0.mk hc0_0
 clear hr0_0 hc0_0
 have HR1 := Aside0.mk hr1
 have HC1 := Aside0.mk hc1
 clear hr1 hc1
 have HB := Aside0.mk (Below.refl w.heap.size w)
 have H := h
 clear h
 unfold spec_CountKeeping.f at H
 replace H := bd_ H
 obtain ⟨t102, A3, H⟩ := H
 by_cases c4 : t102 = 0
 rotate_left
 ·rw [if_neg c4] at H
  have c4b0 : (t102 == 0) = false := beq_eq_false_iff_ne.mpr c4
  have c4b1 : (t102 != 0) = true := bne_iff_ne.mpr c4
  simp only [Option.some.injEq, Prod.mk.injEq] at H
  obtain ⟨rfl, rfl⟩ := H
  go_enter Tryz.func11, Tryz.ntmps11
  go_wp2_with (first | ((with_reducible refine gate_dst (N := 2) rfl ?_); refine bx_ (N := 2) (cs := #[.slice A0_0 l0_0.length c0_0]) (t := 26) rfl rfl ?_; intro gb101 hg w11 hbox hb; have BK101 := Aside0.mk (hbox); have GW101 := ge_ hg HB; have GE101 := ge_ hg HB; replace HB := b1_ HB hb; clear hb hbox hg; have hcz12_0 := hz_ BK101; have hfz12_0 := blk_frozen BK101.out 0) | ((with_reducible refine gate_callee (f := 23) rfl ?_); refine gl_ (some 12) rfl rfl Tryz.func23 #[.agg #[.slice A0_0 l0_0.length c0_0], .slice A1 l1.length c1, .slice A1 l1.length c1] rfl ?_; (with_reducible refine (spec_l03Few.calls k _ _ l0_0 _ _ l1 _ _ l1 t102 _ (c2_ HR0_0 HB) HC0_0.out (c2_ HR1 HB) HC1.out (c2_ HR1 HB) HC1.out A3.out).mono ?_); rintro e w13 ⟨rfl, hb⟩; refine ⟨_, rfl, ?_⟩; replace BK101 := a2_ BK101 hb; replace HB := b1_ HB hb; (try clear hb); (try clear hb2); (try clear hk); (try clear hi)))
  go_ret2
  exact ⟨t5_, gb_ HB.out⟩

 rw [if_pos c4] at H
 have c4b0 : (t102 == 0) = true := beq_iff_eq.mpr c4
 have c4b1 : (t102 != 0) = false := bne_eq_false_iff_eq.mpr c4
 clear c4
 replace H := bd_ H
 obtain ⟨⟨t103, t106⟩, A5, H⟩ := H
 try dsimp only at H
 simp only [Option.some.injEq, Prod.mk.injEq] at H
 obtain ⟨rfl, rfl⟩ := H
 go_enter Tryz.func11, Tryz.ntmps11
 go_wp2_with (first | ((with_reducible refine gate_dst (N := 2) rfl ?_); refine bx_ (N := 2) (cs := #[.slice A0_0 l0_0.length c0_0]) (t := 26) rfl rfl ?_; intro gb101 hg w6 hbox hb; have BK101 := Aside0.mk (hbox); have GW101 := ge_ hg HB; have GE101 := ge_ hg HB; replace HB := b1_ HB hb; clear hb hbox hg; have hcz7_0 := hz_ BK101; have hfz7_0 := blk_frozen BK101.out 0) | ((with_reducible refine gate_callee (f := 23) rfl ?_); refine gl_ (some 12) rfl rfl Tryz.func23 #[.agg #[.slice A0_0 l0_0.length c0_0], .slice A1 l1.length c1, .slice A1 l1.length c1] rfl ?_; (with_reducible refine (spec_l03Few.calls k _ _ l0_0 _ _ l1 _ _ l1 t102 _ (c2_ HR0_0 HB) HC0_0.out (c2_ HR1 HB) HC1.out (c2_ HR1 HB) HC1.out A3.out).mono ?_); rintro e w8 ⟨rfl, hb⟩; refine ⟨_, rfl, ?_⟩; replace BK101 := a2_ BK101 hb; replace HB := b1_ HB hb; (try clear hb); (try clear hb2); (try clear hk); (try clear hi); have hcz9_0 := hz_ BK101; have hfz9_0 := blk_frozen BK101.out 0) | ((with_reducible refine gate_callee (f := 24) rfl ?_); refine gl_ (some 19) rfl rfl Tryz.func24 #[.agg #[.slice A0_0 l0_0.length c0_0], .slice A1 l1.length c1] rfl ?_; (with_reducible refine (spec_l03Least.calls k _ _ l0_0 _ _ l1 t103 t106 _ (c2_ HR0_0 HB) HC0_0.out (c2_ HR1 HB) HC1.out A5.out).mono ?_); rintro e w10 ⟨v104, rfl, ho0, hb⟩; refine ⟨_, rfl, ?_⟩; have HO105 := Aside0.mk (Kd.R_lower ho0 (below_size (gb_ HB.out))); replace BK101 := a2_ BK101 hb; replace HB := b1_ HB hb; (try clear hb); (try clear hb2); (try clear hk); (try clear hi); (try clear ho0)))
 go_ret2
 exact ⟨t5_, gb_ HB.out⟩
def spec_DrawAreAlike.f (k : Nat) (l0 : List Int) : Option (List Int × List Int × List Int) := (spec_l03Draw.f k l0).bind fun bt102 => (some (bt102.1, bt102.2.1, bt102.2.2))
set_option maxHeartbeats 8000000 in
set_option maxRecDepth 100000 in
theorem spec_DrawAreAlike.calls (k : Nat) (A0 : Option Addr) (c0 : Nat) (l0 : List Int) (r1 : List Int) (r2 : List Int) (r3 : List Int) (w : World) (hr0 : Kd.C (Kd.int .u8) w A0 l0.length l0) (hc0 : l0.length ≤ c0) (h : spec_DrawAreAlike.f k l0 = some (r1, r2, r3)) :
  Calls Tryz.prog 5 #[.slice A0 l0.length c0] w fun e w' => ∃ v0_ v1_ v2_ : Value, e = .returned (.tuple #[.agg #[v0_], v1_, v2_]) ∧ Kd.R (Kd.int .i64) 2 w' w.heap.size (fun k_ => OB_ k_ v1_ ∧ OB_ k_ v2_) v0_ r1 ∧ Kd.R (Kd.int .i64) 2 w' w.heap.size (fun k_ => OB_ k_ v0_ ∧ OB_ k_ v2_) v1_ r2 ∧ Kd.R (Kd.int .i64) 2 w' w.heap.size (fun k_ => OB_ k_ v0_ ∧ OB_ k_ v1_) v2_ r3 ∧ Below w.heap.size w w' := by
 have hu26 := Tryz.underlying26
 have HR0 := Aside0.mk hr0
 have HC0 := Aside0.mk hc0
 clear hr0 hc0
 have HB := Aside0.mk (Below.refl w.heap.size w)
 have H := h
 clear h
 unfold spec_DrawAreAlike.f at H
 replace H := bd_ H
 obtain ⟨⟨t102, t105, t108⟩, A2, H⟩ := H
 try dsimp only at H
 simp only [Option.some.injEq, Prod.mk.injEq] at H
 obtain ⟨rfl, rfl, rfl⟩ := H
 go_enter Tryz.func5, Tryz.ntmps5
 go_wp2_with (first | ((with_reducible refine gate_dst (N := 2) rfl ?_); refine bx_ (N := 2) (cs := #[.slice none 0 0]) (t := 26) rfl rfl ?_; intro gb101 hg w3 hbox hb; have BK101 := Aside0.mk (hbox); have GW101 := ge_ hg HB; have GE101 := ge_ hg HB; replace HB := b1_ HB hb; clear hb hbox hg) | ((with_reducible refine gate_callee (f := 20) rfl ?_); refine gl_ (some 10) rfl rfl Tryz.func20 #[.slice A0 l0.length c0] rfl ?_; (with_reducible refine (spec_l03Draw.calls k _ _ l0 t102 t105 t108 _ (c2_ HR0 HB) HC0.out A2.out).mono ?_); rintro e w4 ⟨v103, v106, v109, rfl, ho0, ho1, ho2, hb⟩; refine ⟨_, rfl, ?_⟩; have HO104 := Aside0.mk (Kd.R_lower ho0 (below_size (gb_ HB.out))); have HO107 := Aside0.mk (Kd.R_lower ho1 (below_size (gb_ HB.out))); have HO110 := Aside0.mk (Kd.R_lower ho2 (below_size (gb_ HB.out))); replace BK101 := a2_ BK101 hb; replace HB := b1_ HB hb; (try clear hb); (try clear hb2); (try clear hk); (try clear hi); (try clear ho0); (try clear ho1); (try clear ho2)) | ((with_reducible refine gate_dst (N := 5) rfl ?_); refine bx_ (N := 5) (cs := #[.slice none 0 0]) (t := 26) rfl rfl ?_; intro gb111 hg w5 hbox hb; replace HO104 := a1_ HO104 hb; replace HO107 := a1_ HO107 hb; replace HO110 := a1_ HO110 hb; have BK111 := Aside0.mk (hbox); have GW111 := ge_ hg HB; have GE111 := ge_ hg HB; replace HB := b1_ HB hb; have NB101_111 := nl_ hg BK101; have NB111_101 := nr_ hg BK101; replace BK101 := a2_ BK101 hb; clear hb hbox hg; obtain ⟨Ao6, co6, eo6⟩ := Kd.R_slice HO104.out; subst eo6; have hnb7 := NB111_101.out; have hnc7 := NB101_111.out; have hcz8_0 := hz_ BK111; have hfz8_0 := blk_frozen BK111.out 0; have hcz9_0 := hz_ BK101; have hfz9_0 := blk_frozen BK101.out 0))
 refine bodyPost_ret (results_ctt rfl _ _ gb101 26 #[.slice Ao6 t102.length co6] (0, 0) _ rfl (by (with_reducible repeat (first | refine blk_drewN ?_ _ | refine blk_drew ?_ | refine blk_alloc ?_ _)); refine blk_put (cs := #[.slice none 0 0]) ?_ 0 _ rfl; (with_reducible repeat (first | refine blk_drewN ?_ _ | refine blk_drew ?_ | refine blk_alloc ?_ _)); refine blk_far ?_ NB101_111.out _; (with_reducible repeat (first | refine blk_drewN ?_ _ | refine blk_drew ?_ | refine blk_alloc ?_ _)); exact BK101.out) Tryz.underlying26 rfl (by kernel_rfl)) rfl ?_
 exact ⟨_, _, _, t5_, by (with_reducible repeat (first | apply Kd.R_alloc | apply Kd.R_drewN | apply Kd.R_drew)); exact Kd.R_mono (Kd.R_far (p := ⟨gb101, 0, none⟩) (Kd.R_far (p := ⟨gb111, 0, none⟩) (Kd.R_types (Kd.R_types HO104.out BK111.out (by decide)) BK101.out (by decide)) (fun _ hk => hk.1.2) (.slice Ao6 t102.length co6)) (fun _ hk => hk.2) (.slice Ao6 t102.length co6)) (fun _ hk => ⟨hk.1.1.1, hk.1.1.2⟩), by (with_reducible repeat (first | apply Kd.R_alloc | apply Kd.R_drewN | apply Kd.R_drew)); exact Kd.R_mono (Kd.R_far (p := ⟨gb101, 0, none⟩) (Kd.R_far (p := ⟨gb111, 0, none⟩) (Kd.R_types (Kd.R_types HO107.out BK111.out (by decide)) BK101.out (by decide)) (fun _ hk => hk.1.2) (.slice Ao6 t102.length co6)) (fun _ hk => hk.2) (.slice Ao6 t102.length co6)) (fun _ hk => ⟨hk.1.1.1, hk.1.1.2⟩), by (with_reducible repeat (first | apply Kd.R_alloc | apply Kd.R_drewN | apply Kd.R_drew)); exact Kd.R_mono (Kd.R_far (p := ⟨gb101, 0, none⟩) (Kd.R_far (p := ⟨gb111, 0, none⟩) (Kd.R_types (Kd.R_types HO110.out BK111.out (by decide)) BK101.out (by decide)) (fun _ hk => hk.1.2) (.slice Ao6 t102.length co6)) (fun _ hk => hk.2) (.slice Ao6 t102.length co6)) (fun _ hk => ⟨hk.1.1.1, hk.1.1.2⟩), gb_ HB.out⟩
end Go.Proofs.YtnkndaapamenmaaGreat.P
