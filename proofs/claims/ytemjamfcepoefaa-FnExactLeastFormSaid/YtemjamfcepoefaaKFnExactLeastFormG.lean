/- What the law FnExactLeastForm needs, part 7: words, walks of functions (each says that a call returns what the plain Lean function beside it says), plain lemmas. -/
import Derived.Test.YtemjamfcepoefaaKFnExactLeastFormF
namespace Go.Proofs.Ytemjamfcepoefaa.P
open Go.RowKit Go.Proofs.YtemjamfcepoefaaW.PrintWords Go.Proofs.YtemjamfcepoefaaW.PrintLast Go.Proofs.YtemjamfcepoefaaW.PrintMore
attribute [local go_sem] max2_int min2_int max_two min_two max_three min_three max_four min_four
set_option linter.unusedVariables false
set_option linter.unusedSimpArgs false
def spec_l01Sum.l0 : Nat → List Int → List Int → Int → Int → List Int → Option (Int)
  | 0, _, _, _, _, _ => none
  | k + 1, x7, x8, x17, x18, x102000 => if x18 < x17 then (if 0 ≤ x18 then (if x18 < (x7.length : Int) then (if x18 < (x8.length : Int) then (if x18 < (x102000.length : Int) then (if (rd x102000 x18) = 0 then (none) else (spec_l01Sum.l0 k (x7.set (x18 : Int).toNat (Int.tmod (wrap64 ((rd x7 x18) + (rd x8 x18))) (rd x102000 x18))) x8 x17 (wrap64 (x18 + 1)) x102000)) else (none)) else (none)) else (none)) else (none)) else ((spec_l01Word.f k x102000 x7).bind fun t112 => (some t112))
def spec_l01Sum.f (k : Nat) (l0_0 : List Int) (a1 : Int) (a2 : Int) : Option (Int) := (spec_l01Digits.f k l0_0 a1).bind fun t102 => ((spec_l01Digits.f k l0_0 a2).bind fun t105 => (spec_l01Sum.l0 k t102 t105 (t102.length : Int) 0 l0_0))
def spec_l01Sum.T1 : Bool × List (List Nat × List Nat) := (true, [([], []), ([], []), ([0, 1], [0, 1]), ([], []), ([], []), ([3, 4, 2], [3, 4]), ([2, 5, 0, 1, 2], [2]), ([5, 6, 0, 1, 2, 3, 4, 5, 6], [5])])
def spec_l01Sum.B1 : List Nat := [0, 0, 3, 0, 0, 31, 63, 127]
theorem spec_l01Sum.tab1 : rtab .any (opsOf Try.f50 1) = spec_l01Sum.T1 := by kernel_rfl
theorem spec_l01Sum.bits1 : waitsOk spec_l01Sum.T1.2 spec_l01Sum.B1 = true := by kernel_rfl
def spec_l01Sum.T5 : Bool × List (List Nat × List Nat) := (true, [([], []), ([], []), ([], []), ([], []), ([2, 3], [2, 3]), ([4], [4]), ([], []), ([], []), ([6, 7], [6, 7]), ([8], [8]), ([5, 9], [5, 9]), ([], []), ([11], [11]), ([], []), ([12, 13], [12, 13]), ([14], [14]), ([10, 15], [10, 15]), ([0, 1, 0, 1, 2, 3, 4, 5, 6, 7, 8, 9, 10, 11, 12, 13, 14, 15, 16], [0, 1]), ([17, 16, 0, 1, 2, 3, 4, 5, 6, 7, 8, 9, 10, 11, 12, 13, 14, 15, 16], [16, 17])])
def spec_l01Sum.B5 : List Nat := [0, 0, 0, 0, 12, 28, 0, 0, 192, 448, 1020, 0, 2048, 0, 14336, 30720, 65532, 131071, 262143]
theorem spec_l01Sum.tab5 : rtab .any (opsOf Try.f50 5) = spec_l01Sum.T5 := by kernel_rfl
theorem spec_l01Sum.bits5 : waitsOk spec_l01Sum.T5.2 spec_l01Sum.B5 = true := by kernel_rfl
set_option maxHeartbeats 8000000 in
set_option maxRecDepth 100000 in
theorem spec_l01Sum.calls (k : Nat) (A0_0 : Option Addr) (c0_0 : Nat) (l0_0 : List Int) (a1 : Int) (a2 : Int) (r : Int) (w : World) (hr0_0 : Kd.C (Kd.int .i64) w A0_0 l0_0.length l0_0) (hc0_0 : l0_0.length ≤ c0_0) (h : spec_l01Sum.f k l0_0 a1 a2 = some r) :
  Calls Try.prog 50 #[.agg #[.slice A0_0 l0_0.length c0_0], .int .i64 a1, .int .i64 a2] w fun e w' => e = .returned (.int .i64 r) ∧ Below w.heap.size w w' := by
 have hu28 := Try.underlying28
 have HR0_0 := Aside0.mk hr0_0
 have HC0_0 := Aside0.mk hc0_0
 clear hr0_0 hc0_0
 have HB := Aside0.mk (Below.refl w.heap.size w)
 have H : ((spec_l01Digits.f k l0_0 a1).bind fun t102 => ((spec_l01Digits.f k l0_0 a2).bind fun t105 => (spec_l01Sum.l0 k t102 t105 (t102.length : Int) 0 l0_0))) = some r := h
 clear h
 replace H := Option.bind_eq_some_iff.mp H
 obtain ⟨t102, A40, H⟩ := H
 replace H : ((spec_l01Digits.f k l0_0 a2).bind fun t105 => (spec_l01Sum.l0 k t102 t105 (t102.length : Int) 0 l0_0)) = some r := H
 have A4 := Aside0.mk A40
 clear A40
 replace H := Option.bind_eq_some_iff.mp H
 obtain ⟨t105, A50, H⟩ := H
 replace H : (spec_l01Sum.l0 k t102 t105 (t102.length : Int) 0 l0_0) = some r := H
 have A5 := Aside0.mk A50
 clear A50
 have H' := Aside0.mk H
 clear H
 go_enter Try.func50, Try.ntmps50
 try go_wp2_with (first | ((with_reducible refine gate_dst (N := 3) rfl ?_); refine bx_ (N := 3) (cs := #[.slice A0_0 l0_0.length c0_0]) (t := 28) rfl rfl ?_; intro gb101 hg w6 hbox hb; have n0_ := b1_ HB hb; have n1_ := Aside0.mk (hbox); have n2_ := ge_ hg HB; have n3_ := ge_ hg HB; clear HB; have HB := n0_; have BK101 := n1_; have GW101 := n2_; have GE101 := n3_; clear n0_ n1_ n2_ n3_ hb hbox hg))
 replace BK101 := Aside0.mk (blk_drew BK101.out)
 replace HB := Aside0.mk (below_drew1 HB.out)
 refine start_ (n := 8) (S := fun w' => w'.cell? ⟨gb101, 0, none⟩ = some (.slice A0_0 l0_0.length c0_0)) (ds := []) #[false, false, false, false, false, false, false, false] (by kernel_rfl) rfl rfl ((blk_cell BK101.out 0).trans rfl) (fun hHeld => ?_); refine with_tabW spec_l01Sum.tab1 spec_l01Sum.bits1 (fun HT_ HW_ => ?_)
 generalize w6.drew = w7 at BK101 HB hHeld ⊢
 refine pu_ (i := 1) (N := some 11) (v := ?_) (a' := ?_) #[false, true, false, false, false, false, false, false] rfl rfl HT_ (Or.inl ⟨by rfl, ?_⟩) ?_ ?_
 rotate_left
 ·exact t7_
 rotate_left
 ·exact t4_
 refine pu_ (i := 4) (N := some 14) (v := ?_) (a' := ?_) #[false, true, false, false, true, false, false, false] rfl rfl HT_ (Or.inl ⟨by rfl, ?_⟩) ?_ ?_
 rotate_left
 ·exact t7_
 rotate_left
 ·exact t4_
 refine tk_ (i := 0) (N := some 10) (v := ?_) (a' := ?_) #[true, true, false, false, true, false, false, false] rfl rfl HT_ HW_ (Or.inl ⟨by rfl, ?_⟩) hHeld ?_ ?_
 rotate_left
 ·intro w' s0
  go_simp
  with_reducible rfl
 rotate_left
 ·exact t4_
 refine tk_ (i := 3) (N := some 13) (v := ?_) (a' := ?_) #[true, true, false, true, true, false, false, false] rfl rfl HT_ HW_ (Or.inl ⟨by rfl, ?_⟩) hHeld ?_ ?_
 rotate_left
 ·intro w' s0
  go_simp
  with_reducible rfl
 rotate_left
 ·exact t4_
 refine on_ (i := 2) (N := some 12) #[true, true, true, true, true, false, false, false] rfl rfl HT_ (fun K hK => ?_)
 refine goes_ Try.func47 (by kernel_rfl) rfl #[.agg #[.slice A0_0 l0_0.length c0_0], .int .i64 a1] (by rfl) rfl rfl t1_ ?_
 with_reducible refine (spec_l01Digits.calls k _ _ l0_0 a1 t102 _ ?side1 ?side2 A4.out).mono ?_
 (case side1 => exact c2_ HR0_0 HB)
 (case side2 => exact HC0_0.out)
 rintro e w8 ⟨v103, rfl, ho0, hb⟩
 refine ⟨_, rfl, ?_⟩
 have HO104 := Aside0.mk (Kd.R_lower ho0 (below_size (gb_ HB.out)))
 replace BK101 := a2_ BK101 hb
 replace HB := b1_ HB hb
 (try clear hb)
 (try clear hb2)
 (try clear hk)
 (try clear hi)
 (try clear ho0)
 refine hK.out _ _ ((blk_cell BK101.out 0).trans rfl) (fun hHeld => ?_)
 clear hK K
 refine norm_ (a' := ?_) ?_ ?_
 rotate_left
 ·show Act.put _ (some 12) _ = _
  simp only [Act.put, List.setIfInBounds_toArray, List.set_cons_zero, List.set_cons_succ, i64_w, i32_w]
  rfl
 refine on_ (i := 5) (N := some 15) #[true, true, true, true, true, true, false, false] rfl rfl HT_ (fun K hK => ?_)
 refine goes_ Try.func47 (by kernel_rfl) rfl #[.agg #[.slice A0_0 l0_0.length c0_0], .int .i64 a2] (by rfl) rfl rfl t1_ ?_
 with_reducible refine (spec_l01Digits.calls k _ _ l0_0 a2 t105 _ ?side1 ?side2 A5.out).mono ?_
 (case side1 => exact c2_ HR0_0 HB)
 (case side2 => exact HC0_0.out)
 rintro e w9 ⟨v106, rfl, ho0, hb⟩
 refine ⟨_, rfl, ?_⟩
 have HO107 := Aside0.mk (Kd.R_lower (Kd.R_new' ho0 (Kd.R_lt (rb_ HO104.out))) (below_size (gb_ HB.out)))
 replace HO104 := a5_ HO104 ho0 hb
 replace BK101 := a2_ BK101 hb
 replace HB := b1_ HB hb
 (try clear hb)
 (try clear hb2)
 (try clear hk)
 (try clear hi)
 (try clear ho0)
 refine hK.out _ _ ((blk_cell BK101.out 0).trans rfl) (fun hHeld => ?_)
 clear hK K
 refine norm_ (a' := ?_) ?_ ?_
 rotate_left
 ·show Act.put _ (some 15) _ = _
  simp only [Act.put, List.setIfInBounds_toArray, List.set_cons_zero, List.set_cons_succ, i64_w, i32_w]
  rfl
 refine pu_ (i := 6) (N := some 7) (v := ?_) (a' := ?_) #[true, true, true, true, true, true, true, false] rfl rfl HT_ (Or.inl ⟨by rfl, ?_⟩) ?_ ?_
 rotate_left
 ·exact t7_
 rotate_left
 ·exact t4_
 refine pu_ (i := 7) (N := some 8) (v := ?_) (a' := ?_) #[true, true, true, true, true, true, true, true] rfl rfl HT_ (Or.inl ⟨by rfl, ?_⟩) ?_ ?_
 rotate_left
 ·exact t7_
 rotate_left
 ·exact t4_
 refine done_ (done_of HT_.out (by kernel_rfl)) ?_
 obtain ⟨Ao10, co10, eo10⟩ := Kd.R_slice HO104.out
 subst eo10
 try go_wp2
 go_loopg [18] k (fun kq v18 w' => ∃ (x7_1 : List Int) (x18_1 : Int), v18 = .int .i64 x18_1 ∧ Aside0 (spec_l01Sum.l0 kq x7_1 t105 (t102.length : Int) x18_1 l0_0 = some r) ∧ Aside0 (kq ≤ k) ∧ Aside0 (Kd.R (Kd.int .i64) 2 w' w.heap.size (fun k_ => OB_ k_ v106) (.slice Ao10 t102.length co10) x7_1) ∧ Aside0 (Kd.R (Kd.int .i64) 2 w' w.heap.size (fun k_ => OB_ k_ (.slice Ao10 t102.length co10)) v106 t105) ∧ Aside0 (w'.heap[gb101]? = some (.cells #[(.slice A0_0 l0_0.length c0_0)] 28 (0, 0))) ∧ Aside0 (Below w.heap.size w w'))
 case atStart => exact ⟨(t102), (0), t2_, H', ⟨Nat.le_refl _⟩, ⟨by (with_reducible repeat (first | apply Kd.R_alloc | apply Kd.R_drewN | apply Kd.R_drew)); exact Kd.R_mono HO104.out (fun _ hk => hk.2)⟩, ⟨by (with_reducible repeat (first | apply Kd.R_alloc | apply Kd.R_drewN | apply Kd.R_drew)); exact Kd.R_mono HO107.out (fun _ hk => hk.2)⟩, ⟨bb_ BK101.out⟩, ⟨gb_ HB.out⟩⟩
 clear H'
 try clear p2
 try clear c4
 try clear c5
 obtain ⟨x7_1, x18_1, rfl, HA, HK1, HO_7, HO_8, BK101, HB⟩ := hrel
 have hl7_1 := (Kd.R_reads' HO_7.out).1
 rw [hl7_1] at HO_7
 (try simp only [hl7_1])
 (try simp only [hl7_1] at BK101)
 (try simp only [hl7_1] at HO_8)
 obtain _ | k1 := gk
 ·exact absurd HA.out (by simp [spec_l01Sum.l0])
 have H := HA.out
 clear HA
 simp only [spec_l01Sum.l0] at H
 by_cases c11 : x18_1 < (t102.length : Int)
 rotate_left
 ·rw [if_neg c11] at H
  have c11b0 : decide (x18_1 < (t102.length : Int)) = false := decide_eq_false c11
  (try (have c11z := c11b0; simp only [hl7_1] at c11z))
  clear c11
  replace H := Option.bind_eq_some_iff.mp H
  obtain ⟨t112, A210, H⟩ := H
  replace H : (some t112) = some r := H
  have A21 := Aside0.mk A210
  clear A210
  obtain rfl := Option.some.inj H
  have hcz22_0 := hz_ BK101
  have hfz22_0 := blk_frozen BK101.out 0
  go_wp2_with (first | ((with_reducible refine gate_callee (f := 49) rfl ?_); refine gl_ (some 42) rfl rfl Try.func49 #[.agg #[.slice A0_0 l0_0.length c0_0], .slice Ao10 x7_1.length co10] rfl ?_; (with_reducible refine (spec_l01Word.calls k1 _ _ l0_0 _ _ x7_1 t112 _ ?side1 ?side2 ?side3 ?side4 A21.out).mono ?_); (case side1 => exact c2_ HR0_0 HB); (case side2 => exact HC0_0.out); (case side3 => exact c1_ HO_7); (case side4 => exact (Kd.R_reads' HO_7.out).2.1); rintro e w23 ⟨rfl, hb⟩; refine ⟨_, rfl, ?_⟩; replace HO_7 := a1_ HO_7 hb; replace HO_8 := a1_ HO_8 hb; replace BK101 := a2_ BK101 hb; replace HB := b1_ HB hb; (try clear hb); (try clear hb2); (try clear hk); (try clear hi)))
  go_ret
  exact ⟨t5_, gb_ HB.out⟩

 rw [if_pos c11] at H
 have c11b0 : decide (x18_1 < (t102.length : Int)) = true := decide_eq_true c11
 (try (have c11z := c11b0; simp only [hl7_1] at c11z))
 clear c11
 by_cases c12 : 0 ≤ x18_1
 rotate_left
 ·rw [if_neg c12] at H
  exact absurd H (by simp)
 rw [if_pos c12] at H
 have c12b0 : decide (0 ≤ x18_1) = true := decide_eq_true c12
 clear c12
 by_cases c13 : x18_1 < (x7_1.length : Int)
 rotate_left
 ·rw [if_neg c13] at H
  exact absurd H (by simp)
 rw [if_pos c13] at H
 have c13b0 : decide (x18_1 < (x7_1.length : Int)) = true := decide_eq_true c13
 (try (have c13z := c13b0; simp only [hl7_1] at c13z))
 clear c13
 by_cases c14 : x18_1 < (t105.length : Int)
 rotate_left
 ·rw [if_neg c14] at H
  exact absurd H (by simp)
 rw [if_pos c14] at H
 have c14b0 : decide (x18_1 < (t105.length : Int)) = true := decide_eq_true c14
 (try (have c14z := c14b0; simp only [hl7_1] at c14z))
 clear c14
 by_cases c15 : x18_1 < (l0_0.length : Int)
 rotate_left
 ·rw [if_neg c15] at H
  exact absurd H (by simp)
 rw [if_pos c15] at H
 have c15b0 : decide (x18_1 < (l0_0.length : Int)) = true := decide_eq_true c15
 (try (have c15z := c15b0; simp only [hl7_1] at c15z))
 clear c15
 by_cases c16 : (rd l0_0 x18_1) = 0
 ·rw [if_pos c16] at H
  exact absurd H (by simp)
 rw [if_neg c16] at H
 have c16b0 : ((rd l0_0 x18_1) == 0) = false := beq_eq_false_iff_ne.mpr c16
 have c16b1 : ((rd l0_0 x18_1) != 0) = true := bne_iff_ne.mpr c16
 obtain ⟨y111, hy111⟩ : ∃ y_ : List Int, y_ = (x7_1.set (x18_1 : Int).toNat (Int.tmod (wrap64 ((rd x7_1 x18_1) + (rd t105 x18_1))) (rd l0_0 x18_1))) := ⟨_, rfl⟩
 replace H : (spec_l01Sum.l0 k1 y111 t105 (t102.length : Int) (wrap64 (x18_1 + 1)) l0_0) = some r := y_ H
 have Ny111 := Aside0.mk hy111
 clear hy111
 have H' := Aside0.mk H
 clear H
 try go_wp2
 replace HO_7 := Aside0.mk (Kd.R_drew HO_7.out)
 replace HO_8 := Aside0.mk (Kd.R_drew HO_8.out)
 replace BK101 := Aside0.mk (blk_drew BK101.out)
 replace HB := Aside0.mk (below_drew1 HB.out)
 have p108 : 0 ≤ (x18_1 : Int) := of_decide_eq_true t6_
 have q108 : x18_1 < (x7_1.length : Int) := of_decide_eq_true t6_
 (try (obtain ⟨Aoz, coz, eoz⟩ := Kd.R_slice HO_7.out; subst eoz))
 obtain ⟨ad108, e108, hx108_0⟩ := Kd.at_int (Kd.R_reads' HO_7.out).2.2 x18_1 p108 q108
 cases e108
 replace p108 := eq_true p108
 replace q108 := eq_true q108
 obtain ⟨Ao19, co19, eo19⟩ := Kd.R_slice HO_8.out
 (first | subst eo19 | (injection eo19 with f1_ f2_ f3_; have f4_ := f1_.symm; have f5_ := f3_.symm; clear f1_ f2_ f3_; subst f4_; subst f5_))
 have p109 : 0 ≤ (x18_1 : Int) := of_decide_eq_true t6_
 have q109 : x18_1 < (t105.length : Int) := of_decide_eq_true t6_
 (try (obtain ⟨Aoz, coz, eoz⟩ := Kd.R_slice HO_8.out; subst eoz))
 obtain ⟨ad109, e109, hx109_0⟩ := Kd.at_int (Kd.R_reads' HO_8.out).2.2 x18_1 p109 q109
 cases e109
 replace p109 := eq_true p109
 replace q109 := eq_true q109
 have p110 : 0 ≤ (x18_1 : Int) := of_decide_eq_true t6_
 have q110 : x18_1 < (l0_0.length : Int) := of_decide_eq_true t6_
 obtain ⟨ad110, e110, hx110_0⟩ := Kd.at_int HR0_0.out x18_1 p110 q110
 have hw110_0 := hx110_0
 cases e110
 replace hx110_0 := (HB.out.cell (World.block_lt_of_cell? _ _ hx110_0)).trans hx110_0
 replace p110 := eq_true p110
 replace q110 := eq_true q110
 have p17 : 0 ≤ (x18_1 : Int) := of_decide_eq_true t6_
 have q17 : (x18_1 : Int) < ((x7_1.length : Int) : Int) := of_decide_eq_true t6_
 obtain ⟨go17, co17, eo17, gb17, gl17, cl17, HG17⟩ := Kd.R_form HO_7.out (by omega)
 (first | cases eo17 | (injection eo17 with ea_ en_ ec_; (first | subst ea_ | (injection ea_ with ea_; subst ea_)); subst ec_; clear en_))
 have GB17 := Aside0.mk gb17
 have GG17 := Aside0.mk HG17
 clear gb17 gl17 HG17
 (first | simp only [add_plain] at hx108_0 | skip)
 obtain ⟨hx17_0, hf17_0⟩ := Kd.R_celln 0 HO_7.out (x18_1 : Int) p17 q17
 replace p17 := eq_true p17
 replace q17 := eq_true q17
 have HP20 := Kd.R_putn HO_7.out (x18_1 : Int) (Int.tmod (wrap64 ((rd x7_1 x18_1) + (rd t105 x18_1))) (rd l0_0 x18_1))
 rw [← Ny111.out] at HP20
 have HQ20 := Aside0.mk HP20
 clear HP20
 refine start_ (n := 19) (S := fun w' => w'.cell? ⟨gb101, 0, none⟩ = some (.slice (some ad110) l0_0.length c0_0) ∧ w'.cell? ⟨go17, (x18_1).toNat, none⟩ = some (.int .i64 (rd x7_1 x18_1)) ∧ w'.cell? (ad109.add (x18_1).toNat) = some (.int .i64 (rd t105 x18_1)) ∧ w'.cell? (ad110.add (x18_1).toNat) = some (.int .i64 (rd l0_0 x18_1))) (ds := [18]) #[false, false, false, false, false, false, false, false, false, false, false, false, false, false, false, false, false, false, false] (by kernel_rfl) rfl rfl ⟨(blk_cell BK101.out 0).trans rfl, hx108_0, hx109_0, ((HB.out.cell (World.block_lt_of_cell? _ _ hw110_0)).trans hw110_0)⟩ (fun hHeld => ?_); refine with_tabW spec_l01Sum.tab5 spec_l01Sum.bits5 (fun HT_ HW_ => ?_)
 generalize wr.drew = w18 at HO_7 HO_8 BK101 HB GG17 HQ20 hf17_0 hx108_0 hx109_0 hx110_0 hx17_0 hHeld ⊢
 refine pu_ (i := 0) (N := some 21) (v := ?_) (a' := ?_) #[true, false, false, false, false, false, false, false, false, false, false, false, false, false, false, false, false, false, false] rfl rfl HT_ (Or.inl ⟨by rfl, ?_⟩) ?_ ?_
 rotate_left
 ·exact t7_
 rotate_left
 ·exact t4_
 refine pu_ (i := 1) (N := some 22) (v := ?_) (a' := ?_) #[true, true, false, false, false, false, false, false, false, false, false, false, false, false, false, false, false, false, false] rfl rfl HT_ (Or.inl ⟨by rfl, ?_⟩) ?_ ?_
 rotate_left
 ·exact t7_
 rotate_left
 ·exact t4_
 refine pu_ (i := 2) (N := some 23) (v := ?_) (a' := ?_) #[true, true, true, false, false, false, false, false, false, false, false, false, false, false, false, false, false, false, false] rfl rfl HT_ (Or.inl ⟨by rfl, ?_⟩) ?_ ?_
 rotate_left
 ·exact t7_
 rotate_left
 ·exact t4_
 refine pu_ (i := 3) (N := some 24) (v := ?_) (a' := ?_) #[true, true, true, true, false, false, false, false, false, false, false, false, false, false, false, false, false, false, false] rfl rfl HT_ (Or.inl ⟨by rfl, ?_⟩) ?_ ?_
 rotate_left
 ·exact t7_
 rotate_left
 ·exact t4_
 refine pu_ (i := 4) (N := some 25) (v := ?_) (a' := ?_) #[true, true, true, true, true, false, false, false, false, false, false, false, false, false, false, false, false, false, false] rfl rfl HT_ (Or.inl ⟨by rfl, ?_⟩) ?_ ?_
 rotate_left
 ·exact t7_
 rotate_left
 ·exact t4_
 refine pu_ (i := 6) (N := some 27) (v := ?_) (a' := ?_) #[true, true, true, true, true, false, true, false, false, false, false, false, false, false, false, false, false, false, false] rfl rfl HT_ (Or.inl ⟨by rfl, ?_⟩) ?_ ?_
 rotate_left
 ·exact t7_
 rotate_left
 ·exact t4_
 refine pu_ (i := 7) (N := some 28) (v := ?_) (a' := ?_) #[true, true, true, true, true, false, true, true, false, false, false, false, false, false, false, false, false, false, false] rfl rfl HT_ (Or.inl ⟨by rfl, ?_⟩) ?_ ?_
 rotate_left
 ·exact t7_
 rotate_left
 ·exact t4_
 refine pu_ (i := 8) (N := some 29) (v := ?_) (a' := ?_) #[true, true, true, true, true, false, true, true, true, false, false, false, false, false, false, false, false, false, false] rfl rfl HT_ (Or.inl ⟨by rfl, ?_⟩) ?_ ?_
 rotate_left
 ·exact t7_
 rotate_left
 ·exact t4_
 refine pu_ (i := 11) (N := some 32) (v := ?_) (a' := ?_) #[true, true, true, true, true, false, true, true, true, false, false, true, false, false, false, false, false, false, false] rfl rfl HT_ (Or.inl ⟨by rfl, ?_⟩) ?_ ?_
 rotate_left
 ·exact t7_
 rotate_left
 ·exact t4_
 refine pu_ (i := 13) (N := some 34) (v := ?_) (a' := ?_) #[true, true, true, true, true, false, true, true, true, false, false, true, false, true, false, false, false, false, false] rfl rfl HT_ (Or.inl ⟨by rfl, ?_⟩) ?_ ?_
 rotate_left
 ·exact t7_
 rotate_left
 ·exact t4_
 refine tk_ (i := 5) (N := some 26) (v := ?_) (a' := ?_) #[true, true, true, true, true, true, true, true, true, false, false, true, false, true, false, false, false, false, false] rfl rfl HT_ HW_ (Or.inl ⟨by rfl, ?_⟩) hHeld ?_ ?_
 rotate_left
 ·rintro w' ⟨s0, s1, s2, s3⟩
  (try simp only [add_plain] at s0 s1 s2 s3)
  go_simp
  with_reducible rfl
 rotate_left
 ·exact t4_
 refine tk_ (i := 9) (N := some 30) (v := ?_) (a' := ?_) #[true, true, true, true, true, true, true, true, true, true, false, true, false, true, false, false, false, false, false] rfl rfl HT_ HW_ (Or.inl ⟨by rfl, ?_⟩) hHeld ?_ ?_
 rotate_left
 ·rintro w' ⟨s0, s1, s2, s3⟩
  (try simp only [add_plain] at s0 s1 s2 s3)
  go_simp
  with_reducible rfl
 rotate_left
 ·exact t4_
 refine pu_ (i := 10) (N := some 31) (v := ?_) (a' := ?_) #[true, true, true, true, true, true, true, true, true, true, true, true, false, true, false, false, false, false, false] rfl rfl HT_ (Or.inl ⟨by rfl, ?_⟩) ?_ ?_
 rotate_left
 ·exact t7_
 rotate_left
 ·exact t4_
 refine tk_ (i := 12) (N := some 33) (v := ?_) (a' := ?_) #[true, true, true, true, true, true, true, true, true, true, true, true, true, true, false, false, false, false, false] rfl rfl HT_ HW_ (Or.inl ⟨by rfl, ?_⟩) hHeld ?_ ?_
 rotate_left
 ·rintro w' ⟨s0, s1, s2, s3⟩
  (try simp only [add_plain] at s0 s1 s2 s3)
  go_simp
  with_reducible rfl
 rotate_left
 ·exact t4_
 refine pu_ (i := 14) (N := some 35) (v := ?_) (a' := ?_) #[true, true, true, true, true, true, true, true, true, true, true, true, true, true, true, false, false, false, false] rfl rfl HT_ (Or.inl ⟨by rfl, ?_⟩) ?_ ?_
 rotate_left
 ·exact t7_
 rotate_left
 ·exact t4_
 refine tk_ (i := 15) (N := some 36) (v := ?_) (a' := ?_) #[true, true, true, true, true, true, true, true, true, true, true, true, true, true, true, true, false, false, false] rfl rfl HT_ HW_ (Or.inl ⟨by rfl, ?_⟩) hHeld ?_ ?_
 rotate_left
 ·rintro w' ⟨s0, s1, s2, s3⟩
  (try simp only [add_plain] at s0 s1 s2 s3)
  go_simp
  with_reducible rfl
 rotate_left
 ·exact t4_
 refine pu_ (i := 16) (N := some 37) (v := ?_) (a' := ?_) #[true, true, true, true, true, true, true, true, true, true, true, true, true, true, true, true, true, false, false] rfl rfl HT_ (Or.inl ⟨by rfl, ?_⟩) ?_ ?_
 rotate_left
 ·exact t7_
 rotate_left
 ·exact t4_
 refine pu_ (i := 17) (N := some 38) (v := ?_) (a' := ?_) #[true, true, true, true, true, true, true, true, true, true, true, true, true, true, true, true, true, true, false] rfl rfl HT_ (Or.inl ⟨by rfl, ?_⟩) ?_ ?_
 rotate_left
 ·exact t7_
 rotate_left
 ·exact t4_
 refine last_ (i := 18) (N := none) #[true, true, true, true, true, true, true, true, true, true, true, true, true, true, true, true, true, true, true] rfl rfl (one_of HT_.out (by kernel_rfl)) (by decide) (fun K hK => ?_)
 refine skip_ (w1 := ?_) (by rfl) rfl ?_ ?_
 rotate_left
 ·go_simp
  rfl
 refine hK.out _ _ ?_
 clear hK K
 refine done_ (done_of HT_.out (by kernel_rfl)) ?_
 try go_wp2
 (try simp only [← hl7_1])
 go_roundg k1
 case measure => have := HK1.out; omega
 case rel => exact ⟨(y111), (wrap64 (x18_1 + 1)), t2_, H', ⟨by have := HK1.out; omega⟩, ⟨by (try simp only [hl7_1]); (with_reducible repeat (first | apply Kd.R_alloc | apply Kd.R_drewN | apply Kd.R_drew)); exact HQ20.out⟩, ⟨by (try simp only [hl7_1]); (with_reducible repeat (first | apply Kd.R_alloc | apply Kd.R_drewN | apply Kd.R_drew)); exact Kd.R_mono (Kd.R_far (p := ⟨go17, (x18_1 : Int).toNat, none⟩) (Kd.R_mono HO_8.out (fun k_ hk => (⟨hk, fun e_ => hk (by rw [e_]; rfl)⟩ : _ ∧ k_ ≠ go17))) (fun _ hk => hk.2) (.int .i64 (Int.tmod (wrap64 ((rd x7_1 x18_1) + (rd t105 x18_1))) (rd l0_0 x18_1)))) (fun _ hk => hk.1)⟩, ⟨by (try simp only [hl7_1]); (with_reducible repeat (first | refine blk_drewN ?_ _ | refine blk_drew ?_ | refine blk_alloc ?_ _)); refine blk_far ?_ (by have h_ := Kd.R_ne HO_7.out BK101.out (by decide); intro e_; exact h_ (by rw [e_]; rfl)) _; (with_reducible repeat (first | refine blk_drewN ?_ _ | refine blk_drew ?_ | refine blk_alloc ?_ _)); exact BK101.out⟩, ⟨gb_ HB.out⟩⟩
mutual
def spec_l03Places.l0 : Nat → List Int → List Int → Int → Int → List Int → List Int → Option (List Int × List Int)
  | 0, _, _, _, _, _, _ => none
  | k + 1, x1, x2, x20, x21, x102000, x107000 => if x21 < x20 then (if 0 ≤ x21 then (if x21 < (x2.length : Int) then (if x21 < (x102000.length : Int) then (if 0 ≤ (rd x2 x21) then (if (rd x2 x21) < (x107000.length : Int) then (spec_l03Places.l0 k x1 x2 x20 (wrap64 (x21 + 1)) x102000 (x107000.set ((rd x2 x21) : Int).toNat (rd x102000 x21))) else (none)) else (none)) else (none)) else (none)) else (none)) else (spec_l03Places.l1 k x1 x2 (([] : List Int)) (x1.length : Int) 0 x102000 x107000)
def spec_l03Places.l1 : Nat → List Int → List Int → List Int → Int → Int → List Int → List Int → Option (List Int × List Int)
  | 0, _, _, _, _, _, _, _ => none
  | k + 1, x1, x2, x10, x39, x40, x102000, x107000 => if x40 < x39 then (if 0 ≤ x40 then (if x40 < (x1.length : Int) then ((spec_l01Digits.f k x102000 (rd x1 x40)).bind fun t114 => (if 0 ≤ (x2.length : Int) then (if ((x2.length : Int) : Int).toNat ≤ 35184372088832 then (spec_l03Places.l2 k x1 x2 x10 t114 (List.replicate ((x2.length : Int) : Int).toNat 0) x39 x40 (x2.length : Int) 0 x102000 x107000) else (none)) else (none))) else (none)) else (none)) else (some (x107000, x10))
def spec_l03Places.l2 : Nat → List Int → List Int → List Int → List Int → List Int → Int → Int → Int → Int → List Int → List Int → Option (List Int × List Int)
  | 0, _, _, _, _, _, _, _, _, _, _, _ => none
  | k + 1, x1, x2, x10, x12, x13, x39, x40, x53, x54, x102000, x107000 => if x54 < x53 then (if 0 ≤ x54 then (if x54 < (x2.length : Int) then (if x54 < (x12.length : Int) then (if 0 ≤ (rd x2 x54) then (if (rd x2 x54) < (x13.length : Int) then (spec_l03Places.l2 k x1 x2 x10 x12 (x13.set ((rd x2 x54) : Int).toNat (rd x12 x54)) x39 x40 x53 (wrap64 (x54 + 1)) x102000 x107000) else (none)) else (none)) else (none)) else (none)) else (none)) else ((spec_l01Word.f k x107000 x13).bind fun t123 => ((spec_l01Put.f k x10 t123).bind fun t124 => (spec_l03Places.l1 k x1 x2 t124 x39 (wrap64 (x40 + 1)) x102000 x107000)))
end
def spec_l03Places.f (k : Nat) (l0_0 : List Int) (l1 : List Int) (l2 : List Int) : Option (List Int × List Int) := if 0 ≤ (l2.length : Int) then (if ((l2.length : Int) : Int).toNat ≤ 35184372088832 then (spec_l03Places.l0 k l1 l2 (l2.length : Int) 0 l0_0 (List.replicate ((l2.length : Int) : Int).toNat 0)) else (none)) else (none)
def spec_l03Places.T5 : Bool × List (List Nat × List Nat) := (true, [([], []), ([0], [0]), ([], []), ([], []), ([2, 3], [2, 3]), ([4], [4]), ([], []), ([6], [6]), ([], []), ([7, 8], [7, 8]), ([9], [9]), ([1, 5, 0, 1, 2, 3, 4, 5, 6, 7, 8, 9, 10], [1, 5]), ([11, 10, 0, 1, 2, 3, 4, 5, 6, 7, 8, 9, 10], [10, 11])])
def spec_l03Places.B5 : List Nat := [0, 1, 0, 0, 12, 28, 0, 64, 0, 448, 960, 2047, 4095]
theorem spec_l03Places.tab5 : rtab .any (opsOf Try.f34 5) = spec_l03Places.T5 := by kernel_rfl
theorem spec_l03Places.bits5 : waitsOk spec_l03Places.T5.2 spec_l03Places.B5 = true := by kernel_rfl
def spec_l03Places.T11 : Bool × List (List Nat × List Nat) := (true, [([], []), ([], []), ([], []), ([1, 2], [1, 2]), ([3], [3]), ([0, 4], [0, 4]), ([], []), ([6], [6]), ([7, 7], [7]), ([5, 5, 0, 1, 2, 3, 4, 5], [5]), ([8, 9, 0, 1, 2, 3, 4, 5, 6, 7, 8, 9], [8])])
def spec_l03Places.B11 : List Nat := [0, 0, 0, 6, 14, 31, 0, 64, 192, 63, 1023]
theorem spec_l03Places.tab11 : rtab .any (opsOf Try.f34 11) = spec_l03Places.T11 := by kernel_rfl
theorem spec_l03Places.bits11 : waitsOk spec_l03Places.T11.2 spec_l03Places.B11 = true := by kernel_rfl
def spec_l03Places.T15 : Bool × List (List Nat × List Nat) := (true, [([], []), ([], []), ([], []), ([1, 2], [1, 2]), ([3], [3]), ([], []), ([], []), ([5, 6], [5, 6]), ([7], [7]), ([0, 4, 0, 1, 2, 3, 4, 5, 6, 7, 8], [0, 4]), ([9, 8, 0, 1, 2, 3, 4, 5, 6, 7, 8], [8, 9])])
def spec_l03Places.B15 : List Nat := [0, 0, 0, 6, 14, 0, 0, 96, 224, 511, 1023]
theorem spec_l03Places.tab15 : rtab .any (opsOf Try.f34 15) = spec_l03Places.T15 := by kernel_rfl
theorem spec_l03Places.bits15 : waitsOk spec_l03Places.T15.2 spec_l03Places.B15 = true := by kernel_rfl
set_option maxHeartbeats 8000000 in
set_option maxRecDepth 100000 in
theorem spec_l03Places.calls (k : Nat) (A0_0 : Option Addr) (c0_0 : Nat) (l0_0 : List Int) (A1 : Option Addr) (c1 : Nat) (l1 : List Int) (A2 : Option Addr) (c2 : Nat) (l2 : List Int) (r1 : List Int) (r2 : List Int) (w : World) (hr0_0 : Kd.C (Kd.int .i64) w A0_0 l0_0.length l0_0) (hc0_0 : l0_0.length ≤ c0_0) (hr1 : Kd.C (Kd.int .i64) w A1 l1.length l1) (hc1 : l1.length ≤ c1) (hr2 : Kd.C (Kd.int .i64) w A2 l2.length l2) (hc2 : l2.length ≤ c2) (h : spec_l03Places.f k l0_0 l1 l2 = some (r1, r2)) :
  Calls Try.prog 34 #[.agg #[.slice A0_0 l0_0.length c0_0], .slice A1 l1.length c1, .slice A2 l2.length c2] w fun e w' => ∃ v0_ v1_ : Value, e = .returned (.tuple #[.agg #[v0_], v1_]) ∧ Kd.R (Kd.int .i64) 2 w' w.heap.size (fun k_ => OB_ k_ v1_) v0_ r1 ∧ Kd.R (Kd.int .i64) 2 w' w.heap.size (fun k_ => OB_ k_ v0_) v1_ r2 ∧ Below w.heap.size w w' := by
 have hu28 := Try.underlying28
 have HR0_0 := Aside0.mk hr0_0
 have HC0_0 := Aside0.mk hc0_0
 clear hr0_0 hc0_0
 have HR1 := Aside0.mk hr1
 have HC1 := Aside0.mk hc1
 clear hr1 hc1
 have HR2 := Aside0.mk hr2
 have HC2 := Aside0.mk hc2
 clear hr2 hc2
 have HB := Aside0.mk (Below.refl w.heap.size w)
 have H : (if 0 ≤ (l2.length : Int) then (if ((l2.length : Int) : Int).toNat ≤ 35184372088832 then (spec_l03Places.l0 k l1 l2 (l2.length : Int) 0 l0_0 (List.replicate ((l2.length : Int) : Int).toNat 0)) else (none)) else (none)) = some (r1, r2) := h
 clear h
 by_cases c4 : 0 ≤ (l2.length : Int)
 rotate_left
 ·rw [if_neg c4] at H
  exact absurd H (by simp)

 rw [if_pos c4] at H
 have c4b0 := eq_true c4
 have c4b1 : decide (0 ≤ (l2.length : Int)) = true := decide_eq_true c4
 clear c4
 by_cases c5 : ((l2.length : Int) : Int).toNat ≤ 35184372088832
 rotate_left
 ·rw [if_neg c5] at H
  exact absurd H (by simp)
 rw [if_pos c5] at H
 have c5b0 := eq_true c5
 have c5b1 : decide (((l2.length : Int) : Int).toNat ≤ 35184372088832) = true := decide_eq_true c5
 clear c5
 obtain ⟨y103, hy103⟩ : ∃ y_ : List Int, y_ = (List.replicate ((l2.length : Int) : Int).toNat 0) := ⟨_, rfl⟩
 replace H : (spec_l03Places.l0 k l1 l2 (l2.length : Int) 0 l0_0 y103) = some (r1, r2) := y_ H
 have Ny103 := Aside0.mk hy103
 clear hy103
 have H' := Aside0.mk H
 clear H
 go_enter Try.func34, Try.ntmps34
 go_wp2_with (first | ((with_reducible refine gate_dst (N := 3) rfl ?_); refine bx_ (N := 3) (cs := #[.slice A0_0 l0_0.length c0_0]) (t := 28) rfl rfl ?_; intro gb101 hg w6 hbox hb; have n0_ := b1_ HB hb; have n1_ := Aside0.mk (hbox); have n2_ := ge_ hg HB; have n3_ := ge_ hg HB; clear HB; have HB := n0_; have BK101 := n1_; have GW101 := n2_; have GE101 := n3_; clear n0_ n1_ n2_ n3_ hb hbox hg) | ((with_reducible refine gate_dst (N := 6) rfl ?_); refine bx_ (N := 6) (cs := #[.slice none 0 0]) (t := 28) rfl rfl ?_; intro gb102 hg w7 hbox hb; have n0_ := a2_ BK101 hb; have n1_ := b1_ HB hb; have n2_ := Aside0.mk (hbox); have n3_ := ge_ hg HB; have n4_ := ge_ hg HB; have n5_ := nl_ hg BK101; have n6_ := nr_ hg BK101; clear BK101 HB; have BK101 := n0_; have HB := n1_; have BK102 := n2_; have GW102 := n3_; have GE102 := n4_; have NB101_102 := n5_; have NB102_101 := n6_; clear n0_ n1_ n2_ n3_ n4_ n5_ n6_ hb hbox hg) | ((with_reducible refine gate_dst (N := 17) rfl ?_); refine Kd.R_make (Kd.int .i64) _ 2 rfl (N := 17) rfl 22 _ _ rfl (l2.length : Int) rfl rfl Try.underlying22 (.int .i64 0) 8 info2 rfl (by decide) (by omega) 0 (ok := fun _ => True) (okp := fun _ => True) rfl (fun _ hk => hk) trivial (of_decide_eq_true t6_) (Nat.le_trans (Nat.mul_le_mul_right _ (of_decide_eq_true t6_ : (l2.length : Int).toNat ≤ 35184372088832)) (by omega)) (Below.refl _ _) (Nat.le_refl _) ?_; intro v104 w8 ho9 hb hg_ hnew_; clear hg_ hnew_; (first | rw [← Ny103.out] at ho9 | (simp only [Int.reduceToNat] at ho9; rw [← Ny103.out] at ho9)); have n0_ := Aside0.mk (Kd.R_lower ho9 (below_size (gb_ HB.out))); have n1_ := a2_ BK101 hb; have n2_ := a2_ BK102 hb; have n3_ := b1_ HB hb; clear BK101 BK102 HB; have HO105 := n0_; have BK101 := n1_; have BK102 := n2_; have HB := n3_; clear n0_ n1_ n2_ n3_ hb ho9; obtain ⟨Ao10, co10, eo10⟩ := Kd.R_slice HO105.out; subst eo10) | ((with_reducible refine gate_dst (N := 8) rfl ?_); refine bx_ (N := 8) (cs := #[.slice none 0 0]) (t := 28) rfl rfl ?_; intro gb106 hg w11 hbox hb; have n0_ := a1_ HO105 hb; have n1_ := a2_ BK101 hb; have n2_ := a2_ BK102 hb; have n3_ := b1_ HB hb; have n4_ := Aside0.mk (hbox); have n5_ := ge_ hg HB; have n6_ := ge_ hg HB; have n7_ := nl_ hg BK101; have n8_ := nr_ hg BK101; have n9_ := nl_ hg BK102; have n10_ := nr_ hg BK102; clear HO105 BK101 BK102 HB; have HO105 := n0_; have BK101 := n1_; have BK102 := n2_; have HB := n3_; have BK106 := n4_; have GW106 := n5_; have GE106 := n6_; have NB101_106 := n7_; have NB106_101 := n8_; have NB102_106 := n9_; have NB106_102 := n10_; clear n0_ n1_ n2_ n3_ n4_ n5_ n6_ n7_ n8_ n9_ n10_ hb hbox hg; have hnb12 := NB106_101.out; have hnc12 := NB101_106.out; have hnb13 := NB106_102.out; have hnc13 := NB102_106.out; have hcz14_0 := hz_ BK106; have hfz14_0 := blk_frozen BK106.out 0))
 go_loopg [21] k (fun kq v21 w' => ∃ (x21_1 : Int) (x107000_1 : List Int) (u107000 : Value), v21 = .int .i64 x21_1 ∧ Aside0 (spec_l03Places.l0 kq l1 l2 (l2.length : Int) x21_1 l0_0 x107000_1 = some (r1, r2)) ∧ Aside0 (kq ≤ k) ∧ Aside0 (Kd.R (Kd.int .i64) 2 w' w.heap.size (fun _ => True) u107000 x107000_1) ∧ Aside0 (w'.heap[gb101]? = some (.cells #[(.slice A0_0 l0_0.length c0_0)] 28 (0, 0))) ∧ Aside0 (w'.heap[gb102]? = some (.cells #[(.slice none 0 0)] 28 (0, 0))) ∧ Aside0 (w'.heap[gb106]? = some (.cells #[u107000] 28 (0, 0))) ∧ Aside0 (Below w.heap.size w w'))
 case atStart => exact ⟨(0), (y103), (.slice Ao10 y103.length co10), t2_, H', ⟨Nat.le_refl _⟩, ⟨by (with_reducible repeat (first | apply Kd.R_alloc | apply Kd.R_drewN | apply Kd.R_drew)); exact Kd.R_mono (Kd.R_far (p := ⟨gb106, 0, none⟩) (Kd.R_types HO105.out BK106.out (by decide)) (fun _ hk => hk.2) (.slice Ao10 y103.length co10)) (fun _ hk => trivial)⟩, ⟨by (with_reducible repeat (first | refine blk_drewN ?_ _ | refine blk_drew ?_ | refine blk_alloc ?_ _)); refine blk_far ?_ NB101_106.out _; (with_reducible repeat (first | refine blk_drewN ?_ _ | refine blk_drew ?_ | refine blk_alloc ?_ _)); exact BK101.out⟩, ⟨by (with_reducible repeat (first | refine blk_drewN ?_ _ | refine blk_drew ?_ | refine blk_alloc ?_ _)); refine blk_far ?_ NB102_106.out _; (with_reducible repeat (first | refine blk_drewN ?_ _ | refine blk_drew ?_ | refine blk_alloc ?_ _)); exact BK102.out⟩, ⟨by (with_reducible repeat (first | refine blk_drewN ?_ _ | refine blk_drew ?_ | refine blk_alloc ?_ _)); refine blk_put (cs := #[.slice none 0 0]) ?_ 0 _ rfl; (with_reducible repeat (first | refine blk_drewN ?_ _ | refine blk_drew ?_ | refine blk_alloc ?_ _)); exact BK106.out⟩, ⟨gb_ HB.out⟩⟩
 clear H'
 try clear c1
 try clear c2
 try clear p2
 try clear c3
 try clear c4
 try clear c4b0
 try clear c4b1
 try clear c5
 try clear c5b0
 try clear c5b1
 try clear c12
 try clear c13
 try clear hcz14_0
 try clear hfz14_0
 obtain ⟨x21_1, x107000_1, u107000, rfl, HA, HK1, HO_107000, BK101, BK102, BK106, HB⟩ := hrel
 obtain _ | k1 := gk
 ·exact absurd HA.out (by simp [spec_l03Places.l0])
 have H := HA.out
 clear HA
 simp only [spec_l03Places.l0] at H
 by_cases c15 : x21_1 < (l2.length : Int)
 ·rw [if_pos c15] at H
  have c15b0 : decide (x21_1 < (l2.length : Int)) = true := decide_eq_true c15
  clear c15
  by_cases c16 : 0 ≤ x21_1
  rotate_left
  ·rw [if_neg c16] at H
   exact absurd H (by simp)
  rw [if_pos c16] at H
  have c16b0 : decide (0 ≤ x21_1) = true := decide_eq_true c16
  clear c16
  by_cases c17 : x21_1 < (l2.length : Int)
  rotate_left
  ·rw [if_neg c17] at H
   exact absurd H (by simp)
  rw [if_pos c17] at H
  have c17b0 : decide (x21_1 < (l2.length : Int)) = true := decide_eq_true c17
  clear c17
  by_cases c18 : x21_1 < (l0_0.length : Int)
  rotate_left
  ·rw [if_neg c18] at H
   exact absurd H (by simp)
  rw [if_pos c18] at H
  have c18b0 : decide (x21_1 < (l0_0.length : Int)) = true := decide_eq_true c18
  clear c18
  by_cases c19 : 0 ≤ (rd l2 x21_1)
  rotate_left
  ·rw [if_neg c19] at H
   exact absurd H (by simp)
  rw [if_pos c19] at H
  have c19b0 : decide (0 ≤ (rd l2 x21_1)) = true := decide_eq_true c19
  clear c19
  by_cases c20 : (rd l2 x21_1) < (x107000_1.length : Int)
  rotate_left
  ·rw [if_neg c20] at H
   exact absurd H (by simp)
  rw [if_pos c20] at H
  have c20b0 : decide ((rd l2 x21_1) < (x107000_1.length : Int)) = true := decide_eq_true c20
  clear c20
  obtain ⟨y109, hy109⟩ : ∃ y_ : List Int, y_ = (x107000_1.set ((rd l2 x21_1) : Int).toNat (rd l0_0 x21_1)) := ⟨_, rfl⟩
  replace H : (spec_l03Places.l0 k1 l1 l2 (l2.length : Int) (wrap64 (x21_1 + 1)) l0_0 y109) = some (r1, r2) := y_ H
  have Ny109 := Aside0.mk hy109
  clear hy109
  have H' := Aside0.mk H
  clear H
  try go_wp2
  replace HO_107000 := Aside0.mk (Kd.R_drew HO_107000.out)
  replace BK101 := Aside0.mk (blk_drew BK101.out)
  replace BK102 := Aside0.mk (blk_drew BK102.out)
  replace BK106 := Aside0.mk (blk_drew BK106.out)
  replace HB := Aside0.mk (below_drew1 HB.out)
  have p107 : 0 ≤ (x21_1 : Int) := of_decide_eq_true t6_
  have q107 : x21_1 < (l2.length : Int) := of_decide_eq_true t6_
  obtain ⟨ad107, e107, hx107_0⟩ := Kd.at_int HR2.out x21_1 p107 q107
  have hw107_0 := hx107_0
  cases e107
  replace hx107_0 := (HB.out.cell (World.block_lt_of_cell? _ _ hx107_0)).trans hx107_0
  replace p107 := eq_true p107
  replace q107 := eq_true q107
  have p108 : 0 ≤ (x21_1 : Int) := of_decide_eq_true t6_
  have q108 : x21_1 < (l0_0.length : Int) := of_decide_eq_true t6_
  obtain ⟨ad108, e108, hx108_0⟩ := Kd.at_int HR0_0.out x21_1 p108 q108
  have hw108_0 := hx108_0
  cases e108
  replace hx108_0 := (HB.out.cell (World.block_lt_of_cell? _ _ hx108_0)).trans hx108_0
  replace p108 := eq_true p108
  replace q108 := eq_true q108
  have p21 : 0 ≤ ((rd l2 x21_1) : Int) := of_decide_eq_true t6_
  have q21 : ((rd l2 x21_1) : Int) < ((x107000_1.length : Int) : Int) := of_decide_eq_true t6_
  obtain ⟨go21, co21, eo21, gb21, gl21, cl21, HG21⟩ := Kd.R_form HO_107000.out (by omega)
  (first | cases eo21 | (injection eo21 with ea_ en_ ec_; (first | subst ea_ | (injection ea_ with ea_; subst ea_)); subst ec_; clear en_))
  have GB21 := Aside0.mk gb21
  have GG21 := Aside0.mk HG21
  clear gb21 gl21 HG21
  obtain ⟨hx21_0, hf21_0⟩ := Kd.R_celln 0 HO_107000.out ((rd l2 x21_1) : Int) p21 q21
  replace p21 := eq_true p21
  replace q21 := eq_true q21
  have HP23 := Kd.R_putn HO_107000.out ((rd l2 x21_1) : Int) (rd l0_0 x21_1)
  rw [← Ny109.out] at HP23
  have HQ23 := Aside0.mk HP23
  clear HP23
  refine start_ (n := 13) (S := fun w' => w'.cell? ⟨gb106, 0, none⟩ = some (.slice (some ⟨go21, 0, none⟩) x107000_1.length co21) ∧ w'.cell? ⟨gb101, 0, none⟩ = some (.slice (some ad108) l0_0.length c0_0) ∧ w'.cell? (ad107.add (x21_1).toNat) = some (.int .i64 (rd l2 x21_1)) ∧ w'.cell? (ad108.add (x21_1).toNat) = some (.int .i64 (rd l0_0 x21_1))) (ds := [12]) #[false, false, false, false, false, false, false, false, false, false, false, false, false] (by kernel_rfl) rfl rfl ⟨(blk_cell BK106.out 0).trans rfl, (blk_cell BK101.out 0).trans rfl, ((HB.out.cell (World.block_lt_of_cell? _ _ hw107_0)).trans hw107_0), ((HB.out.cell (World.block_lt_of_cell? _ _ hw108_0)).trans hw108_0)⟩ (fun hHeld => ?_); refine with_tabW spec_l03Places.tab5 spec_l03Places.bits5 (fun HT_ HW_ => ?_)
  generalize wr.drew = w22 at HO_107000 BK101 BK102 BK106 HB GG21 HQ23 hf21_0 hx107_0 hx108_0 hx21_0 hHeld ⊢
  refine pu_ (i := 0) (N := some 24) (v := ?_) (a' := ?_) #[true, false, false, false, false, false, false, false, false, false, false, false, false] rfl rfl HT_ (Or.inl ⟨by rfl, ?_⟩) ?_ ?_
  rotate_left
  ·exact t7_
  rotate_left
  ·exact t4_
  refine pu_ (i := 2) (N := some 26) (v := ?_) (a' := ?_) #[true, false, true, false, false, false, false, false, false, false, false, false, false] rfl rfl HT_ (Or.inl ⟨by rfl, ?_⟩) ?_ ?_
  rotate_left
  ·exact t7_
  rotate_left
  ·exact t4_
  refine pu_ (i := 3) (N := some 27) (v := ?_) (a' := ?_) #[true, false, true, true, false, false, false, false, false, false, false, false, false] rfl rfl HT_ (Or.inl ⟨by rfl, ?_⟩) ?_ ?_
  rotate_left
  ·exact t7_
  rotate_left
  ·exact t4_
  refine pu_ (i := 4) (N := some 28) (v := ?_) (a' := ?_) #[true, false, true, true, true, false, false, false, false, false, false, false, false] rfl rfl HT_ (Or.inl ⟨by rfl, ?_⟩) ?_ ?_
  rotate_left
  ·exact t7_
  rotate_left
  ·exact t4_
  refine pu_ (i := 6) (N := some 30) (v := ?_) (a' := ?_) #[true, false, true, true, true, false, true, false, false, false, false, false, false] rfl rfl HT_ (Or.inl ⟨by rfl, ?_⟩) ?_ ?_
  rotate_left
  ·exact t7_
  rotate_left
  ·exact t4_
  refine pu_ (i := 8) (N := some 32) (v := ?_) (a' := ?_) #[true, false, true, true, true, false, true, false, true, false, false, false, false] rfl rfl HT_ (Or.inl ⟨by rfl, ?_⟩) ?_ ?_
  rotate_left
  ·exact t7_
  rotate_left
  ·exact t4_
  refine tk_ (i := 1) (N := some 25) (v := ?_) (a' := ?_) #[true, true, true, true, true, false, true, false, true, false, false, false, false] rfl rfl HT_ HW_ (Or.inl ⟨by rfl, ?_⟩) hHeld ?_ ?_
  rotate_left
  ·rintro w' ⟨s0, s1, s2, s3⟩
   go_simp
   with_reducible rfl
  rotate_left
  ·exact t4_
  refine tk_ (i := 5) (N := some 29) (v := ?_) (a' := ?_) #[true, true, true, true, true, true, true, false, true, false, false, false, false] rfl rfl HT_ HW_ (Or.inl ⟨by rfl, ?_⟩) hHeld ?_ ?_
  rotate_left
  ·rintro w' ⟨s0, s1, s2, s3⟩
   go_simp
   with_reducible rfl
  rotate_left
  ·exact t4_
  refine tk_ (i := 7) (N := some 31) (v := ?_) (a' := ?_) #[true, true, true, true, true, true, true, true, true, false, false, false, false] rfl rfl HT_ HW_ (Or.inl ⟨by rfl, ?_⟩) hHeld ?_ ?_
  rotate_left
  ·rintro w' ⟨s0, s1, s2, s3⟩
   go_simp
   with_reducible rfl
  rotate_left
  ·exact t4_
  refine pu_ (i := 9) (N := some 33) (v := ?_) (a' := ?_) #[true, true, true, true, true, true, true, true, true, true, false, false, false] rfl rfl HT_ (Or.inl ⟨by rfl, ?_⟩) ?_ ?_
  rotate_left
  ·exact t7_
  rotate_left
  ·exact t4_
  refine tk_ (i := 10) (N := some 34) (v := ?_) (a' := ?_) #[true, true, true, true, true, true, true, true, true, true, true, false, false] rfl rfl HT_ HW_ (Or.inl ⟨by rfl, ?_⟩) hHeld ?_ ?_
  rotate_left
  ·rintro w' ⟨s0, s1, s2, s3⟩
   go_simp
   with_reducible rfl
  rotate_left
  ·exact t4_
  refine pu_ (i := 11) (N := some 35) (v := ?_) (a' := ?_) #[true, true, true, true, true, true, true, true, true, true, true, true, false] rfl rfl HT_ (Or.inl ⟨by rfl, ?_⟩) ?_ ?_
  rotate_left
  ·exact t7_
  rotate_left
  ·exact t4_
  refine last_ (i := 12) (N := none) #[true, true, true, true, true, true, true, true, true, true, true, true, true] rfl rfl (one_of HT_.out (by kernel_rfl)) (by decide) (fun K hK => ?_)
  refine skip_ (w1 := ?_) (by rfl) rfl ?_ ?_
  rotate_left
  ·go_simp
   rfl
  refine hK.out _ _ ?_
  clear hK K
  refine done_ (done_of HT_.out (by kernel_rfl)) ?_
  try go_wp2
  go_roundg k1
  case measure => have := HK1.out; omega
  case rel => exact ⟨(wrap64 (x21_1 + 1)), (y109), (.slice (some ⟨go21, 0, none⟩) x107000_1.length co21), t2_, H', ⟨by have := HK1.out; omega⟩, ⟨rb_ HQ23.out⟩, ⟨by (with_reducible repeat (first | refine blk_drewN ?_ _ | refine blk_drew ?_ | refine blk_alloc ?_ _)); refine blk_far ?_ (by have h_ := Kd.R_ne HO_107000.out BK101.out (by decide); intro e_; exact h_ (by rw [e_]; rfl)) _; (with_reducible repeat (first | refine blk_drewN ?_ _ | refine blk_drew ?_ | refine blk_alloc ?_ _)); exact BK101.out⟩, ⟨by (with_reducible repeat (first | refine blk_drewN ?_ _ | refine blk_drew ?_ | refine blk_alloc ?_ _)); refine blk_far ?_ (by have h_ := Kd.R_ne HO_107000.out BK102.out (by decide); intro e_; exact h_ (by rw [e_]; rfl)) _; (with_reducible repeat (first | refine blk_drewN ?_ _ | refine blk_drew ?_ | refine blk_alloc ?_ _)); exact BK102.out⟩, ⟨by (with_reducible repeat (first | refine blk_drewN ?_ _ | refine blk_drew ?_ | refine blk_alloc ?_ _)); refine blk_far ?_ (by have h_ := Kd.R_ne HO_107000.out BK106.out (by decide); intro e_; exact h_ (by rw [e_]; rfl)) _; (with_reducible repeat (first | refine blk_drewN ?_ _ | refine blk_drew ?_ | refine blk_alloc ?_ _)); exact BK106.out⟩, ⟨gb_ HB.out⟩⟩
 rw [if_neg c15] at H
 have c15b0 : decide (x21_1 < (l2.length : Int)) = false := decide_eq_false c15
 clear c15
 obtain ⟨y110, hy110⟩ : ∃ y_ : List Int, y_ = (([] : List Int)) := ⟨_, rfl⟩
 replace H : (spec_l03Places.l1 k1 l1 l2 y110 (l1.length : Int) 0 l0_0 x107000_1) = some (r1, r2) := y_ H
 have Ny110 := Aside0.mk hy110
 clear hy110
 have H' := Aside0.mk H
 clear H
 go_wp2_with (first | ((with_reducible refine gate_dst (N := 37) rfl ?_); refine Kd.R_lit (Kd.int .i64) _ 2 ?hg (N := 37) ?hd (xs := ([] : List Int)) (inner := []) (ok := fun _ => True) (okp := fun _ => True) ?hr ?hp (fun _ hk => hk) trivial (Below.refl _ _) (Nat.le_refl _) (by simp) ?_; (case hd => rfl); (case hg => rfl); (case hr => exact t3_); (case hp => exact (Reps.none _ _)); intro v111 w24 ho25 hb hg_ hnew_; clear hg_ hnew_; (first | rw [← Ny110.out] at ho25 | (simp only [Int.reduceToNat] at ho25; rw [← Ny110.out] at ho25)); have n0_ := a5_ HO_107000 ho25 hb; have n1_ := Aside0.mk (Kd.R_lower (Kd.R_new' ho25 (Kd.R_lt (rb_ HO_107000.out))) (below_size (gb_ HB.out))); have n2_ := a2_ BK101 hb; have n3_ := a2_ BK102 hb; have n4_ := a2_ BK106 hb; have n5_ := b1_ HB hb; clear HO_107000 BK101 BK102 BK106 HB; have HO_107000 := n0_; have HO112 := n1_; have BK101 := n2_; have BK102 := n3_; have BK106 := n4_; have HB := n5_; clear n0_ n1_ n2_ n3_ n4_ n5_ hb ho25))
 go_loopg [10, 40] k1 (fun kq v10 v40 w' => ∃ (x10_2 : List Int) (x40_2 : Int) (x107000_2 : List Int) (u107000 : Value), v40 = .int .i64 x40_2 ∧ Aside0 (spec_l03Places.l1 kq l1 l2 x10_2 (l1.length : Int) x40_2 l0_0 x107000_2 = some (r1, r2)) ∧ Aside0 (kq ≤ k1) ∧ Aside0 (Kd.R (Kd.int .i64) 2 w' w.heap.size (fun k_ => OB_ k_ u107000) v10 x10_2) ∧ Aside0 (Kd.R (Kd.int .i64) 2 w' w.heap.size (fun k_ => OB_ k_ v10) u107000 x107000_2) ∧ Aside0 (w'.heap[gb101]? = some (.cells #[(.slice A0_0 l0_0.length c0_0)] 28 (0, 0))) ∧ Aside0 (w'.heap[gb102]? = some (.cells #[(.slice none 0 0)] 28 (0, 0))) ∧ Aside0 (w'.heap[gb106]? = some (.cells #[u107000] 28 (0, 0))) ∧ Aside0 (Below w.heap.size w w'))
 case atStart => exact ⟨(y110), (0), (x107000_1), (u107000), t2_, H', ⟨Nat.le_refl _⟩, ⟨by (with_reducible repeat (first | apply Kd.R_alloc | apply Kd.R_drewN | apply Kd.R_drew)); exact Kd.R_mono HO112.out (fun _ hk => hk.2)⟩, ⟨by (with_reducible repeat (first | apply Kd.R_alloc | apply Kd.R_drewN | apply Kd.R_drew)); exact Kd.R_mono HO_107000.out (fun _ hk => hk.2)⟩, ⟨bb_ BK101.out⟩, ⟨bb_ BK102.out⟩, ⟨bb_ BK106.out⟩, ⟨gb_ HB.out⟩⟩
 clear H'
 try clear c1
 try clear p1
 try clear q1
 try clear hx1
 try clear c2
 try clear p2
 try clear q2
 try clear hx2
 try clear c3
 try clear c4
 try clear c4b0
 try clear c4b1
 try clear c5
 try clear c5b0
 try clear c5b1
 try clear p6
 try clear p10
 try clear q10
 try clear hx10
 try clear c12
 try clear c13
 try clear c15
 try clear c15b0
 try clear c16
 try clear c16b0
 try clear c17
 try clear c17b0
 try clear c18
 try clear c18b0
 try clear c19
 try clear c19b0
 try clear c20
 try clear c20b0
 try clear p21
 try clear q21
 try clear hx21
 try clear hf21
 try clear hcz14_0
 try clear hfz14_0
 try clear hx107_0
 try clear hx108_0
 try clear hx21_0
 try clear p107
 try clear p108
 try clear p2
 try clear p21
 try clear q107
 try clear q108
 try clear q21
 obtain ⟨x10_2, x40_2, x107000_2, u107000, rfl, HA, HK2, HO_10, HO_107000, BK101, BK102, BK106, HB⟩ := hrel
 obtain _ | k2 := gk
 ·exact absurd HA.out (by simp [spec_l03Places.l1])
 have H := HA.out
 clear HA
 simp only [spec_l03Places.l1] at H
 by_cases c26 : x40_2 < (l1.length : Int)
 rotate_left
 ·rw [if_neg c26] at H
  have c26b0 : decide (x40_2 < (l1.length : Int)) = false := decide_eq_false c26
  clear c26
  simp only [Option.some.injEq, Prod.mk.injEq] at H
  obtain ⟨rfl, rfl⟩ := H
  have hnb57 := NB106_101.out
  have hnc57 := NB101_106.out
  have hnb58 := NB106_102.out
  have hnc58 := NB102_106.out
  have hcz59_0 := hz_ BK106
  have hfz59_0 := blk_frozen BK106.out 0
  obtain ⟨Ao60, co60, eo60⟩ := Kd.R_slice HO_107000.out
  subst eo60
  have hnb61 := NB102_101.out
  have hnc61 := NB101_102.out
  have hcz62_0 := hz_ BK102
  have hfz62_0 := blk_frozen BK102.out 0
  go_wp2
  refine bodyPost_ret (results_ct rfl _ _ gb102 28 #[.slice Ao60 x107000_2.length co60] (0, 0) _ rfl (by (with_reducible repeat (first | refine blk_drewN ?_ _ | refine blk_drew ?_ | refine blk_alloc ?_ _)); refine blk_put (cs := #[.slice none 0 0]) ?_ 0 _ rfl; (with_reducible repeat (first | refine blk_drewN ?_ _ | refine blk_drew ?_ | refine blk_alloc ?_ _)); exact BK102.out) Try.underlying28 rfl (by kernel_rfl)) rfl ?_
  exact ⟨_, _, t5_, by (with_reducible repeat (first | apply Kd.R_alloc | apply Kd.R_drewN | apply Kd.R_drew)); exact Kd.R_mono (Kd.R_far (p := ⟨gb102, 0, none⟩) (Kd.R_types HO_107000.out BK102.out (by decide)) (fun _ hk => hk.2) (.slice Ao60 x107000_2.length co60)) (fun _ hk => hk.1), by (with_reducible repeat (first | apply Kd.R_alloc | apply Kd.R_drewN | apply Kd.R_drew)); exact Kd.R_mono (Kd.R_far (p := ⟨gb102, 0, none⟩) (Kd.R_types HO_10.out BK102.out (by decide)) (fun _ hk => hk.2) (.slice Ao60 x107000_2.length co60)) (fun _ hk => hk.1), gb_ HB.out⟩
 rw [if_pos c26] at H
 have c26b0 : decide (x40_2 < (l1.length : Int)) = true := decide_eq_true c26
 clear c26
 by_cases c27 : 0 ≤ x40_2
 rotate_left
 ·rw [if_neg c27] at H
  exact absurd H (by simp)
 rw [if_pos c27] at H
 have c27b0 : decide (0 ≤ x40_2) = true := decide_eq_true c27
 clear c27
 by_cases c28 : x40_2 < (l1.length : Int)
 rotate_left
 ·rw [if_neg c28] at H
  exact absurd H (by simp)
 rw [if_pos c28] at H
 have c28b0 : decide (x40_2 < (l1.length : Int)) = true := decide_eq_true c28
 clear c28
 replace H := Option.bind_eq_some_iff.mp H
 obtain ⟨t114, A290, H⟩ := H
 replace H : (if 0 ≤ (l2.length : Int) then (if ((l2.length : Int) : Int).toNat ≤ 35184372088832 then (spec_l03Places.l2 k2 l1 l2 x10_2 t114 (List.replicate ((l2.length : Int) : Int).toNat 0) (l1.length : Int) x40_2 (l2.length : Int) 0 l0_0 x107000_2) else (none)) else (none)) = some (r1, r2) := H
 have A29 := Aside0.mk A290
 clear A290
 by_cases c30 : 0 ≤ (l2.length : Int)
 rotate_left
 ·rw [if_neg c30] at H
  exact absurd H (by simp)
 rw [if_pos c30] at H
 have c30b0 := eq_true c30
 have c30b1 : decide (0 ≤ (l2.length : Int)) = true := decide_eq_true c30
 clear c30
 by_cases c31 : ((l2.length : Int) : Int).toNat ≤ 35184372088832
 rotate_left
 ·rw [if_neg c31] at H
  exact absurd H (by simp)
 rw [if_pos c31] at H
 have c31b0 := eq_true c31
 have c31b1 : decide (((l2.length : Int) : Int).toNat ≤ 35184372088832) = true := decide_eq_true c31
 clear c31
 obtain ⟨y117, hy117⟩ : ∃ y_ : List Int, y_ = (List.replicate ((l2.length : Int) : Int).toNat 0) := ⟨_, rfl⟩
 replace H : (spec_l03Places.l2 k2 l1 l2 x10_2 t114 y117 (l1.length : Int) x40_2 (l2.length : Int) 0 l0_0 x107000_2) = some (r1, r2) := y_ H
 have Ny117 := Aside0.mk hy117
 clear hy117
 have H' := Aside0.mk H
 clear H
 try go_wp2
 replace HO_10 := Aside0.mk (Kd.R_drew HO_10.out)
 replace HO_107000 := Aside0.mk (Kd.R_drew HO_107000.out)
 replace BK101 := Aside0.mk (blk_drew BK101.out)
 replace BK102 := Aside0.mk (blk_drew BK102.out)
 replace BK106 := Aside0.mk (blk_drew BK106.out)
 replace HB := Aside0.mk (below_drew1 HB.out)
 have p113 : 0 ≤ (x40_2 : Int) := of_decide_eq_true t6_
 have q113 : x40_2 < (l1.length : Int) := of_decide_eq_true t6_
 obtain ⟨ad113, e113, hx113_0⟩ := Kd.at_int HR1.out x40_2 p113 q113
 have hw113_0 := hx113_0
 cases e113
 replace hx113_0 := (HB.out.cell (World.block_lt_of_cell? _ _ hx113_0)).trans hx113_0
 replace p113 := eq_true p113
 replace q113 := eq_true q113
 refine start_ (n := 11) (S := fun w' => w'.cell? ⟨gb101, 0, none⟩ = some (.slice A0_0 l0_0.length c0_0) ∧ w'.cell? (ad113.add (x40_2).toNat) = some (.int .i64 (rd l1 x40_2))) (ds := []) #[false, false, false, false, false, false, false, false, false, false, false] (by kernel_rfl) rfl rfl ⟨(blk_cell BK101.out 0).trans rfl, ((HB.out.cell (World.block_lt_of_cell? _ _ hw113_0)).trans hw113_0)⟩ (fun hHeld => ?_); refine with_tabW spec_l03Places.tab11 spec_l03Places.bits11 (fun HT_ HW_ => ?_)
 generalize wr.drew = w32 at HO_10 HO_107000 BK101 BK102 BK106 HB hx113_0 hHeld ⊢
 refine pu_ (i := 1) (N := some 44) (v := ?_) (a' := ?_) #[false, true, false, false, false, false, false, false, false, false, false] rfl rfl HT_ (Or.inl ⟨by rfl, ?_⟩) ?_ ?_
 rotate_left
 ·exact t7_
 rotate_left
 ·exact t4_
 refine pu_ (i := 2) (N := some 45) (v := ?_) (a' := ?_) #[false, true, true, false, false, false, false, false, false, false, false] rfl rfl HT_ (Or.inl ⟨by rfl, ?_⟩) ?_ ?_
 rotate_left
 ·exact t7_
 rotate_left
 ·exact t4_
 refine pu_ (i := 3) (N := some 46) (v := ?_) (a' := ?_) #[false, true, true, true, false, false, false, false, false, false, false] rfl rfl HT_ (Or.inl ⟨by rfl, ?_⟩) ?_ ?_
 rotate_left
 ·exact t7_
 rotate_left
 ·exact t4_
 refine pu_ (i := 6) (N := some 49) (v := ?_) (a' := ?_) #[false, true, true, true, false, false, true, false, false, false, false] rfl rfl HT_ (Or.inl ⟨by rfl, ?_⟩) ?_ ?_
 rotate_left
 ·exact t7_
 rotate_left
 ·exact t4_
 refine pu_ (i := 7) (N := some 50) (v := ?_) (a' := ?_) #[false, true, true, true, false, false, true, true, false, false, false] rfl rfl HT_ (Or.inl ⟨by rfl, ?_⟩) ?_ ?_
 rotate_left
 ·exact t7_
 rotate_left
 ·exact t4_
 refine tk_ (i := 0) (N := some 43) (v := ?_) (a' := ?_) #[true, true, true, true, false, false, true, true, false, false, false] rfl rfl HT_ HW_ (Or.inl ⟨by rfl, ?_⟩) hHeld ?_ ?_
 rotate_left
 ·rintro w' ⟨s0, s1⟩
  go_simp
  with_reducible rfl
 rotate_left
 ·exact t4_
 refine tk_ (i := 4) (N := some 47) (v := ?_) (a' := ?_) #[true, true, true, true, true, false, true, true, false, false, false] rfl rfl HT_ HW_ (Or.inl ⟨by rfl, ?_⟩) hHeld ?_ ?_
 rotate_left
 ·rintro w' ⟨s0, s1⟩
  go_simp
  with_reducible rfl
 rotate_left
 ·exact t4_
 refine join_ (σ := Value × Value) 1 #[true, true, true, true, true, true, true, true, true, true, false] (fun s_ => [(48, s_.1), (51, s_.2), (12, s_.1)]) (fun s_ w' => (w'.cell? ⟨gb101, 0, none⟩ = some (.slice A0_0 l0_0.length c0_0) ∧ w'.cell? (ad113.add (x40_2).toNat) = some (.int .i64 (rd l1 x40_2))) ∧ (Kd.R (Kd.int .i64) 2 w' w.heap.size (fun k_ => OB_ k_ s_.2 ∧ OB_ k_ u10 ∧ OB_ k_ u107000) s_.1 t114) ∧ (Kd.R (Kd.int .i64) 2 w' w.heap.size (fun k_ => OB_ k_ s_.1 ∧ OB_ k_ u10 ∧ OB_ k_ u107000) s_.2 y117) ∧ (Kd.R (Kd.int .i64) 2 w' w.heap.size (fun k_ => OB_ k_ s_.1 ∧ OB_ k_ s_.2 ∧ OB_ k_ u107000) u10 x10_2) ∧ (Kd.R (Kd.int .i64) 2 w' w.heap.size (fun k_ => OB_ k_ s_.1 ∧ OB_ k_ s_.2 ∧ OB_ k_ u10) u107000 x107000_2) ∧ (w'.heap[gb101]? = some (.cells #[.slice A0_0 l0_0.length c0_0] 28 (0, 0))) ∧ (w'.heap[gb102]? = some (.cells #[.slice none 0 0] 28 (0, 0))) ∧ (w'.heap[gb106]? = some (.cells #[u107000] 28 (0, 0))) ∧ (Below w.heap.size w w')) ?_ ?_
 rotate_left
 ·intro hCont
  refine two_ (i := 5) (j := 8) (Ni := some 48) (Nj := some 51) #[true, true, true, true, true, true, true, true, false, false, false] #[true, true, true, true, true, false, true, true, true, false, false] rfl rfl rfl rfl (two_of HT_.out (by kernel_rfl)) (by decide) (by decide) (fun K hK => ?_) (fun K hK => ?_)
  ·skip
   refine goes_ Try.func47 (by kernel_rfl) rfl #[.agg #[.slice A0_0 l0_0.length c0_0], .int .i64 (rd l1 x40_2)] (by rfl) rfl rfl t1_ ?_
   with_reducible refine (spec_l01Digits.calls k2 _ _ l0_0 (rd l1 x40_2) t114 _ ?side1 ?side2 A29.out).mono ?_
   (case side1 => exact c2_ HR0_0 HB)
   (case side2 => exact HC0_0.out)
   rintro e w33 ⟨v115, rfl, ho0, hb⟩
   refine ⟨_, rfl, ?_⟩
   have HO116 := Aside0.mk (Kd.R_lower (Kd.R_new' (Kd.R_new' ho0 (Kd.R_lt (rb_ HO_10.out))) (Kd.R_lt (rb_ HO_107000.out))) (below_size (gb_ HB.out)))
   replace HO_10 := a5_ HO_10 ho0 hb
   replace HO_107000 := a5_ HO_107000 ho0 hb
   replace BK101 := a2_ BK101 hb
   replace BK102 := a2_ BK102 hb
   replace BK106 := a2_ BK106 hb
   replace HB := b1_ HB hb
   (try clear hb)
   (try clear hb2)
   (try clear hk)
   (try clear hi)
   (try clear ho0)
   refine hK.out _ _ ⟨(blk_cell BK101.out 0).trans rfl, ((HB.out.cell (World.block_lt_of_cell? _ _ hw113_0)).trans hw113_0)⟩ (fun hHeld => ?_)
   clear hK K
   refine norm_ (a' := ?_) ?_ ?_
   rotate_left
   ·show Act.put _ (some 48) _ = _
    simp only [Act.put, List.setIfInBounds_toArray, List.set_cons_zero, List.set_cons_succ, i64_w, i32_w]
    rfl
   refine pu_ (i := 9) (N := some 12) (v := ?_) (a' := ?_) #[true, true, true, true, true, true, true, true, false, true, false] rfl rfl HT_ (Or.inl ⟨by rfl, ?_⟩) ?_ ?_
   rotate_left
   ·exact t7_
   rotate_left
   ·exact t4_
   refine on_ (i := 8) (N := some 51) #[true, true, true, true, true, true, true, true, true, true, false] rfl rfl HT_ (fun K hK => ?_)
   refine Kd.R_make_step (Kd.int .i64) _ 2 (by rfl) (N := 51) rfl 22 _ _ rfl (l2.length : Int) rfl rfl Try.underlying22 (.int .i64 0) 8 info2 rfl (by decide) (by omega) 0 (ok := fun _ => True) (okp := fun _ => True) rfl (fun _ hk => hk) trivial (of_decide_eq_true t6_) (Nat.le_trans (Nat.mul_le_mul_right _ (of_decide_eq_true t6_ : (l2.length : Int).toNat ≤ 35184372088832)) (by omega)) (Below.refl _ _) (Nat.le_refl _) ?_
   intro v118 w34 ho35 hb hg_ hnew_
   clear hg_ hnew_
   (first | rw [← Ny117.out] at ho35 | (simp only [Int.reduceToNat] at ho35; rw [← Ny117.out] at ho35))
   have n0_ := a5_ HO_10 ho35 hb
   have n1_ := a5_ HO_107000 ho35 hb
   have n2_ := a5_ HO116 ho35 hb
   have n3_ := Aside0.mk (Kd.R_lower (Kd.R_new' (Kd.R_new' (Kd.R_new' ho35 (Kd.R_lt (rb_ HO_10.out))) (Kd.R_lt (rb_ HO_107000.out))) (Kd.R_lt (rb_ HO116.out))) (below_size (gb_ HB.out)))
   have n4_ := a2_ BK101 hb
   have n5_ := a2_ BK102 hb
   have n6_ := a2_ BK106 hb
   have n7_ := b1_ HB hb
   clear HO_10 HO_107000 HO116 BK101 BK102 BK106 HB
   have HO_10 := n0_
   have HO_107000 := n1_
   have HO116 := n2_
   have HO119 := n3_
   have BK101 := n4_
   have BK102 := n5_
   have BK106 := n6_
   have HB := n7_
   clear n0_ n1_ n2_ n3_ n4_ n5_ n6_ n7_ hb ho35
   refine hK.out _ _ ⟨(blk_cell BK101.out 0).trans rfl, ((HB.out.cell (World.block_lt_of_cell? _ _ hw113_0)).trans hw113_0)⟩ (fun hHeld => ?_)
   clear hK K
   refine norm_ (a' := ?_) ?_ ?_
   rotate_left
   ·show Act.put _ (some 51) _ = _
    simp only [Act.put, List.setIfInBounds_toArray, List.set_cons_zero, List.set_cons_succ, i64_w, i32_w]
    rfl
   exact norm_ (by simp only [putAll, Act.put, List.setIfInBounds_toArray, List.set_cons_zero, List.set_cons_succ]) (hCont (v115, v118) _ ⟨hHeld, (rb_ (Kd.R_mono HO116.out (fun _ hk => ⟨hk.2, ⟨hk.1.1.2, hk.1.2⟩⟩))), (rb_ (Kd.R_mono HO119.out (fun _ hk => ⟨hk.2, ⟨hk.1.1.2, hk.1.2⟩⟩))), (rb_ (Kd.R_mono HO_10.out (fun _ hk => ⟨hk.1.2, ⟨hk.2, hk.1.1⟩⟩))), (rb_ (Kd.R_mono HO_107000.out (fun _ hk => ⟨hk.1.2, ⟨hk.2, hk.1.1⟩⟩))), (bb_ BK101.out), (bb_ BK102.out), (bb_ BK106.out), (gb_ HB.out)⟩)
  ·skip
   refine Kd.R_make_step (Kd.int .i64) _ 2 (by rfl) (N := 51) rfl 22 _ _ rfl (l2.length : Int) rfl rfl Try.underlying22 (.int .i64 0) 8 info2 rfl (by decide) (by omega) 0 (ok := fun _ => True) (okp := fun _ => True) rfl (fun _ hk => hk) trivial (of_decide_eq_true t6_) (Nat.le_trans (Nat.mul_le_mul_right _ (of_decide_eq_true t6_ : (l2.length : Int).toNat ≤ 35184372088832)) (by omega)) (Below.refl _ _) (Nat.le_refl _) ?_
   intro v118 w33 ho34 hb hg_ hnew_
   clear hg_ hnew_
   (first | rw [← Ny117.out] at ho34 | (simp only [Int.reduceToNat] at ho34; rw [← Ny117.out] at ho34))
   have n0_ := a5_ HO_10 ho34 hb
   have n1_ := a5_ HO_107000 ho34 hb
   have n2_ := Aside0.mk (Kd.R_lower (Kd.R_new' (Kd.R_new' ho34 (Kd.R_lt (rb_ HO_10.out))) (Kd.R_lt (rb_ HO_107000.out))) (below_size (gb_ HB.out)))
   have n3_ := a2_ BK101 hb
   have n4_ := a2_ BK102 hb
   have n5_ := a2_ BK106 hb
   have n6_ := b1_ HB hb
   clear HO_10 HO_107000 BK101 BK102 BK106 HB
   have HO_10 := n0_
   have HO_107000 := n1_
   have HO119 := n2_
   have BK101 := n3_
   have BK102 := n4_
   have BK106 := n5_
   have HB := n6_
   clear n0_ n1_ n2_ n3_ n4_ n5_ n6_ hb ho34
   refine hK.out _ _ ⟨(blk_cell BK101.out 0).trans rfl, ((HB.out.cell (World.block_lt_of_cell? _ _ hw113_0)).trans hw113_0)⟩ (fun hHeld => ?_)
   clear hK K
   refine norm_ (a' := ?_) ?_ ?_
   rotate_left
   ·show Act.put _ (some 51) _ = _
    simp only [Act.put, List.setIfInBounds_toArray, List.set_cons_zero, List.set_cons_succ, i64_w, i32_w]
    rfl
   refine on_ (i := 5) (N := some 48) #[true, true, true, true, true, true, true, true, true, false, false] rfl rfl HT_ (fun K hK => ?_)
   refine goes_ Try.func47 (by kernel_rfl) rfl #[.agg #[.slice A0_0 l0_0.length c0_0], .int .i64 (rd l1 x40_2)] (by rfl) rfl rfl t1_ ?_
   with_reducible refine (spec_l01Digits.calls k2 _ _ l0_0 (rd l1 x40_2) t114 _ ?side1 ?side2 A29.out).mono ?_
   (case side1 => exact c2_ HR0_0 HB)
   (case side2 => exact HC0_0.out)
   rintro e w35 ⟨v115, rfl, ho0, hb⟩
   refine ⟨_, rfl, ?_⟩
   have HO116 := Aside0.mk (Kd.R_lower (Kd.R_new' (Kd.R_new' (Kd.R_new' ho0 (Kd.R_lt (rb_ HO_10.out))) (Kd.R_lt (rb_ HO_107000.out))) (Kd.R_lt (rb_ HO119.out))) (below_size (gb_ HB.out)))
   replace HO_10 := a5_ HO_10 ho0 hb
   replace HO_107000 := a5_ HO_107000 ho0 hb
   replace HO119 := a5_ HO119 ho0 hb
   replace BK101 := a2_ BK101 hb
   replace BK102 := a2_ BK102 hb
   replace BK106 := a2_ BK106 hb
   replace HB := b1_ HB hb
   (try clear hb)
   (try clear hb2)
   (try clear hk)
   (try clear hi)
   (try clear ho0)
   refine hK.out _ _ ⟨(blk_cell BK101.out 0).trans rfl, ((HB.out.cell (World.block_lt_of_cell? _ _ hw113_0)).trans hw113_0)⟩ (fun hHeld => ?_)
   clear hK K
   refine norm_ (a' := ?_) ?_ ?_
   rotate_left
   ·show Act.put _ (some 48) _ = _
    simp only [Act.put, List.setIfInBounds_toArray, List.set_cons_zero, List.set_cons_succ, i64_w, i32_w]
    rfl
   refine pu_ (i := 9) (N := some 12) (v := ?_) (a' := ?_) #[true, true, true, true, true, true, true, true, true, true, false] rfl rfl HT_ (Or.inl ⟨by rfl, ?_⟩) ?_ ?_
   rotate_left
   ·exact t7_
   rotate_left
   ·exact t4_
   exact norm_ (by simp only [putAll, Act.put, List.setIfInBounds_toArray, List.set_cons_zero, List.set_cons_succ]) (hCont (v115, v118) _ ⟨hHeld, (rb_ (Kd.R_mono HO116.out (fun _ hk => ⟨hk.2, ⟨hk.1.1.2, hk.1.2⟩⟩))), (rb_ (Kd.R_mono HO119.out (fun _ hk => ⟨hk.2, ⟨hk.1.1.2, hk.1.2⟩⟩))), (rb_ (Kd.R_mono HO_10.out (fun _ hk => ⟨hk.2, ⟨hk.1.2, hk.1.1⟩⟩))), (rb_ (Kd.R_mono HO_107000.out (fun _ hk => ⟨hk.2, ⟨hk.1.2, hk.1.1⟩⟩))), (bb_ BK101.out), (bb_ BK102.out), (bb_ BK106.out), (gb_ HB.out)⟩)
 rintro ⟨v115, v118⟩ w36 ⟨hS_, h0_, h1_, h2_, h3_, h4_, h5_, h6_, h7_⟩
 have n0_ : Aside0 (Kd.R (Kd.int .i64) 2 w36 w.heap.size (fun k_ => OB_ k_ v118 ∧ OB_ k_ u10 ∧ OB_ k_ u107000) v115 t114) := ⟨h0_⟩
 have n1_ : Aside0 (Kd.R (Kd.int .i64) 2 w36 w.heap.size (fun k_ => OB_ k_ v115 ∧ OB_ k_ u10 ∧ OB_ k_ u107000) v118 y117) := ⟨h1_⟩
 have n2_ : Aside0 (Kd.R (Kd.int .i64) 2 w36 w.heap.size (fun k_ => OB_ k_ v115 ∧ OB_ k_ v118 ∧ OB_ k_ u107000) u10 x10_2) := ⟨h2_⟩
 have n3_ : Aside0 (Kd.R (Kd.int .i64) 2 w36 w.heap.size (fun k_ => OB_ k_ v115 ∧ OB_ k_ v118 ∧ OB_ k_ u10) u107000 x107000_2) := ⟨h3_⟩
 have n4_ : Aside0 (w36.heap[gb101]? = some (.cells #[.slice A0_0 l0_0.length c0_0] 28 (0, 0))) := ⟨h4_⟩
 have n5_ : Aside0 (w36.heap[gb102]? = some (.cells #[.slice none 0 0] 28 (0, 0))) := ⟨h5_⟩
 have n6_ : Aside0 (w36.heap[gb106]? = some (.cells #[u107000] 28 (0, 0))) := ⟨h6_⟩
 have n7_ : Aside0 (Below w.heap.size w w36) := ⟨h7_⟩
 clear HO_10 HO_107000 BK101 BK102 BK106 HB h0_ h1_ h2_ h3_ h4_ h5_ h6_ h7_
 have HO116 := n0_
 have HO119 := n1_
 have HO_10 := n2_
 have HO_107000 := n3_
 have BK101 := n4_
 have BK102 := n5_
 have BK106 := n6_
 have HB := n7_
 clear n0_ n1_ n2_ n3_ n4_ n5_ n6_ n7_
 have hHeld : w36.cell? ⟨gb101, 0, none⟩ = some (.slice A0_0 l0_0.length c0_0) ∧ w36.cell? (ad113.add (x40_2).toNat) = some (.int .i64 (rd l1 x40_2)) := hS_
 refine norm_ (a' := ?_) ?_ ?_
 rotate_left
 ·simp only [putAll, Act.put, List.setIfInBounds_toArray, List.set_cons_zero, List.set_cons_succ]
  rfl
 refine pu_ (i := 10) (N := some 13) (v := ?_) (a' := ?_) #[true, true, true, true, true, true, true, true, true, true, true] rfl rfl HT_ (Or.inl ⟨by rfl, ?_⟩) ?_ ?_
 rotate_left
 ·exact t7_
 rotate_left
 ·exact t4_
 refine done_ (done_of HT_.out (by kernel_rfl)) ?_
 try go_wp2
 go_loopg [54] k2 (fun kq v54 w' => ∃ (x13_3 : List Int) (x54_3 : Int), v54 = .int .i64 x54_3 ∧ Aside0 (spec_l03Places.l2 kq l1 l2 x10_2 t114 x13_3 (l1.length : Int) x40_2 (l2.length : Int) x54_3 l0_0 x107000_2 = some (r1, r2)) ∧ Aside0 (kq ≤ k2) ∧ Aside0 (Kd.R (Kd.int .i64) 2 w' w.heap.size (fun k_ => OB_ k_ v115 ∧ OB_ k_ v118 ∧ OB_ k_ u107000) u10 x10_2) ∧ Aside0 (Kd.R (Kd.int .i64) 2 w' w.heap.size (fun k_ => OB_ k_ u10 ∧ OB_ k_ v118 ∧ OB_ k_ u107000) v115 t114) ∧ Aside0 (Kd.R (Kd.int .i64) 2 w' w.heap.size (fun k_ => OB_ k_ u10 ∧ OB_ k_ v115 ∧ OB_ k_ u107000) v118 x13_3) ∧ Aside0 (Kd.R (Kd.int .i64) 2 w' w.heap.size (fun k_ => OB_ k_ u10 ∧ OB_ k_ v115 ∧ OB_ k_ v118) u107000 x107000_2) ∧ Aside0 (w'.heap[gb101]? = some (.cells #[(.slice A0_0 l0_0.length c0_0)] 28 (0, 0))) ∧ Aside0 (w'.heap[gb102]? = some (.cells #[(.slice none 0 0)] 28 (0, 0))) ∧ Aside0 (w'.heap[gb106]? = some (.cells #[u107000] 28 (0, 0))) ∧ Aside0 (Below w.heap.size w w'))
 case atStart => exact ⟨(y117), (0), t2_, H', ⟨Nat.le_refl _⟩, ⟨rb_ HO_10.out⟩, ⟨by (with_reducible repeat (first | apply Kd.R_alloc | apply Kd.R_drewN | apply Kd.R_drew)); exact Kd.R_mono HO116.out (fun _ hk => ⟨hk.2.1, ⟨hk.1, hk.2.2⟩⟩)⟩, ⟨by (with_reducible repeat (first | apply Kd.R_alloc | apply Kd.R_drewN | apply Kd.R_drew)); exact Kd.R_mono HO119.out (fun _ hk => ⟨hk.2.1, ⟨hk.1, hk.2.2⟩⟩)⟩, ⟨by (with_reducible repeat (first | apply Kd.R_alloc | apply Kd.R_drewN | apply Kd.R_drew)); exact Kd.R_mono HO_107000.out (fun _ hk => ⟨hk.2.2, ⟨hk.1, hk.2.1⟩⟩)⟩, ⟨bb_ BK101.out⟩, ⟨bb_ BK102.out⟩, ⟨bb_ BK106.out⟩, ⟨gb_ HB.out⟩⟩
 clear H'
 try clear c1
 try clear p1
 try clear q1
 try clear hx1
 try clear c2
 try clear p2
 try clear q2
 try clear hx2
 try clear c3
 try clear c4
 try clear c4b0
 try clear c4b1
 try clear c5
 try clear c5b0
 try clear c5b1
 try clear p6
 try clear p10
 try clear q10
 try clear hx10
 try clear p11
 try clear q11
 try clear hx11
 try clear c12
 try clear c13
 try clear c15
 try clear c15b0
 try clear c16
 try clear c16b0
 try clear c17
 try clear c17b0
 try clear c18
 try clear c18b0
 try clear c19
 try clear c19b0
 try clear c20
 try clear c20b0
 try clear p21
 try clear q21
 try clear hx21
 try clear hf21
 try clear c26
 try clear c26b0
 try clear c27
 try clear c27b0
 try clear c28
 try clear c28b0
 try clear c30
 try clear c30b0
 try clear c30b1
 try clear c31
 try clear c31b0
 try clear c31b1
 try clear hcz14_0
 try clear hfz14_0
 try clear hx107_0
 try clear hx108_0
 try clear hx113_0
 try clear hx21_0
 try clear p1
 try clear p10
 try clear p107
 try clear p108
 try clear p113
 try clear p2
 try clear p21
 try clear p6
 try clear q1
 try clear q10
 try clear q107
 try clear q108
 try clear q113
 try clear q2
 try clear q21
 obtain ⟨x13_3, x54_3, rfl, HA, HK3, HO_10, HO_12, HO_13, HO_107000, BK101, BK102, BK106, HB⟩ := hrel
 obtain _ | k3 := gk
 ·exact absurd HA.out (by simp [spec_l03Places.l2])
 have H := HA.out
 clear HA
 simp only [spec_l03Places.l2] at H
 by_cases c37 : x54_3 < (l2.length : Int)
 rotate_left
 ·rw [if_neg c37] at H
  have c37b0 : decide (x54_3 < (l2.length : Int)) = false := decide_eq_false c37
  clear c37
  replace H := Option.bind_eq_some_iff.mp H
  obtain ⟨t123, A470, H⟩ := H
  replace H : ((spec_l01Put.f k3 x10_2 t123).bind fun t124 => (spec_l03Places.l1 k3 l1 l2 t124 (l1.length : Int) (wrap64 (x40_2 + 1)) l0_0 x107000_2)) = some (r1, r2) := H
  have A47 := Aside0.mk A470
  clear A470
  replace H := Option.bind_eq_some_iff.mp H
  obtain ⟨t124, A480, H⟩ := H
  replace H : (spec_l03Places.l1 k3 l1 l2 t124 (l1.length : Int) (wrap64 (x40_2 + 1)) l0_0 x107000_2) = some (r1, r2) := H
  have A48 := Aside0.mk A480
  clear A480
  have H' := Aside0.mk H
  clear H
  have hnb49 := NB106_101.out
  have hnc49 := NB101_106.out
  have hnb50 := NB106_102.out
  have hnc50 := NB102_106.out
  have hcz51_0 := hz_ BK106
  have hfz51_0 := blk_frozen BK106.out 0
  obtain ⟨Ao52, co52, eo52⟩ := Kd.R_slice HO_107000.out
  subst eo52
  obtain ⟨Ao53, co53, eo53⟩ := Kd.R_slice HO_13.out
  subst eo53
  go_wp2_with (first | ((with_reducible refine gate_callee (f := 49) rfl ?_); refine gl_ (some 71) rfl rfl Try.func49 #[.agg #[.slice Ao52 x107000_2.length co52], .slice Ao53 x13_3.length co53] rfl ?_; (with_reducible refine (spec_l01Word.calls k3 _ _ x107000_2 _ _ x13_3 t123 _ ?side1 ?side2 ?side3 ?side4 A47.out).mono ?_); (case side1 => exact c1_ HO_107000); (case side2 => exact (Kd.R_reads' HO_107000.out).2.1); (case side3 => exact c1_ HO_13); (case side4 => exact (Kd.R_reads' HO_13.out).2.1); rintro e w54 ⟨rfl, hb⟩; refine ⟨_, rfl, ?_⟩; replace HO_10 := a1_ HO_10 hb; replace HO_12 := a1_ HO_12 hb; replace HO_13 := a1_ HO_13 hb; replace HO_107000 := a1_ HO_107000 hb; replace BK101 := a2_ BK101 hb; replace BK102 := a2_ BK102 hb; replace BK106 := a2_ BK106 hb; replace HB := b1_ HB hb; (try clear hb); (try clear hb2); (try clear hk); (try clear hi); obtain ⟨Ao55, co55, eo55⟩ := Kd.R_slice HO_10.out; subst eo55) | ((with_reducible refine gate_callee (f := 48) rfl ?_); refine gl_ (some 72) rfl rfl Try.func48 #[.slice Ao55 x10_2.length co55, .int .i64 t123] rfl ?_; (with_reducible refine (spec_l01Put.calls k3 (fun k_ => some k_ = (.slice Ao55 x10_2.length co55 : Value).ownBlock) (.slice Ao55 x10_2.length co55) x10_2 t123 t124 w _ ?side1 ?side2 A48.out).mono ?_); (case side1 => exact gb_ HB.out); (case side2 => exact Kd.R_tight rfl HO_10.out); rintro e w56 ⟨v125, rfl, ho0, hb, hkp⟩; refine ⟨_, rfl, ?_⟩; have n0_ := Aside0.mk (Kd.R_mono (ok' := fun k_ => OB_ k_ (.slice Ao53 x13_3.length co53) ∧ OB_ k_ (.slice Ao52 x107000_2.length co52) ∧ OB_ k_ v125) (Kd.R_keptB (HO_12.out) hkp (fun k_ hk_ hs_ => (hk_.1) hs_)) (fun k_ hk_ => ⟨hk_.1.2.1, hk_.1.2.2, fun e_ => Or.elim (ho0.1 k_ e_.symm) (fun hs_ => hk_.2.1 hs_) (fun hn_ => Nat.not_le.2 hk_.2.2 hn_)⟩)); have n1_ := Aside0.mk (Kd.R_mono (ok' := fun k_ => OB_ k_ v115 ∧ OB_ k_ (.slice Ao52 x107000_2.length co52) ∧ OB_ k_ v125) (Kd.R_keptB (HO_13.out) hkp (fun k_ hk_ hs_ => (hk_.1) hs_)) (fun k_ hk_ => ⟨hk_.1.2.1, hk_.1.2.2, fun e_ => Or.elim (ho0.1 k_ e_.symm) (fun hs_ => hk_.2.1 hs_) (fun hn_ => Nat.not_le.2 hk_.2.2 hn_)⟩)); have n2_ := Aside0.mk (Kd.R_mono (ok' := fun k_ => OB_ k_ v115 ∧ OB_ k_ (.slice Ao53 x13_3.length co53) ∧ OB_ k_ v125) (Kd.R_keptB (HO_107000.out) hkp (fun k_ hk_ hs_ => (hk_.1) hs_)) (fun k_ hk_ => ⟨hk_.1.2.1, hk_.1.2.2, fun e_ => Or.elim (ho0.1 k_ e_.symm) (fun hs_ => hk_.2.1 hs_) (fun hn_ => Nat.not_le.2 hk_.2.2 hn_)⟩)); have n3_ := a7_ BK101 hkp HO_10; have n4_ := a7_ BK102 hkp HO_10; have n5_ := a7_ BK106 hkp HO_10; have n6_ := Aside0.mk (Kd.R_mono (ok' := fun k_ => OB_ k_ v115 ∧ OB_ k_ (.slice Ao53 x13_3.length co53) ∧ OB_ k_ (.slice Ao52 x107000_2.length co52)) ho0 (fun k_ hk_ => ⟨Or.elim hk_ (fun hs_ => fun e_ => (((HO_12.out).1 k_ e_.symm).1) hs_) (fun hn_ => (Kd.fresh' (Kd.R_lt (rb_ HO_12.out)) k_ hn_)), Or.elim hk_ (fun hs_ => fun e_ => (((HO_13.out).1 k_ e_.symm).1) hs_) (fun hn_ => (Kd.fresh' (Kd.R_lt (rb_ HO_13.out)) k_ hn_)), Or.elim hk_ (fun hs_ => fun e_ => (((HO_107000.out).1 k_ e_.symm).1) hs_) (fun hn_ => (Kd.fresh' (Kd.R_lt (rb_ HO_107000.out)) k_ hn_))⟩)); have n7_ := Aside0.mk (hb); clear HO_12 HO_13 HO_107000 BK101 BK102 BK106 HB HO_10; have HO_12 := n0_; have HO_13 := n1_; have HO_107000 := n2_; have BK101 := n3_; have BK102 := n4_; have BK106 := n5_; have HO126 := n6_; have HB := n7_; clear n0_ n1_ n2_ n3_ n4_ n5_ n6_ n7_; (try clear hb); (try clear hkp); (try clear ho0)))
  go_roundg k3
  case measure => have := HK1.out; have := HK2.out; have := HK3.out; omega
  case rel => exact ⟨(t124), (wrap64 (x40_2 + 1)), (x107000_2), (.slice Ao52 x107000_2.length co52), t2_, H', ⟨by have := HK1.out; have := HK2.out; have := HK3.out; omega⟩, ⟨by (with_reducible repeat (first | apply Kd.R_alloc | apply Kd.R_drewN | apply Kd.R_drew)); exact Kd.R_mono HO126.out (fun _ hk => hk.2.2)⟩, ⟨by (with_reducible repeat (first | apply Kd.R_alloc | apply Kd.R_drewN | apply Kd.R_drew)); exact Kd.R_mono HO_107000.out (fun _ hk => hk.2.2)⟩, ⟨bb_ BK101.out⟩, ⟨bb_ BK102.out⟩, ⟨bb_ BK106.out⟩, ⟨gb_ HB.out⟩⟩
 rw [if_pos c37] at H
 have c37b0 : decide (x54_3 < (l2.length : Int)) = true := decide_eq_true c37
 clear c37
 by_cases c38 : 0 ≤ x54_3
 rotate_left
 ·rw [if_neg c38] at H
  exact absurd H (by simp)
 rw [if_pos c38] at H
 have c38b0 : decide (0 ≤ x54_3) = true := decide_eq_true c38
 clear c38
 by_cases c39 : x54_3 < (l2.length : Int)
 rotate_left
 ·rw [if_neg c39] at H
  exact absurd H (by simp)
 rw [if_pos c39] at H
 have c39b0 : decide (x54_3 < (l2.length : Int)) = true := decide_eq_true c39
 clear c39
 by_cases c40 : x54_3 < (t114.length : Int)
 rotate_left
 ·rw [if_neg c40] at H
  exact absurd H (by simp)
 rw [if_pos c40] at H
 have c40b0 : decide (x54_3 < (t114.length : Int)) = true := decide_eq_true c40
 clear c40
 by_cases c41 : 0 ≤ (rd l2 x54_3)
 rotate_left
 ·rw [if_neg c41] at H
  exact absurd H (by simp)
 rw [if_pos c41] at H
 have c41b0 : decide (0 ≤ (rd l2 x54_3)) = true := decide_eq_true c41
 clear c41
 by_cases c42 : (rd l2 x54_3) < (x13_3.length : Int)
 rotate_left
 ·rw [if_neg c42] at H
  exact absurd H (by simp)
 rw [if_pos c42] at H
 have c42b0 : decide ((rd l2 x54_3) < (x13_3.length : Int)) = true := decide_eq_true c42
 clear c42
 obtain ⟨y122, hy122⟩ : ∃ y_ : List Int, y_ = (x13_3.set ((rd l2 x54_3) : Int).toNat (rd t114 x54_3)) := ⟨_, rfl⟩
 replace H : (spec_l03Places.l2 k3 l1 l2 x10_2 t114 y122 (l1.length : Int) x40_2 (l2.length : Int) (wrap64 (x54_3 + 1)) l0_0 x107000_2) = some (r1, r2) := y_ H
 have Ny122 := Aside0.mk hy122
 clear hy122
 have H' := Aside0.mk H
 clear H
 try go_wp2
 replace HO_10 := Aside0.mk (Kd.R_drew HO_10.out)
 replace HO_12 := Aside0.mk (Kd.R_drew HO_12.out)
 replace HO_13 := Aside0.mk (Kd.R_drew HO_13.out)
 replace HO_107000 := Aside0.mk (Kd.R_drew HO_107000.out)
 replace BK101 := Aside0.mk (blk_drew BK101.out)
 replace BK102 := Aside0.mk (blk_drew BK102.out)
 replace BK106 := Aside0.mk (blk_drew BK106.out)
 replace HB := Aside0.mk (below_drew1 HB.out)
 have p120 : 0 ≤ (x54_3 : Int) := of_decide_eq_true t6_
 have q120 : x54_3 < (l2.length : Int) := of_decide_eq_true t6_
 obtain ⟨ad120, e120, hx120_0⟩ := Kd.at_int HR2.out x54_3 p120 q120
 have hw120_0 := hx120_0
 cases e120
 replace hx120_0 := (HB.out.cell (World.block_lt_of_cell? _ _ hx120_0)).trans hx120_0
 replace p120 := eq_true p120
 replace q120 := eq_true q120
 obtain ⟨Ao45, co45, eo45⟩ := Kd.R_slice HO_12.out
 (first | subst eo45 | (injection eo45 with f1_ f2_ f3_; have f4_ := f1_.symm; have f5_ := f3_.symm; clear f1_ f2_ f3_; subst f4_; subst f5_))
 have p121 : 0 ≤ (x54_3 : Int) := of_decide_eq_true t6_
 have q121 : x54_3 < (t114.length : Int) := of_decide_eq_true t6_
 obtain ⟨ad121, e121, hx121_0⟩ := Kd.at_int (Kd.R_reads' HO_12.out).2.2 x54_3 p121 q121
 cases e121
 replace p121 := eq_true p121
 replace q121 := eq_true q121
 have p43 : 0 ≤ ((rd l2 x54_3) : Int) := of_decide_eq_true t6_
 have q43 : ((rd l2 x54_3) : Int) < ((x13_3.length : Int) : Int) := of_decide_eq_true t6_
 obtain ⟨go43, co43, eo43, gb43, gl43, cl43, HG43⟩ := Kd.R_form HO_13.out (by omega)
 (first | cases eo43 | (injection eo43 with ea_ en_ ec_; (first | subst ea_ | (injection ea_ with ea_; subst ea_)); subst ec_; clear en_))
 have GB43 := Aside0.mk gb43
 have GG43 := Aside0.mk HG43
 clear gb43 gl43 HG43
 obtain ⟨hx43_0, hf43_0⟩ := Kd.R_celln 0 HO_13.out ((rd l2 x54_3) : Int) p43 q43
 replace p43 := eq_true p43
 replace q43 := eq_true q43
 have HP46 := Kd.R_putn HO_13.out ((rd l2 x54_3) : Int) (rd t114 x54_3)
 rw [← Ny122.out] at HP46
 have HQ46 := Aside0.mk HP46
 clear HP46
 refine start_ (n := 11) (S := fun w' => w'.cell? (ad120.add (x54_3).toNat) = some (.int .i64 (rd l2 x54_3)) ∧ w'.cell? (ad121.add (x54_3).toNat) = some (.int .i64 (rd t114 x54_3))) (ds := [10]) #[false, false, false, false, false, false, false, false, false, false, false] (by kernel_rfl) rfl rfl ⟨((HB.out.cell (World.block_lt_of_cell? _ _ hw120_0)).trans hw120_0), hx121_0⟩ (fun hHeld => ?_); refine with_tabW spec_l03Places.tab15 spec_l03Places.bits15 (fun HT_ HW_ => ?_)
 generalize wr.drew = w44 at HO_10 HO_12 HO_13 HO_107000 BK101 BK102 BK106 HB GG43 HQ46 hf43_0 hx120_0 hx121_0 hx43_0 hHeld ⊢
 refine pu_ (i := 0) (N := some 57) (v := ?_) (a' := ?_) #[true, false, false, false, false, false, false, false, false, false, false] rfl rfl HT_ (Or.inl ⟨by rfl, ?_⟩) ?_ ?_
 rotate_left
 ·exact t7_
 rotate_left
 ·exact t4_
 refine pu_ (i := 1) (N := some 58) (v := ?_) (a' := ?_) #[true, true, false, false, false, false, false, false, false, false, false] rfl rfl HT_ (Or.inl ⟨by rfl, ?_⟩) ?_ ?_
 rotate_left
 ·exact t7_
 rotate_left
 ·exact t4_
 refine pu_ (i := 2) (N := some 59) (v := ?_) (a' := ?_) #[true, true, true, false, false, false, false, false, false, false, false] rfl rfl HT_ (Or.inl ⟨by rfl, ?_⟩) ?_ ?_
 rotate_left
 ·exact t7_
 rotate_left
 ·exact t4_
 refine pu_ (i := 3) (N := some 60) (v := ?_) (a' := ?_) #[true, true, true, true, false, false, false, false, false, false, false] rfl rfl HT_ (Or.inl ⟨by rfl, ?_⟩) ?_ ?_
 rotate_left
 ·exact t7_
 rotate_left
 ·exact t4_
 refine pu_ (i := 5) (N := some 62) (v := ?_) (a' := ?_) #[true, true, true, true, false, true, false, false, false, false, false] rfl rfl HT_ (Or.inl ⟨by rfl, ?_⟩) ?_ ?_
 rotate_left
 ·exact t7_
 rotate_left
 ·exact t4_
 refine pu_ (i := 6) (N := some 63) (v := ?_) (a' := ?_) #[true, true, true, true, false, true, true, false, false, false, false] rfl rfl HT_ (Or.inl ⟨by rfl, ?_⟩) ?_ ?_
 rotate_left
 ·exact t7_
 rotate_left
 ·exact t4_
 refine pu_ (i := 7) (N := some 64) (v := ?_) (a' := ?_) #[true, true, true, true, false, true, true, true, false, false, false] rfl rfl HT_ (Or.inl ⟨by rfl, ?_⟩) ?_ ?_
 rotate_left
 ·exact t7_
 rotate_left
 ·exact t4_
 refine tk_ (i := 4) (N := some 61) (v := ?_) (a' := ?_) #[true, true, true, true, true, true, true, true, false, false, false] rfl rfl HT_ HW_ (Or.inl ⟨by rfl, ?_⟩) hHeld ?_ ?_
 rotate_left
 ·rintro w' ⟨s0, s1⟩
  go_simp
  with_reducible rfl
 rotate_left
 ·exact t4_
 refine tk_ (i := 8) (N := some 65) (v := ?_) (a' := ?_) #[true, true, true, true, true, true, true, true, true, false, false] rfl rfl HT_ HW_ (Or.inl ⟨by rfl, ?_⟩) hHeld ?_ ?_
 rotate_left
 ·rintro w' ⟨s0, s1⟩
  go_simp
  with_reducible rfl
 rotate_left
 ·exact t4_
 refine pu_ (i := 9) (N := some 66) (v := ?_) (a' := ?_) #[true, true, true, true, true, true, true, true, true, true, false] rfl rfl HT_ (Or.inl ⟨by rfl, ?_⟩) ?_ ?_
 rotate_left
 ·exact t7_
 rotate_left
 ·exact t4_
 refine last_ (i := 10) (N := none) #[true, true, true, true, true, true, true, true, true, true, true] rfl rfl (one_of HT_.out (by kernel_rfl)) (by decide) (fun K hK => ?_)
 refine skip_ (w1 := ?_) (by rfl) rfl ?_ ?_
 rotate_left
 ·go_simp
  rfl
 refine hK.out _ _ ?_
 clear hK K
 refine done_ (done_of HT_.out (by kernel_rfl)) ?_
 try go_wp2
 go_roundg k3
 case measure => have := HK1.out; have := HK2.out; have := HK3.out; omega
 case rel => exact ⟨(y122), (wrap64 (x54_3 + 1)), t2_, H', ⟨by have := HK1.out; have := HK2.out; have := HK3.out; omega⟩, ⟨by (with_reducible repeat (first | apply Kd.R_alloc | apply Kd.R_drewN | apply Kd.R_drew)); exact Kd.R_mono (Kd.R_far (p := ⟨go43, ((rd l2 x54_3) : Int).toNat, none⟩) (Kd.R_mono HO_10.out (fun k_ hk => (⟨hk, fun e_ => hk.2.1 (by rw [e_]; rfl)⟩ : _ ∧ k_ ≠ go43))) (fun _ hk => hk.2) (.int .i64 (rd t114 x54_3))) (fun _ hk => ⟨hk.1.1, ⟨hk.1.2.1, hk.1.2.2⟩⟩)⟩, ⟨by (with_reducible repeat (first | apply Kd.R_alloc | apply Kd.R_drewN | apply Kd.R_drew)); exact Kd.R_mono (Kd.R_far (p := ⟨go43, ((rd l2 x54_3) : Int).toNat, none⟩) (Kd.R_mono HO_12.out (fun k_ hk => (⟨hk, fun e_ => hk.2.1 (by rw [e_]; rfl)⟩ : _ ∧ k_ ≠ go43))) (fun _ hk => hk.2) (.int .i64 (rd t114 x54_3))) (fun _ hk => ⟨hk.1.1, ⟨hk.1.2.1, hk.1.2.2⟩⟩)⟩, ⟨rb_ HQ46.out⟩, ⟨by (with_reducible repeat (first | apply Kd.R_alloc | apply Kd.R_drewN | apply Kd.R_drew)); exact Kd.R_mono (Kd.R_far (p := ⟨go43, ((rd l2 x54_3) : Int).toNat, none⟩) (Kd.R_mono HO_107000.out (fun k_ hk => (⟨hk, fun e_ => hk.2.2 (by rw [e_]; rfl)⟩ : _ ∧ k_ ≠ go43))) (fun _ hk => hk.2) (.int .i64 (rd t114 x54_3))) (fun _ hk => ⟨hk.1.1, ⟨hk.1.2.1, hk.1.2.2⟩⟩)⟩, ⟨by (with_reducible repeat (first | refine blk_drewN ?_ _ | refine blk_drew ?_ | refine blk_alloc ?_ _)); refine blk_far ?_ (by have h_ := Kd.R_ne HO_13.out BK101.out (by decide); intro e_; exact h_ (by rw [e_]; rfl)) _; (with_reducible repeat (first | refine blk_drewN ?_ _ | refine blk_drew ?_ | refine blk_alloc ?_ _)); exact BK101.out⟩, ⟨by (with_reducible repeat (first | refine blk_drewN ?_ _ | refine blk_drew ?_ | refine blk_alloc ?_ _)); refine blk_far ?_ (by have h_ := Kd.R_ne HO_13.out BK102.out (by decide); intro e_; exact h_ (by rw [e_]; rfl)) _; (with_reducible repeat (first | refine blk_drewN ?_ _ | refine blk_drew ?_ | refine blk_alloc ?_ _)); exact BK102.out⟩, ⟨by (with_reducible repeat (first | refine blk_drewN ?_ _ | refine blk_drew ?_ | refine blk_alloc ?_ _)); refine blk_far ?_ (by have h_ := Kd.R_ne HO_13.out BK106.out (by decide); intro e_; exact h_ (by rw [e_]; rfl)) _; (with_reducible repeat (first | refine blk_drewN ?_ _ | refine blk_drew ?_ | refine blk_alloc ?_ _)); exact BK106.out⟩, ⟨gb_ HB.out⟩⟩
def impl_formCode.l0 : Nat → List (List Int) → Int → Int → List Int → Option (Int)
  | 0, _, _, _, _ => none
  | k + 1, x8, x9, x10, x102000 => if x10 < x9 then (if 0 ≤ x10 then (if x10 < (x8.length : Int) then ((impl_codeCode.f k x102000 (rd_L1 x8 x10) ([] : List Int)).bind fun t103 => (if t103 = 0 then (impl_formCode.l0 k x8 x9 (wrap64 (x10 + 1)) x102000) else (some t103))) else (none)) else (none)) else ((impl_count.f k x102000).bind fun t104 => (if t104 > 81 then (some 3) else (some 0)))
def impl_formCode.f (k : Nat) (l0_0 : List Int) (l1 : List (List Int)) : Option (Int) := impl_formCode.l0 k l1 (l1.length : Int) 0 l0_0
set_option maxHeartbeats 8000000 in
set_option maxRecDepth 100000 in
theorem impl_formCode.calls (k : Nat) (A0_0 : Option Addr) (c0_0 : Nat) (l0_0 : List Int) (A1 : Option Addr) (c1 : Nat) (l1 : List (List Int)) (r : Int) (w : World) (hr0_0 : Kd.C (Kd.int .i64) w A0_0 l0_0.length l0_0) (hc0_0 : l0_0.length ≤ c0_0) (hr1 : Kd.C (Kd.slice 2 (Kd.int .i64)) w A1 l1.length l1) (hc1 : l1.length ≤ c1) (h : impl_formCode.f k l0_0 l1 = some r) :
  Calls Try.prog 23 #[.agg #[.slice A0_0 l0_0.length c0_0], .slice A1 l1.length c1] w fun e w' => e = .returned (.int .i64 r) ∧ Below w.heap.size w w' := by
 have hu28 := Try.underlying28
 have HR0_0 := Aside0.mk hr0_0
 have HC0_0 := Aside0.mk hc0_0
 clear hr0_0 hc0_0
 have HR1 := Aside0.mk hr1
 have HC1 := Aside0.mk hc1
 clear hr1 hc1
 have HB := Aside0.mk (Below.refl w.heap.size w)
 have H : (impl_formCode.l0 k l1 (l1.length : Int) 0 l0_0) = some r := h
 clear h
 have H' := Aside0.mk H
 clear H
 go_enter Try.func23, Try.ntmps23
 go_wp2_with (first | ((with_reducible refine gate_dst (N := 2) rfl ?_); refine bx_ (N := 2) (cs := #[.slice A0_0 l0_0.length c0_0]) (t := 28) rfl rfl ?_; intro gb101 hg w3 hbox hb; have n0_ := b1_ HB hb; have n1_ := Aside0.mk (hbox); have n2_ := ge_ hg HB; have n3_ := ge_ hg HB; clear HB; have HB := n0_; have BK101 := n1_; have GW101 := n2_; have GE101 := n3_; clear n0_ n1_ n2_ n3_ hb hbox hg))
 go_loopg [10] k (fun kq v10 w' => ∃ (x10_1 : Int), v10 = .int .i64 x10_1 ∧ Aside0 (impl_formCode.l0 kq l1 (l1.length : Int) x10_1 l0_0 = some r) ∧ Aside0 (kq ≤ k) ∧ Aside0 (w'.heap[gb101]? = some (.cells #[(.slice A0_0 l0_0.length c0_0)] 28 (0, 0))) ∧ Aside0 (Below w.heap.size w w'))
 case atStart => exact ⟨(0), t2_, H', ⟨Nat.le_refl _⟩, ⟨bb_ BK101.out⟩, ⟨gb_ HB.out⟩⟩
 clear H'
 try clear c1
 try clear c2
 try clear p2
 obtain ⟨x10_1, rfl, HA, HK1, BK101, HB⟩ := hrel
 obtain _ | k1 := gk
 ·exact absurd HA.out (by simp [impl_formCode.l0])
 have H := HA.out
 clear HA
 simp only [impl_formCode.l0] at H
 by_cases c4 : x10_1 < (l1.length : Int)
 rotate_left
 ·rw [if_neg c4] at H
  have c4b0 : decide (x10_1 < (l1.length : Int)) = false := decide_eq_false c4
  clear c4
  replace H := Option.bind_eq_some_iff.mp H
  obtain ⟨t104, A130, H⟩ := H
  replace H : (if t104 > 81 then (some 3) else (some 0)) = some r := H
  have A13 := Aside0.mk A130
  clear A130
  by_cases c14 : t104 > 81
  ·rw [if_pos c14] at H
   have c14b0 : decide (81 < t104) = true := decide_eq_true c14
   clear c14
   obtain rfl := Option.some.inj H
   have hcz15_0 := hz_ BK101
   have hfz15_0 := blk_frozen BK101.out 0
   go_wp2_with (first | ((with_reducible refine gate_callee (f := 37) rfl ?_); refine gl_ (some 22) rfl rfl Try.func37 #[.agg #[.slice A0_0 l0_0.length c0_0]] rfl ?_; (with_reducible refine (impl_count.calls k1 _ _ l0_0 t104 _ ?side1 ?side2 A13.out).mono ?_); (case side1 => exact c2_ HR0_0 HB); (case side2 => exact HC0_0.out); rintro e w16 ⟨rfl, hb⟩; refine ⟨_, rfl, ?_⟩; replace BK101 := a2_ BK101 hb; replace HB := b1_ HB hb; (try clear hb); (try clear hb2); (try clear hk); (try clear hi)))
   go_ret
   exact ⟨t5_, gb_ HB.out⟩
  rw [if_neg c14] at H
  have c14b0 : decide (81 < t104) = false := decide_eq_false c14
  clear c14
  obtain rfl := Option.some.inj H
  have hcz17_0 := hz_ BK101
  have hfz17_0 := blk_frozen BK101.out 0
  go_wp2_with (first | ((with_reducible refine gate_callee (f := 37) rfl ?_); refine gl_ (some 22) rfl rfl Try.func37 #[.agg #[.slice A0_0 l0_0.length c0_0]] rfl ?_; (with_reducible refine (impl_count.calls k1 _ _ l0_0 t104 _ ?side1 ?side2 A13.out).mono ?_); (case side1 => exact c2_ HR0_0 HB); (case side2 => exact HC0_0.out); rintro e w18 ⟨rfl, hb⟩; refine ⟨_, rfl, ?_⟩; replace BK101 := a2_ BK101 hb; replace HB := b1_ HB hb; (try clear hb); (try clear hb2); (try clear hk); (try clear hi)))
  go_ret
  exact ⟨t5_, gb_ HB.out⟩

 rw [if_pos c4] at H
 have c4b0 : decide (x10_1 < (l1.length : Int)) = true := decide_eq_true c4
 clear c4
 by_cases c5 : 0 ≤ x10_1
 rotate_left
 ·rw [if_neg c5] at H
  exact absurd H (by simp)
 rw [if_pos c5] at H
 have c5b0 : decide (0 ≤ x10_1) = true := decide_eq_true c5
 clear c5
 by_cases c6 : x10_1 < (l1.length : Int)
 rotate_left
 ·rw [if_neg c6] at H
  exact absurd H (by simp)
 rw [if_pos c6] at H
 have c6b0 : decide (x10_1 < (l1.length : Int)) = true := decide_eq_true c6
 clear c6
 replace H := Option.bind_eq_some_iff.mp H
 obtain ⟨t103, A70, H⟩ := H
 replace H : (if t103 = 0 then (impl_formCode.l0 k1 l1 (l1.length : Int) (wrap64 (x10_1 + 1)) l0_0) else (some t103)) = some r := H
 have A7 := Aside0.mk A70
 clear A70
 by_cases c8 : t103 = 0
 rotate_left
 ·rw [if_neg c8] at H
  have c8b0 : (t103 == 0) = false := beq_eq_false_iff_ne.mpr c8
  have c8b1 : (t103 != 0) = true := bne_iff_ne.mpr c8
  obtain rfl := Option.some.inj H
  have p102 : 0 ≤ (x10_1 : Int) := of_decide_eq_true t6_
  have q102 : x10_1 < (l1.length : Int) := of_decide_eq_true t6_
  obtain ⟨ad102, A102_0, c102_0, e102, hx102_0, hl102_0, hi102_0⟩ := at_L1 HR1.out x10_1 p102 q102
  cases e102
  replace hx102_0 := (HB.out.cell (World.block_lt_of_cell? _ _ hx102_0)).trans hx102_0
  have HR102_0 := Aside0.mk hi102_0
  have HC102_0 := Aside0.mk hl102_0
  clear hi102_0 hl102_0
  replace p102 := eq_true p102
  replace q102 := eq_true q102
  have hcz11_0 := hz_ BK101
  have hfz11_0 := blk_frozen BK101.out 0
  go_wp2_with (first | ((with_reducible refine gate_callee (f := 36) rfl ?_); refine gl_ (some 16) rfl rfl Try.func36 #[.agg #[.slice A0_0 l0_0.length c0_0], .slice A102_0 (rd_L1 l1 x10_1).length c102_0, .slice none 0 0] rfl ?_; (refine (impl_codeCode.calls k1 _ _ l0_0 _ _ (rd_L1 l1 x10_1) _ _ ([] : List Int) t103 _ ?side1 ?side2 ?side3 ?side4 ?side5 ?side6 A7.out).mono ?_); (case side1 => exact c2_ HR0_0 HB); (case side2 => exact HC0_0.out); (case side3 => exact c2_ HR102_0 HB); (case side4 => exact HC102_0.out); (case side5 => exact Kd.C_nil _ _); (case side6 => exact Nat.le_refl _); rintro e w12 ⟨rfl, hb⟩; refine ⟨_, rfl, ?_⟩; replace BK101 := a2_ BK101 hb; replace HB := b1_ HB hb; (try clear hb); (try clear hb2); (try clear hk); (try clear hi)))
  go_ret
  exact ⟨t5_, gb_ HB.out⟩
 rw [if_pos c8] at H
 have c8b0 : (t103 == 0) = true := beq_iff_eq.mpr c8
 have c8b1 : (t103 != 0) = false := bne_eq_false_iff_eq.mpr c8
 clear c8
 have H' := Aside0.mk H
 clear H
 have p102 : 0 ≤ (x10_1 : Int) := of_decide_eq_true t6_
 have q102 : x10_1 < (l1.length : Int) := of_decide_eq_true t6_
 obtain ⟨ad102, A102_0, c102_0, e102, hx102_0, hl102_0, hi102_0⟩ := at_L1 HR1.out x10_1 p102 q102
 cases e102
 replace hx102_0 := (HB.out.cell (World.block_lt_of_cell? _ _ hx102_0)).trans hx102_0
 have HR102_0 := Aside0.mk hi102_0
 have HC102_0 := Aside0.mk hl102_0
 clear hi102_0 hl102_0
 replace p102 := eq_true p102
 replace q102 := eq_true q102
 have hcz9_0 := hz_ BK101
 have hfz9_0 := blk_frozen BK101.out 0
 go_wp2_with (first | ((with_reducible refine gate_callee (f := 36) rfl ?_); refine gl_ (some 16) rfl rfl Try.func36 #[.agg #[.slice A0_0 l0_0.length c0_0], .slice A102_0 (rd_L1 l1 x10_1).length c102_0, .slice none 0 0] rfl ?_; (refine (impl_codeCode.calls k1 _ _ l0_0 _ _ (rd_L1 l1 x10_1) _ _ ([] : List Int) t103 _ ?side1 ?side2 ?side3 ?side4 ?side5 ?side6 A7.out).mono ?_); (case side1 => exact c2_ HR0_0 HB); (case side2 => exact HC0_0.out); (case side3 => exact c2_ HR102_0 HB); (case side4 => exact HC102_0.out); (case side5 => exact Kd.C_nil _ _); (case side6 => exact Nat.le_refl _); rintro e w10 ⟨rfl, hb⟩; refine ⟨_, rfl, ?_⟩; replace BK101 := a2_ BK101 hb; replace HB := b1_ HB hb; (try clear hb); (try clear hb2); (try clear hk); (try clear hi)))
 go_roundg k1
 case measure => have := HK1.out; omega
 case rel => exact ⟨(wrap64 (x10_1 + 1)), t2_, H', ⟨by have := HK1.out; omega⟩, ⟨bb_ BK101.out⟩, ⟨gb_ HB.out⟩⟩
def spec_l03Two.f (k : Nat) (l0_0 : List Int) (l1 : List Int) (l2 : List Int) : Option (Int) := (spec_l01Given.f k l0_0 l1).bind fun t102 => (if t102 = 0 then ((spec_l01Given.f k l0_0 l2).bind fun t103 => (some t103)) else (some t102))
set_option maxHeartbeats 8000000 in
set_option maxRecDepth 100000 in
theorem spec_l03Two.calls (k : Nat) (A0_0 : Option Addr) (c0_0 : Nat) (l0_0 : List Int) (A1 : Option Addr) (c1 : Nat) (l1 : List Int) (A2 : Option Addr) (c2 : Nat) (l2 : List Int) (r : Int) (w : World) (hr0_0 : Kd.C (Kd.int .i64) w A0_0 l0_0.length l0_0) (hc0_0 : l0_0.length ≤ c0_0) (hr1 : Kd.C (Kd.int .i64) w A1 l1.length l1) (hc1 : l1.length ≤ c1) (hr2 : Kd.C (Kd.int .i64) w A2 l2.length l2) (hc2 : l2.length ≤ c2) (h : spec_l03Two.f k l0_0 l1 l2 = some r) :
  Calls Try.prog 30 #[.agg #[.slice A0_0 l0_0.length c0_0], .slice A1 l1.length c1, .slice A2 l2.length c2] w fun e w' => e = .returned (.int .i64 r) ∧ Below w.heap.size w w' := by
 have hu28 := Try.underlying28
 have HR0_0 := Aside0.mk hr0_0
 have HC0_0 := Aside0.mk hc0_0
 clear hr0_0 hc0_0
 have HR1 := Aside0.mk hr1
 have HC1 := Aside0.mk hc1
 clear hr1 hc1
 have HR2 := Aside0.mk hr2
 have HC2 := Aside0.mk hc2
 clear hr2 hc2
 have HB := Aside0.mk (Below.refl w.heap.size w)
 have H : ((spec_l01Given.f k l0_0 l1).bind fun t102 => (if t102 = 0 then ((spec_l01Given.f k l0_0 l2).bind fun t103 => (some t103)) else (some t102))) = some r := h
 clear h
 replace H := Option.bind_eq_some_iff.mp H
 obtain ⟨t102, A40, H⟩ := H
 replace H : (if t102 = 0 then ((spec_l01Given.f k l0_0 l2).bind fun t103 => (some t103)) else (some t102)) = some r := H
 have A4 := Aside0.mk A40
 clear A40
 by_cases c5 : t102 = 0
 rotate_left
 ·rw [if_neg c5] at H
  have c5b0 : (t102 == 0) = false := beq_eq_false_iff_ne.mpr c5
  have c5b1 : (t102 != 0) = true := bne_iff_ne.mpr c5
  obtain rfl := Option.some.inj H
  go_enter Try.func30, Try.ntmps30
  go_wp2_with (first | ((with_reducible refine gate_dst (N := 3) rfl ?_); refine bx_ (N := 3) (cs := #[.slice A0_0 l0_0.length c0_0]) (t := 28) rfl rfl ?_; intro gb101 hg w12 hbox hb; have n0_ := b1_ HB hb; have n1_ := Aside0.mk (hbox); have n2_ := ge_ hg HB; have n3_ := ge_ hg HB; clear HB; have HB := n0_; have BK101 := n1_; have GW101 := n2_; have GE101 := n3_; clear n0_ n1_ n2_ n3_ hb hbox hg; have hcz13_0 := hz_ BK101; have hfz13_0 := blk_frozen BK101.out 0) | ((with_reducible refine gate_callee (f := 45) rfl ?_); refine gl_ (some 10) rfl rfl Try.func45 #[.agg #[.slice A0_0 l0_0.length c0_0], .slice A1 l1.length c1] rfl ?_; (with_reducible refine (spec_l01Given.calls k _ _ l0_0 _ _ l1 t102 _ ?side1 ?side2 ?side3 ?side4 A4.out).mono ?_); (case side1 => exact c2_ HR0_0 HB); (case side2 => exact HC0_0.out); (case side3 => exact c2_ HR1 HB); (case side4 => exact HC1.out); rintro e w14 ⟨rfl, hb⟩; refine ⟨_, rfl, ?_⟩; replace BK101 := a2_ BK101 hb; replace HB := b1_ HB hb; (try clear hb); (try clear hb2); (try clear hk); (try clear hi)))
  go_ret
  exact ⟨t5_, gb_ HB.out⟩

 rw [if_pos c5] at H
 have c5b0 : (t102 == 0) = true := beq_iff_eq.mpr c5
 have c5b1 : (t102 != 0) = false := bne_eq_false_iff_eq.mpr c5
 clear c5
 replace H := Option.bind_eq_some_iff.mp H
 obtain ⟨t103, A60, H⟩ := H
 replace H : (some t103) = some r := H
 have A6 := Aside0.mk A60
 clear A60
 obtain rfl := Option.some.inj H
 go_enter Try.func30, Try.ntmps30
 go_wp2_with (first | ((with_reducible refine gate_dst (N := 3) rfl ?_); refine bx_ (N := 3) (cs := #[.slice A0_0 l0_0.length c0_0]) (t := 28) rfl rfl ?_; intro gb101 hg w7 hbox hb; have n0_ := b1_ HB hb; have n1_ := Aside0.mk (hbox); have n2_ := ge_ hg HB; have n3_ := ge_ hg HB; clear HB; have HB := n0_; have BK101 := n1_; have GW101 := n2_; have GE101 := n3_; clear n0_ n1_ n2_ n3_ hb hbox hg; have hcz8_0 := hz_ BK101; have hfz8_0 := blk_frozen BK101.out 0) | ((with_reducible refine gate_callee (f := 45) rfl ?_); refine gl_ (some 10) rfl rfl Try.func45 #[.agg #[.slice A0_0 l0_0.length c0_0], .slice A1 l1.length c1] rfl ?_; (with_reducible refine (spec_l01Given.calls k _ _ l0_0 _ _ l1 t102 _ ?side1 ?side2 ?side3 ?side4 A4.out).mono ?_); (case side1 => exact c2_ HR0_0 HB); (case side2 => exact HC0_0.out); (case side3 => exact c2_ HR1 HB); (case side4 => exact HC1.out); rintro e w9 ⟨rfl, hb⟩; refine ⟨_, rfl, ?_⟩; replace BK101 := a2_ BK101 hb; replace HB := b1_ HB hb; (try clear hb); (try clear hb2); (try clear hk); (try clear hi); have hcz10_0 := hz_ BK101; have hfz10_0 := blk_frozen BK101.out 0) | ((with_reducible refine gate_callee (f := 45) rfl ?_); refine gl_ (some 15) rfl rfl Try.func45 #[.agg #[.slice A0_0 l0_0.length c0_0], .slice A2 l2.length c2] rfl ?_; (with_reducible refine (spec_l01Given.calls k _ _ l0_0 _ _ l2 t103 _ ?side1 ?side2 ?side3 ?side4 A6.out).mono ?_); (case side1 => exact c2_ HR0_0 HB); (case side2 => exact HC0_0.out); (case side3 => exact c2_ HR2 HB); (case side4 => exact HC2.out); rintro e w11 ⟨rfl, hb⟩; refine ⟨_, rfl, ?_⟩; replace BK101 := a2_ BK101 hb; replace HB := b1_ HB hb; (try clear hb); (try clear hb2); (try clear hk); (try clear hi)))
 go_ret
 exact ⟨t5_, gb_ HB.out⟩
mutual
def spec_l03Orders.l0 : Nat → List Int → List (List Int) → Int → List Int → Option ((List (List Int)))
  | 0, _, _, _, _ => none
  | k + 1, x1, x5, x6, x102000 => if x6 < (x102000.length : Int) then ((spec_l01Has.f k x1 x6).bind fun t108 => (if t108 = true then (spec_l03Orders.j1 k x1 x5 x6 false x102000) else (if 0 ≤ x6 then (if 0 ≤ (x1.length : Int) then (if (x1.length : Int) < (x102000.length : Int) then (spec_l03Orders.j1 k x1 x5 x6 ((rd x102000 x6) == (rd x102000 (x1.length : Int))) x102000) else (none)) else (none)) else (none)))) else (some x5)
def spec_l03Orders.j1 : Nat → List Int → List (List Int) → Int → Bool → List Int → Option ((List (List Int)))
  | 0, _, _, _, _, _ => none
  | k + 1, x1, x5, x6, x40, x102000 => if x40 = true then ((spec_l01Own.f x1).bind fun t111 => ((some (([x6] : List Int) : List Int)).bind fun y114 => (if t111.length + y114.length < 17592186044416 then ((spec_l03Orders.f k x102000 (t111 ++ y114)).bind fun t120 => (if x5.length + t120.length < 5864062014805 then (spec_l03Orders.l0 k x1 (x5 ++ t120) (wrap64 (x6 + 1)) x102000) else (none))) else (none)))) else (spec_l03Orders.l0 k x1 x5 (wrap64 (x6 + 1)) x102000)
def spec_l03Orders.f : Nat → List Int → List Int → Option ((List (List Int)))
  | 0, _, _ => none
  | k + 1, l0_0, l1 => if (l1.length : Int) = (l0_0.length : Int) then (some (([l1] : List (List Int)))) else (spec_l03Orders.l0 k l1 (([] : List (List Int))) 0 l0_0)
end
def spec_l03Orders.T7 : Bool × List (List Nat × List Nat) := (true, [([], []), ([], []), ([0, 1], [0, 1]), ([2], [2]), ([3, 2], [3]), ([4], [4]), ([5, 4], [4, 5]), ([4], [4]), ([6, 7, 4], [4, 6, 7]), ([8, 4], [4, 8]), ([4], [4]), ([10, 4], [4, 10]), ([4], [4]), ([12, 4], [4, 12]), ([11, 13, 4], [4, 11, 13]), ([14, 4], [4, 14]), ([9, 15, 4], [4, 9, 15]), ([4, 16], [4, 16])])
def spec_l03Orders.B7 : List Nat := [0, 0, 3, 7, 15, 31, 63, 31, 255, 511, 31, 1055, 31, 4127, 15391, 31775, 65535, 131071]
theorem spec_l03Orders.tab7 : rtab .any (opsOf Try.f33 7) = spec_l03Orders.T7 := by kernel_rfl
theorem spec_l03Orders.bits7 : waitsOk spec_l03Orders.T7.2 spec_l03Orders.B7 = true := by kernel_rfl
def spec_l03Orders.T8 : Bool × List (List Nat × List Nat) := (true, [([], []), ([], []), ([], []), ([2], [2]), ([], []), ([4], [4]), ([3, 5, 3], [3, 5]), ([1, 6, 6], [1, 6]), ([0, 7, 7], [0, 7]), ([8, 8, 0, 1, 2, 3, 4, 5, 6, 7, 8], [0, 8])])
def spec_l03Orders.B8 : List Nat := [0, 0, 0, 4, 0, 16, 60, 126, 255, 511]
theorem spec_l03Orders.tab8 : rtab .any (opsOf Try.f33 8) = spec_l03Orders.T8 := by kernel_rfl
theorem spec_l03Orders.bits8 : waitsOk spec_l03Orders.T8.2 spec_l03Orders.B8 = true := by kernel_rfl
set_option maxHeartbeats 8000000 in
set_option maxRecDepth 100000 in
theorem spec_l03Orders.calls (k : Nat) : ∀ (A0_0 : Option Addr) (c0_0 : Nat) (l0_0 : List Int) (P1_ : Nat → Prop) (A1 : Option Addr) (c1 : Nat) (l1 : List Int) (r : List (List Int)) (w : World) (hr0_0 : Kd.C (Kd.int .i64) w A0_0 l0_0.length l0_0) (hc0_0 : l0_0.length ≤ c0_0) (hs1 : Kd.V (Kd.int .i64) 2 w w.heap.size (fun k_ => P1_ k_) (.slice A1 l1.length c1) l1) (h : spec_l03Orders.f k l0_0 l1 = some r),
  Calls Try.prog 33 #[.agg #[.slice A0_0 l0_0.length c0_0], .slice A1 l1.length c1] w fun e w' => ∃ v0_ : Value, e = .returned (v0_) ∧ Kd.N (Kd.slice 2 (Kd.int .i64)) 22 w' w.heap.size (fun k_ => (P1_ k_ ∨ w.heap.size ≤ k_)) v0_ r ∧ Below w.heap.size w w' := by
 induction k using Nat.strongRecOn with
 | _ k ih =>
 intro A0_0 c0_0 l0_0 P1_ A1 c1 l1 r w hr0_0 hc0_0 hs1 h
 cases k with
 | zero => exact absurd h (by simp [spec_l03Orders.f])
 | succ k =>
 simp only [spec_l03Orders.f] at h
 have hu28 := Try.underlying28
 have HR0_0 := Aside0.mk hr0_0
 have HC0_0 := Aside0.mk hc0_0
 clear hr0_0 hc0_0
 have HO1 := Aside0.mk (show Kd.V (Kd.int .i64) 2 w w.heap.size (fun k_ => (P1_ k_ ∨ w.heap.size ≤ k_)) (.slice A1 l1.length c1) l1 from Kd.V_mono hs1 (fun k_ hk => .inl hk))
 have HB := Aside0.mk (Below.refl w.heap.size w)
 have H : (if (l1.length : Int) = (l0_0.length : Int) then (some (([l1] : List (List Int)))) else (spec_l03Orders.l0 k l1 (([] : List (List Int))) 0 l0_0)) = some r := h
 clear h
 by_cases c3 : (l1.length : Int) = (l0_0.length : Int)
 ·rw [if_pos c3] at H
  have c3b0 : ((l1.length : Int) == (l0_0.length : Int)) = true := beq_iff_eq.mpr c3
  have c3b1 : ((l1.length : Int) != (l0_0.length : Int)) = false := bne_eq_false_iff_eq.mpr c3
  have c3b2 : (l1.length == l0_0.length) = true := by first | simpa using c3 | (simp at c3 ⊢; omega)
  clear c3
  obtain ⟨y102, hy102⟩ : ∃ y_ : List (List Int), y_ = (([l1] : List (List Int))) := ⟨_, rfl⟩
  replace H : (some y102) = some r := y_ H
  have Ny102 := Aside0.mk hy102
  clear hy102
  obtain rfl := Option.some.inj H
  go_enter Try.func33, Try.ntmps33
  go_wp2_with (first | ((with_reducible refine gate_dst (N := 2) rfl ?_); refine bx_ (N := 2) (cs := #[.slice A0_0 l0_0.length c0_0]) (t := 28) rfl rfl ?_; intro gb101 hg w4 hbox hb; have n0_ := Aside0.mk (Kd.V_below (Kd.V_elderB (by (with_reducible repeat (first | apply Kd.V_alloc | apply Kd.V_drewN | apply Kd.V_drew)); exact HO1.out) gb101 (Nat.le_of_eq hg.symm)) hb); have n1_ := b1_ HB hb; have n2_ := Aside0.mk (hbox); have n3_ := ge_ hg HB; have n4_ := ge_ hg HB; clear HO1 HB; have HO1 := n0_; have HB := n1_; have BK101 := n2_; have GW101 := n3_; have GE101 := n4_; clear n0_ n1_ n2_ n3_ n4_ hb hbox hg; have hcz5_0 := hz_ BK101; have hfz5_0 := blk_frozen BK101.out 0) | ((with_reducible refine gate_dst (N := 14) rfl ?_); refine Kd.N_lit (Kd.slice 2 (Kd.int .i64)) _ 22 ?hg (N' := 14) ?hd (xs := ([l1] : List (List Int))) (inner := [.slice A1 l1.length c1]) (ok := (fun k_ => (P1_ k_ ∨ w.heap.size ≤ k_) ∧ k_ ≠ gb101)) (okp := (fun k_ => (P1_ k_ ∨ w.heap.size ≤ k_) ∧ k_ ≠ gb101)) ?hr ?hp (fun _ hk => hk) ((show ∀ k_, w4.heap.size ≤ k_ → (fun k_ => (P1_ k_ ∨ w.heap.size ≤ k_) ∧ k_ ≠ gb101) k_ from fun k_ hk => ⟨(.inr (Nat.le_trans (below_size (gb_ HB.out)) hk)), Kd.freshB (g := gb101) (o := .cells #[.slice A0_0 l0_0.length c0_0] 28 (0, 0)) (bb_ BK101.out) k_ hk⟩) _ (Nat.le_refl _)) (Below.refl _ _) (Nat.le_refl _) (by simp) ?_; (case hd => rfl); (case hg => rfl); (case hr => exact t3_); (case hp => exact (Reps.one (show Kd.FK (Kd.slice 2 (Kd.int .i64)) _ _ l1 [.slice A1 l1.length c1] from (Kd.FK_slice_mk (Kd.V_reads' (Kd.V_mono (ok' := (fun k_ => (P1_ k_ ∨ w.heap.size ≤ k_) ∧ k_ ≠ gb101)) (HO1.out) (fun k_ hk => ⟨hk.1, hk.2⟩))).2.1 (Kd.V_F (Kd.V_mono (ok' := (fun k_ => (P1_ k_ ∨ w.heap.size ≤ k_) ∧ k_ ≠ gb101)) (HO1.out) (fun k_ hk => ⟨hk.1, hk.2⟩))))) (Reps.none _ _))); intro v103 w6 ho7 hb hg_ hnew_; clear hg_ hnew_; (first | rw [← Ny102.out] at ho7 | (simp only [Int.reduceToNat] at ho7; rw [← Ny102.out] at ho7)); have n0_ := Aside0.mk (Kd.V_elder' (by (with_reducible repeat (first | apply Kd.V_alloc | apply Kd.V_drewN | apply Kd.V_drew)); exact HO1.out) (Kd.N_base ho7) hb); have n1_ := Aside0.mk (Kd.N_lower ho7 (below_size (gb_ HB.out))); have n2_ := a2_ BK101 hb; have n3_ := b1_ HB hb; clear HO1 BK101 HB; have HO1 := n0_; have HO104 := n1_; have BK101 := n2_; have HB := n3_; clear n0_ n1_ n2_ n3_ hb ho7))
  go_ret
  exact ⟨_, t5_, by (with_reducible repeat (first | apply Kd.N_alloc | apply Kd.N_drewN | apply Kd.N_drew)); exact Kd.N_mono HO104.out (fun _ hk => hk.1), gb_ HB.out⟩
 rw [if_neg c3] at H
 have c3b0 : ((l1.length : Int) == (l0_0.length : Int)) = false := beq_eq_false_iff_ne.mpr c3
 have c3b1 : ((l1.length : Int) != (l0_0.length : Int)) = true := bne_iff_ne.mpr c3
 have c3b2 : (l1.length == l0_0.length) = false := by first | simpa using c3 | (simp at c3 ⊢; omega)
 obtain ⟨y105, hy105⟩ : ∃ y_ : List (List Int), y_ = (([] : List (List Int))) := ⟨_, rfl⟩
 replace H : (spec_l03Orders.l0 k l1 y105 0 l0_0) = some r := y_ H
 have Ny105 := Aside0.mk hy105
 clear hy105
 have H' := Aside0.mk H
 clear H
 go_enter Try.func33, Try.ntmps33
 go_wp2_with (first | ((with_reducible refine gate_dst (N := 2) rfl ?_); refine bx_ (N := 2) (cs := #[.slice A0_0 l0_0.length c0_0]) (t := 28) rfl rfl ?_; intro gb101 hg w8 hbox hb; have n0_ := Aside0.mk (Kd.V_below (Kd.V_elderB (by (with_reducible repeat (first | apply Kd.V_alloc | apply Kd.V_drewN | apply Kd.V_drew)); exact HO1.out) gb101 (Nat.le_of_eq hg.symm)) hb); have n1_ := b1_ HB hb; have n2_ := Aside0.mk (hbox); have n3_ := ge_ hg HB; have n4_ := ge_ hg HB; clear HO1 HB; have HO1 := n0_; have HB := n1_; have BK101 := n2_; have GW101 := n3_; have GE101 := n4_; clear n0_ n1_ n2_ n3_ n4_ hb hbox hg; have hcz9_0 := hz_ BK101; have hfz9_0 := blk_frozen BK101.out 0) | ((with_reducible refine gate_dst (N := 15) rfl ?_); refine Kd.N_lit (Kd.slice 2 (Kd.int .i64)) _ 22 ?hg (N' := 15) ?hd (xs := ([] : List (List Int))) (inner := []) (ok := (fun k_ => (P1_ k_ ∨ w.heap.size ≤ k_) ∧ k_ ≠ gb101)) (okp := (fun k_ => (P1_ k_ ∨ w.heap.size ≤ k_) ∧ k_ ≠ gb101)) ?hr ?hp (fun _ hk => hk) ((show ∀ k_, w8.heap.size ≤ k_ → (fun k_ => (P1_ k_ ∨ w.heap.size ≤ k_) ∧ k_ ≠ gb101) k_ from fun k_ hk => ⟨(.inr (Nat.le_trans (below_size (gb_ HB.out)) hk)), Kd.freshB (g := gb101) (o := .cells #[.slice A0_0 l0_0.length c0_0] 28 (0, 0)) (bb_ BK101.out) k_ hk⟩) _ (Nat.le_refl _)) (Below.refl _ _) (Nat.le_refl _) (by simp) ?_; (case hd => rfl); (case hg => rfl); (case hr => exact t3_); (case hp => exact (Reps.none _ _)); intro v106 w10 ho11 hb hg_ hnew_; clear hg_ hnew_; (first | rw [← Ny105.out] at ho11 | (simp only [Int.reduceToNat] at ho11; rw [← Ny105.out] at ho11)); have n0_ := Aside0.mk (Kd.V_elder' (by (with_reducible repeat (first | apply Kd.V_alloc | apply Kd.V_drewN | apply Kd.V_drew)); exact HO1.out) (Kd.N_base ho11) hb); have n1_ := Aside0.mk (Kd.N_lower ho11 (below_size (gb_ HB.out))); have n2_ := a2_ BK101 hb; have n3_ := b1_ HB hb; clear HO1 BK101 HB; have HO1 := n0_; have HO107 := n1_; have BK101 := n2_; have HB := n3_; clear n0_ n1_ n2_ n3_ hb ho11))
 go_loopg [5, 6] k (fun kq v5 v6 w' => ∃ (x5_1 : List (List Int)) (x6_1 : Int), v6 = .int .i64 x6_1 ∧ Aside0 (spec_l03Orders.l0 kq l1 x5_1 x6_1 l0_0 = some r) ∧ Aside0 (kq ≤ k) ∧ Aside0 (Kd.V (Kd.int .i64) 2 w' w.heap.size (fun k_ => (P1_ k_ ∨ w.heap.size ≤ k_) ∧ OB_ k_ v5 ∧ k_ ≠ gb101) (.slice A1 l1.length c1) l1) ∧ Aside0 (Kd.N (Kd.slice 2 (Kd.int .i64)) 22 w' w.heap.size (fun k_ => (P1_ k_ ∨ w.heap.size ≤ k_) ∧ k_ ≠ gb101) v5 x5_1) ∧ Aside0 (w'.heap[gb101]? = some (.cells #[(.slice A0_0 l0_0.length c0_0)] 28 (0, 0))) ∧ Aside0 (Below w.heap.size w w'))
 case atStart => exact ⟨(y105), (0), t2_, H', ⟨Nat.le_refl _⟩, ⟨by (with_reducible repeat (first | apply Kd.V_alloc | apply Kd.V_drewN | apply Kd.V_drew)); exact Kd.V_mono HO1.out (fun _ hk => ⟨hk.1.1, ⟨hk.2, hk.1.2⟩⟩)⟩, ⟨by (with_reducible repeat (first | apply Kd.N_alloc | apply Kd.N_drewN | apply Kd.N_drew)); exact HO107.out⟩, ⟨bb_ BK101.out⟩, ⟨gb_ HB.out⟩⟩
 clear H'
 try clear c1
 try clear p2
 try clear c3
 try clear c3b0
 try clear c3b1
 try clear c3b2
 try clear hcz5_0
 try clear hcz9_0
 try clear hfz5_0
 try clear hfz9_0
 obtain ⟨x5_1, x6_1, rfl, HA, HK1, HO_1, HO_5, BK101, HB⟩ := hrel
 obtain _ | k1 := gk
 ·exact absurd HA.out (by simp [spec_l03Orders.l0])
 have H := HA.out
 clear HA
 simp only [spec_l03Orders.l0] at H
 by_cases c12 : x6_1 < (l0_0.length : Int)
 rotate_left
 ·rw [if_neg c12] at H
  have c12b0 : decide (x6_1 < (l0_0.length : Int)) = false := decide_eq_false c12
  clear c12
  obtain rfl := Option.some.inj H
  have hcz39_0 := hz_ BK101
  have hfz39_0 := blk_frozen BK101.out 0
  go_wp2
  go_ret
  exact ⟨_, t5_, by (with_reducible repeat (first | apply Kd.N_alloc | apply Kd.N_drewN | apply Kd.N_drew)); exact Kd.N_mono HO_5.out (fun _ hk => hk.1), gb_ HB.out⟩

 rw [if_pos c12] at H
 have c12b0 : decide (x6_1 < (l0_0.length : Int)) = true := decide_eq_true c12
 clear c12
 have HC13 := Aside0.mk H
 clear H
 have hcz14_0 := hz_ BK101
 have hfz14_0 := blk_frozen BK101.out 0
 go_upto_region 7 with (fail)
 go_cut [40] (fun cs_40 wc => ∃ (kq : Nat) (x40_12 : Bool), cs_40 = .bool x40_12 ∧ Aside0 (spec_l03Orders.j1 kq l1 x5_1 x6_1 x40_12 l0_0 = some r) ∧ Aside0 (kq ≤ k1) ∧ Aside0 (Kd.V (Kd.int .i64) 2 wc w.heap.size (fun k_ => (P1_ k_ ∨ w.heap.size ≤ k_) ∧ OB_ k_ u5 ∧ k_ ≠ gb101) (.slice A1 l1.length c1) l1) ∧ Aside0 (Kd.N (Kd.slice 2 (Kd.int .i64)) 22 wc w.heap.size (fun k_ => (P1_ k_ ∨ w.heap.size ≤ k_) ∧ k_ ≠ gb101) u5 x5_1) ∧ Aside0 (wc.heap[gb101]? = some (.cells #[(.slice A0_0 l0_0.length c0_0)] 28 (0, 0))) ∧ Aside0 (Below w.heap.size w wc))
 case first =>
  have H := HC13.out
  clear HC13
  replace H := Option.bind_eq_some_iff.mp H
  obtain ⟨t108, A150, H⟩ := H
  replace H : (if t108 = true then (spec_l03Orders.j1 k1 l1 x5_1 x6_1 false l0_0) else (if 0 ≤ x6_1 then (if 0 ≤ (l1.length : Int) then (if (l1.length : Int) < (l0_0.length : Int) then (spec_l03Orders.j1 k1 l1 x5_1 x6_1 ((rd l0_0 x6_1) == (rd l0_0 (l1.length : Int))) l0_0) else (none)) else (none)) else (none))) = some r := H
  have A15 := Aside0.mk A150
  clear A150
  by_cases c16 : t108 = true
  ·subst c16
   have H1 : (spec_l03Orders.j1 k1 l1 x5_1 x6_1 false l0_0) = some r := by rw [if_pos rfl] at H; exact H
   clear H
   have H := H1
   clear H1
   have H' := Aside0.mk H
   clear H
   try go_wp2
   replace HO_1 := Aside0.mk (Kd.V_drew HO_1.out)
   replace HO_5 := Aside0.mk (Kd.N_drew HO_5.out)
   replace BK101 := Aside0.mk (blk_drew BK101.out)
   replace HB := Aside0.mk (below_drew1 HB.out)
   refine start_ (n := 18) (S := fun w' => True) (ds := []) #[false, false, false, false, false, false, false, false, false, false, false, false, false, false, false, false, false, false] (by kernel_rfl) rfl rfl trivial (fun hHeld => ?_); refine with_tabW spec_l03Orders.tab7 spec_l03Orders.bits7 (fun HT_ HW_ => ?_)
   generalize wr.drew = w17 at HO_1 HO_5 BK101 HB hHeld ⊢
   refine pu_ (i := 0) (N := some 23) (v := ?_) (a' := ?_) #[true, false, false, false, false, false, false, false, false, false, false, false, false, false, false, false, false, false] rfl rfl HT_ (Or.inl ⟨by rfl, ?_⟩) ?_ ?_
   rotate_left
   ·exact t7_
   rotate_left
   ·exact t4_
   refine pu_ (i := 1) (N := some 24) (v := ?_) (a' := ?_) #[true, true, false, false, false, false, false, false, false, false, false, false, false, false, false, false, false, false] rfl rfl HT_ (Or.inl ⟨by rfl, ?_⟩) ?_ ?_
   rotate_left
   ·exact t7_
   rotate_left
   ·exact t4_
   refine on_ (i := 2) (N := some 25) #[true, true, true, false, false, false, false, false, false, false, false, false, false, false, false, false, false, false] rfl rfl HT_ (fun K hK => ?_)
   refine goes_ Try.func46 (by kernel_rfl) rfl #[.slice A1 l1.length c1, .int .i64 x6_1] (by rfl) rfl rfl t1_ ?_
   with_reducible refine (spec_l01Has.calls k1 _ _ l1 x6_1 true _ ?side1 ?side2 A15.out).mono ?_
   (case side1 => repeat (first | exact (Kd.V_reads' HO_1.out).2.2 | (with_reducible refine Kd.C_alloc ?_ _) | (with_reducible refine Kd.C_drewN ?_ _) | (with_reducible refine Kd.C_drew ?_)))
   (case side2 => exact (Kd.V_reads' HO_1.out).2.1)
   rintro e w' ⟨rfl, ⟨nd, rfl⟩⟩
   refine ⟨_, rfl, ?_⟩
   refine hK.out _ _ trivial (fun hHeld => ?_)
   clear hK K
   refine norm_ (a' := ?_) ?_ ?_
   rotate_left
   ·show Act.put _ (some 25) _ = _
    simp only [Act.put, List.setIfInBounds_toArray, List.set_cons_zero, List.set_cons_succ, i64_w, i32_w]
    rfl
   refine pu_ (i := 3) (N := some 26) (v := ?_) (a' := ?_) #[true, true, true, true, false, false, false, false, false, false, false, false, false, false, false, false, false, false] rfl rfl HT_ (Or.inl ⟨by rfl, ?_⟩) ?_ ?_
   rotate_left
   ·exact t7_
   rotate_left
   ·exact t4_
   refine pu_ (i := 4) (N := some 27) (v := ?_) (a' := ?_) #[true, true, true, true, true, false, false, false, false, false, false, false, false, false, false, false, false, false] rfl rfl HT_ (Or.inl ⟨by rfl, ?_⟩) ?_ ?_
   rotate_left
   ·exact t7_
   rotate_left
   ·exact t4_
   refine pu_ (i := 5) (N := some 28) (v := undef) (a' := ?_) #[true, true, true, true, true, true, false, false, false, false, false, false, false, false, false, false, false, false] rfl rfl HT_ (Or.inr ⟨by rfl, rfl⟩) ?_ ?_
   rotate_left
   ·exact t4_
   refine pu_ (i := 6) (N := some 29) (v := undef) (a' := ?_) #[true, true, true, true, true, true, true, false, false, false, false, false, false, false, false, false, false, false] rfl rfl HT_ (Or.inr ⟨by rfl, rfl⟩) ?_ ?_
   rotate_left
   ·exact t4_
   refine pu_ (i := 7) (N := some 30) (v := undef) (a' := ?_) #[true, true, true, true, true, true, true, true, false, false, false, false, false, false, false, false, false, false] rfl rfl HT_ (Or.inr ⟨by rfl, rfl⟩) ?_ ?_
   rotate_left
   ·exact t4_
   refine pu_ (i := 8) (N := some 31) (v := undef) (a' := ?_) #[true, true, true, true, true, true, true, true, true, false, false, false, false, false, false, false, false, false] rfl rfl HT_ (Or.inr ⟨by rfl, rfl⟩) ?_ ?_
   rotate_left
   ·exact t4_
   refine pu_ (i := 9) (N := some 32) (v := undef) (a' := ?_) #[true, true, true, true, true, true, true, true, true, true, false, false, false, false, false, false, false, false] rfl rfl HT_ (Or.inr ⟨by rfl, rfl⟩) ?_ ?_
   rotate_left
   ·exact t4_
   refine pu_ (i := 10) (N := some 33) (v := undef) (a' := ?_) #[true, true, true, true, true, true, true, true, true, true, true, false, false, false, false, false, false, false] rfl rfl HT_ (Or.inr ⟨by rfl, rfl⟩) ?_ ?_
   rotate_left
   ·exact t4_
   refine pu_ (i := 11) (N := some 34) (v := undef) (a' := ?_) #[true, true, true, true, true, true, true, true, true, true, true, true, false, false, false, false, false, false] rfl rfl HT_ (Or.inr ⟨by rfl, rfl⟩) ?_ ?_
   rotate_left
   ·exact t4_
   refine pu_ (i := 12) (N := some 35) (v := undef) (a' := ?_) #[true, true, true, true, true, true, true, true, true, true, true, true, true, false, false, false, false, false] rfl rfl HT_ (Or.inr ⟨by rfl, rfl⟩) ?_ ?_
   rotate_left
   ·exact t4_
   refine pu_ (i := 13) (N := some 36) (v := undef) (a' := ?_) #[true, true, true, true, true, true, true, true, true, true, true, true, true, true, false, false, false, false] rfl rfl HT_ (Or.inr ⟨by rfl, rfl⟩) ?_ ?_
   rotate_left
   ·exact t4_
   refine pu_ (i := 14) (N := some 37) (v := undef) (a' := ?_) #[true, true, true, true, true, true, true, true, true, true, true, true, true, true, true, false, false, false] rfl rfl HT_ (Or.inr ⟨by rfl, rfl⟩) ?_ ?_
   rotate_left
   ·exact t4_
   refine pu_ (i := 15) (N := some 38) (v := undef) (a' := ?_) #[true, true, true, true, true, true, true, true, true, true, true, true, true, true, true, true, false, false] rfl rfl HT_ (Or.inr ⟨by rfl, rfl⟩) ?_ ?_
   rotate_left
   ·exact t4_
   refine pu_ (i := 16) (N := some 39) (v := undef) (a' := ?_) #[true, true, true, true, true, true, true, true, true, true, true, true, true, true, true, true, true, false] rfl rfl HT_ (Or.inr ⟨by rfl, rfl⟩) ?_ ?_
   rotate_left
   ·exact t4_
   refine pu_ (i := 17) (N := some 40) (v := ?_) (a' := ?_) #[true, true, true, true, true, true, true, true, true, true, true, true, true, true, true, true, true, true] rfl rfl HT_ (Or.inl ⟨by rfl, ?_⟩) ?_ ?_
   rotate_left
   ·exact t7_
   rotate_left
   ·exact t4_
   refine done_ (done_of HT_.out (by kernel_rfl)) ?_
   try go_wp2
   go_meet
   case rel => exact ⟨_, (false), t2_, H', ⟨by have := HK1.out; first | omega | exact Nat.le_refl _⟩, ⟨by (with_reducible repeat (first | apply Kd.V_alloc | apply Kd.V_drewN | apply Kd.V_drew)); exact HO_1.out⟩, ⟨by (with_reducible repeat (first | apply Kd.N_alloc | apply Kd.N_drewN | apply Kd.N_drew)); exact HO_5.out⟩, ⟨bb_ BK101.out⟩, ⟨gb_ HB.out⟩⟩
  replace c16 := Bool.eq_false_iff.mpr c16
  subst c16
  have H1 : (if 0 ≤ x6_1 then (if 0 ≤ (l1.length : Int) then (if (l1.length : Int) < (l0_0.length : Int) then (spec_l03Orders.j1 k1 l1 x5_1 x6_1 ((rd l0_0 x6_1) == (rd l0_0 (l1.length : Int))) l0_0) else (none)) else (none)) else (none)) = some r := by rw [if_neg (show ¬ (false = true) by decide)] at H; exact H
  clear H
  have H := H1
  clear H1
  by_cases c18 : 0 ≤ x6_1
  rotate_left
  ·rw [if_neg c18] at H
   exact absurd H (by simp)
  rw [if_pos c18] at H
  have c18b0 : decide (0 ≤ x6_1) = true := decide_eq_true c18
  clear c18
  (first | rw [c18b0] | (simp only [i64_w, i32_w]; rw [c18b0]) | skip)
  by_cases c19 : 0 ≤ (l1.length : Int)
  rotate_left
  ·rw [if_neg c19] at H
   exact absurd H (by simp)
  rw [if_pos c19] at H
  have c19b0 : decide (0 ≤ (l1.length : Int)) = true := decide_eq_true c19
  have c19b1 : decide (0 ≤ l1.length) = true := decide_eq_true (by omega)
  clear c19
  by_cases c20 : (l1.length : Int) < (l0_0.length : Int)
  rotate_left
  ·rw [if_neg c20] at H
   exact absurd H (by simp)
  rw [if_pos c20] at H
  have c20b0 : decide ((l1.length : Int) < (l0_0.length : Int)) = true := decide_eq_true c20
  have c20b1 : decide (l1.length < l0_0.length) = true := decide_eq_true (Int.ofNat_lt.mp c20)
  clear c20
  have H' := Aside0.mk H
  clear H
  try go_wp2
  replace HO_1 := Aside0.mk (Kd.V_drew HO_1.out)
  replace HO_5 := Aside0.mk (Kd.N_drew HO_5.out)
  replace BK101 := Aside0.mk (blk_drew BK101.out)
  replace HB := Aside0.mk (below_drew1 HB.out)
  have p109 : 0 ≤ (x6_1 : Int) := of_decide_eq_true t6_
  have q109 : x6_1 < (l0_0.length : Int) := of_decide_eq_true t6_
  obtain ⟨ad109, e109, hx109_0⟩ := Kd.at_int HR0_0.out x6_1 p109 q109
  have hw109_0 := hx109_0
  cases e109
  replace hx109_0 := (HB.out.cell (World.block_lt_of_cell? _ _ hx109_0)).trans hx109_0
  replace p109 := eq_true p109
  replace q109 := eq_true q109
  have p110 : 0 ≤ ((l1.length : Int) : Int) := of_decide_eq_true t6_
  have q110 : (l1.length : Int) < (l0_0.length : Int) := of_decide_eq_true t6_
  obtain ⟨ad110, e110, hx110_0⟩ := Kd.at_int HR0_0.out (l1.length : Int) p110 q110
  have hw110_0 := hx110_0
  obtain rfl : ad109 = ad110 := (by injection e110)
  replace hx110_0 := (HB.out.cell (World.block_lt_of_cell? _ _ hx110_0)).trans hx110_0
  (try simp only [Go.IntWalk.toNatUp] at hx110_0)
  replace p110 := eq_true p110
  replace q110 := eq_true q110
  refine start_ (n := 18) (S := fun w' => w'.cell? ⟨gb101, 0, none⟩ = some (.slice (some ad109) l0_0.length c0_0) ∧ w'.cell? (ad109.add (x6_1).toNat) = some (.int .i64 (rd l0_0 x6_1)) ∧ w'.cell? (ad109.add ((l1.length : Int)).toNat) = some (.int .i64 (rd l0_0 (l1.length : Int)))) (ds := []) #[false, false, false, false, false, false, false, false, false, false, false, false, false, false, false, false, false, false] (by kernel_rfl) rfl rfl ⟨(blk_cell BK101.out 0).trans rfl, ((HB.out.cell (World.block_lt_of_cell? _ _ hw109_0)).trans hw109_0), ((HB.out.cell (World.block_lt_of_cell? _ _ hw110_0)).trans hw110_0)⟩ (fun hHeld => ?_); refine with_tabW spec_l03Orders.tab7 spec_l03Orders.bits7 (fun HT_ HW_ => ?_)
  generalize wr.drew = w21 at HO_1 HO_5 BK101 HB hx109_0 hx110_0 hHeld ⊢
  refine pu_ (i := 0) (N := some 23) (v := ?_) (a' := ?_) #[true, false, false, false, false, false, false, false, false, false, false, false, false, false, false, false, false, false] rfl rfl HT_ (Or.inl ⟨by rfl, ?_⟩) ?_ ?_
  rotate_left
  ·exact t7_
  rotate_left
  ·exact t4_
  refine pu_ (i := 1) (N := some 24) (v := ?_) (a' := ?_) #[true, true, false, false, false, false, false, false, false, false, false, false, false, false, false, false, false, false] rfl rfl HT_ (Or.inl ⟨by rfl, ?_⟩) ?_ ?_
  rotate_left
  ·exact t7_
  rotate_left
  ·exact t4_
  refine on_ (i := 2) (N := some 25) #[true, true, true, false, false, false, false, false, false, false, false, false, false, false, false, false, false, false] rfl rfl HT_ (fun K hK => ?_)
  refine goes_ Try.func46 (by kernel_rfl) rfl #[.slice A1 l1.length c1, .int .i64 x6_1] (by rfl) rfl rfl t1_ ?_
  with_reducible refine (spec_l01Has.calls k1 _ _ l1 x6_1 false _ ?side1 ?side2 A15.out).mono ?_
  (case side1 => repeat (first | exact (Kd.V_reads' HO_1.out).2.2 | (with_reducible refine Kd.C_alloc ?_ _) | (with_reducible refine Kd.C_drewN ?_ _) | (with_reducible refine Kd.C_drew ?_)))
  (case side2 => exact (Kd.V_reads' HO_1.out).2.1)
  rintro e w' ⟨rfl, ⟨nd, rfl⟩⟩
  refine ⟨_, rfl, ?_⟩
  refine hK.out _ _ ⟨(blk_cell BK101.out 0).trans rfl, ((HB.out.cell (World.block_lt_of_cell? _ _ hw109_0)).trans hw109_0), ((HB.out.cell (World.block_lt_of_cell? _ _ hw110_0)).trans hw110_0)⟩ (fun hHeld => ?_)
  clear hK K
  refine norm_ (a' := ?_) ?_ ?_
  rotate_left
  ·show Act.put _ (some 25) _ = _
   simp only [Act.put, List.setIfInBounds_toArray, List.set_cons_zero, List.set_cons_succ, i64_w, i32_w]
   rfl
  refine pu_ (i := 3) (N := some 26) (v := ?_) (a' := ?_) #[true, true, true, true, false, false, false, false, false, false, false, false, false, false, false, false, false, false] rfl rfl HT_ (Or.inl ⟨by rfl, ?_⟩) ?_ ?_
  rotate_left
  ·exact t7_
  rotate_left
  ·exact t4_
  refine pu_ (i := 4) (N := some 27) (v := ?_) (a' := ?_) #[true, true, true, true, true, false, false, false, false, false, false, false, false, false, false, false, false, false] rfl rfl HT_ (Or.inl ⟨by rfl, ?_⟩) ?_ ?_
  rotate_left
  ·exact t7_
  rotate_left
  ·exact t4_
  refine pu_ (i := 5) (N := some 28) (v := ?_) (a' := ?_) #[true, true, true, true, true, true, false, false, false, false, false, false, false, false, false, false, false, false] rfl rfl HT_ (Or.inl ⟨by rfl, ?_⟩) ?_ ?_
  rotate_left
  ·exact t7_
  rotate_left
  ·exact t4_
  refine pu_ (i := 7) (N := some 30) (v := ?_) (a' := ?_) #[true, true, true, true, true, true, false, true, false, false, false, false, false, false, false, false, false, false] rfl rfl HT_ (Or.inl ⟨by rfl, ?_⟩) ?_ ?_
  rotate_left
  ·exact t7_
  rotate_left
  ·exact t4_
  refine pu_ (i := 10) (N := some 33) (v := ?_) (a' := ?_) #[true, true, true, true, true, true, false, true, false, false, true, false, false, false, false, false, false, false] rfl rfl HT_ (Or.inl ⟨by rfl, ?_⟩) ?_ ?_
  rotate_left
  ·exact t7_
  rotate_left
  ·exact t4_
  refine pu_ (i := 12) (N := some 35) (v := ?_) (a' := ?_) #[true, true, true, true, true, true, false, true, false, false, true, false, true, false, false, false, false, false] rfl rfl HT_ (Or.inl ⟨by rfl, ?_⟩) ?_ ?_
  rotate_left
  ·exact t7_
  rotate_left
  ·exact t4_
  refine pu_ (i := 13) (N := some 36) (v := ?_) (a' := ?_) #[true, true, true, true, true, true, false, true, false, false, true, false, true, true, false, false, false, false] rfl rfl HT_ (Or.inl ⟨by rfl, ?_⟩) ?_ ?_
  rotate_left
  ·exact t7_
  rotate_left
  ·exact t4_
  refine tk_ (i := 6) (N := some 29) (v := ?_) (a' := ?_) #[true, true, true, true, true, true, true, true, false, false, true, false, true, true, false, false, false, false] rfl rfl HT_ HW_ (Or.inl ⟨by rfl, ?_⟩) hHeld ?_ ?_
  rotate_left
  ·rintro w' ⟨s0, s1, s2⟩
   (try simp only [Int.toNat_natCast] at s0 s1 s2)
   go_simp
   with_reducible rfl
  rotate_left
  ·exact t4_
  refine pu_ (i := 8) (N := some 31) (v := ?_) (a' := ?_) #[true, true, true, true, true, true, true, true, true, false, true, false, true, true, false, false, false, false] rfl rfl HT_ (Or.inl ⟨by rfl, ?_⟩) ?_ ?_
  rotate_left
  ·exact t7_
  rotate_left
  ·exact t4_
  refine tk_ (i := 9) (N := some 32) (v := ?_) (a' := ?_) #[true, true, true, true, true, true, true, true, true, true, true, false, true, true, false, false, false, false] rfl rfl HT_ HW_ (Or.inl ⟨by rfl, ?_⟩) hHeld ?_ ?_
  rotate_left
  ·rintro w' ⟨s0, s1, s2⟩
   (try simp only [Int.toNat_natCast] at s0 s1 s2)
   go_simp
   with_reducible rfl
  rotate_left
  ·exact t4_
  refine tk_ (i := 11) (N := some 34) (v := ?_) (a' := ?_) #[true, true, true, true, true, true, true, true, true, true, true, true, true, true, false, false, false, false] rfl rfl HT_ HW_ (Or.inl ⟨by rfl, ?_⟩) hHeld ?_ ?_
  rotate_left
  ·rintro w' ⟨s0, s1, s2⟩
   (try simp only [Int.toNat_natCast] at s0 s1 s2)
   go_simp
   with_reducible rfl
  rotate_left
  ·exact t4_
  refine pu_ (i := 14) (N := some 37) (v := ?_) (a' := ?_) #[true, true, true, true, true, true, true, true, true, true, true, true, true, true, true, false, false, false] rfl rfl HT_ (Or.inl ⟨by rfl, ?_⟩) ?_ ?_
  rotate_left
  ·exact t7_
  rotate_left
  ·exact t4_
  refine tk_ (i := 15) (N := some 38) (v := ?_) (a' := ?_) #[true, true, true, true, true, true, true, true, true, true, true, true, true, true, true, true, false, false] rfl rfl HT_ HW_ (Or.inl ⟨by rfl, ?_⟩) hHeld ?_ ?_
  rotate_left
  ·rintro w' ⟨s0, s1, s2⟩
   (try simp only [Int.toNat_natCast] at s0 s1 s2)
   go_simp
   with_reducible rfl
  rotate_left
  ·exact t4_
  refine pu_ (i := 16) (N := some 39) (v := ?_) (a' := ?_) #[true, true, true, true, true, true, true, true, true, true, true, true, true, true, true, true, true, false] rfl rfl HT_ (Or.inl ⟨by rfl, ?_⟩) ?_ ?_
  rotate_left
  ·exact t7_
  rotate_left
  ·exact t4_
  refine pu_ (i := 17) (N := some 40) (v := ?_) (a' := ?_) #[true, true, true, true, true, true, true, true, true, true, true, true, true, true, true, true, true, true] rfl rfl HT_ (Or.inl ⟨by rfl, ?_⟩) ?_ ?_
  rotate_left
  ·exact t7_
  rotate_left
  ·exact t4_
  refine done_ (done_of HT_.out (by kernel_rfl)) ?_
  try go_wp2
  go_meet
  case rel => exact ⟨_, (((rd l0_0 x6_1) == (rd l0_0 (l1.length : Int)))), t2_, H', ⟨by have := HK1.out; first | omega | exact Nat.le_refl _⟩, ⟨by (with_reducible repeat (first | apply Kd.V_alloc | apply Kd.V_drewN | apply Kd.V_drew)); exact HO_1.out⟩, ⟨by (with_reducible repeat (first | apply Kd.N_alloc | apply Kd.N_drewN | apply Kd.N_drew)); exact HO_5.out⟩, ⟨bb_ BK101.out⟩, ⟨gb_ HB.out⟩⟩
 clear HC13
 try clear c1
 try clear p1
 try clear q1
 try clear hx1
 try clear c2
 try clear p2
 try clear c3
 try clear c3b0
 try clear c3b1
 try clear c3b2
 try clear c4
 try clear p10
 try clear q10
 try clear hx10
 try clear p11
 try clear q11
 try clear hx11
 try clear c12
 try clear c12b0
 try clear c16
 try clear c18
 try clear c18b0
 try clear c19
 try clear c19b0
 try clear c19b1
 try clear c20
 try clear c20b0
 try clear c20b1
 try clear hcz14_0
 try clear hcz5_0
 try clear hcz9_0
 try clear hfz14_0
 try clear hfz5_0
 try clear hfz9_0
 try clear hx109_0
 try clear hx110_0
 try clear p109
 try clear p110
 try clear p2
 try clear q109
 try clear q110
 obtain ⟨kq, x40_12, rfl, HA, HJ12, HO_1, HO_5, BK101, HB⟩ := hcut
 cases kq with
 | zero => exact absurd HA.out (by simp [spec_l03Orders.j1])
 | succ kj12 =>
  have H := HA.out
  clear HA
  simp only [spec_l03Orders.j1] at H
  by_cases c22 : x40_12 = true
  rotate_left
  ·replace c22 := Bool.eq_false_iff.mpr c22
   subst c22
   have H1 : (spec_l03Orders.l0 kj12 l1 x5_1 (wrap64 (x6_1 + 1)) l0_0) = some r := by rw [if_neg (show ¬ (false = true) by decide)] at H; exact H
   clear H
   have H := H1
   clear H1
   have H' := Aside0.mk H
   clear H
   go_wp2
   go_roundg kj12
   case measure => have := HK1.out; have := HJ12.out; omega
   case rel => exact ⟨(x5_1), (wrap64 (x6_1 + 1)), t2_, H', ⟨by have := HK1.out; have := HJ12.out; omega⟩, ⟨by (with_reducible repeat (first | apply Kd.V_alloc | apply Kd.V_drewN | apply Kd.V_drew)); exact HO_1.out⟩, ⟨by (with_reducible repeat (first | apply Kd.N_alloc | apply Kd.N_drewN | apply Kd.N_drew)); exact HO_5.out⟩, ⟨bb_ BK101.out⟩, ⟨gb_ HB.out⟩⟩
  subst c22
  have H1 : ((spec_l01Own.f l1).bind fun t111 => ((some (([x6_1] : List Int) : List Int)).bind fun y114 => (if t111.length + y114.length < 17592186044416 then ((spec_l03Orders.f kj12 l0_0 (t111 ++ y114)).bind fun t120 => (if x5_1.length + t120.length < 5864062014805 then (spec_l03Orders.l0 kj12 l1 (x5_1 ++ t120) (wrap64 (x6_1 + 1)) l0_0) else (none))) else (none)))) = some r := by rw [if_pos rfl] at H; exact H
  clear H
  have H := H1
  clear H1
  replace H := Option.bind_eq_some_iff.mp H
  obtain ⟨t111, A230, H⟩ := H
  replace H : ((some (([x6_1] : List Int) : List Int)).bind fun y114 => (if t111.length + y114.length < 17592186044416 then ((spec_l03Orders.f kj12 l0_0 (t111 ++ y114)).bind fun t120 => (if x5_1.length + t120.length < 5864062014805 then (spec_l03Orders.l0 kj12 l1 (x5_1 ++ t120) (wrap64 (x6_1 + 1)) l0_0) else (none))) else (none))) = some r := H
  have A23 := Aside0.mk A230
  clear A230
  obtain ⟨y114, hy114⟩ : ∃ y_ : List Int, y_ = (([x6_1] : List Int)) := ⟨_, rfl⟩
  replace H : (if t111.length + y114.length < 17592186044416 then ((spec_l03Orders.f kj12 l0_0 (t111 ++ y114)).bind fun t120 => (if x5_1.length + t120.length < 5864062014805 then (spec_l03Orders.l0 kj12 l1 (x5_1 ++ t120) (wrap64 (x6_1 + 1)) l0_0) else (none))) else (none)) = some r := y_ H
  have Ny114 := Aside0.mk hy114
  clear hy114
  by_cases c24 : t111.length + y114.length < 17592186044416
  rotate_left
  ·rw [if_neg c24] at H
   exact absurd H (by simp)
  rw [if_pos c24] at H
  have LMc24 := Aside0.mk c24
  clear c24
  obtain ⟨y117, hy117⟩ : ∃ y_ : List Int, y_ = (t111 ++ y114) := ⟨_, rfl⟩
  replace H : ((spec_l03Orders.f kj12 l0_0 y117).bind fun t120 => (if x5_1.length + t120.length < 5864062014805 then (spec_l03Orders.l0 kj12 l1 (x5_1 ++ t120) (wrap64 (x6_1 + 1)) l0_0) else (none))) = some r := y_ H
  have Ny117 := Aside0.mk hy117
  clear hy117
  replace H := Option.bind_eq_some_iff.mp H
  obtain ⟨t120, A250, H⟩ := H
  replace H : (if x5_1.length + t120.length < 5864062014805 then (spec_l03Orders.l0 kj12 l1 (x5_1 ++ t120) (wrap64 (x6_1 + 1)) l0_0) else (none)) = some r := H
  have A25 := Aside0.mk A250
  clear A250
  by_cases c26 : x5_1.length + t120.length < 5864062014805
  rotate_left
  ·rw [if_neg c26] at H
   exact absurd H (by simp)
  rw [if_pos c26] at H
  have LMc26 := Aside0.mk c26
  clear c26
  obtain ⟨y123, hy123⟩ : ∃ y_ : List (List Int), y_ = (x5_1 ++ t120) := ⟨_, rfl⟩
  replace H : (spec_l03Orders.l0 kj12 l1 y123 (wrap64 (x6_1 + 1)) l0_0) = some r := y_ H
  have Ny123 := Aside0.mk hy123
  clear hy123
  have H' := Aside0.mk H
  clear H
  obtain ⟨Ao27, co27, eo27⟩ := Kd.N_slice HO_5.out
  subst eo27
  try go_wp2
  replace HO_1 := Aside0.mk (Kd.V_drew HO_1.out)
  replace HO_5 := Aside0.mk (Kd.N_drew HO_5.out)
  replace BK101 := Aside0.mk (blk_drew BK101.out)
  replace HB := Aside0.mk (below_drew1 HB.out)
  refine start_ (n := 10) (S := fun w' => w'.cell? ⟨gb101, 0, none⟩ = some (.slice A0_0 l0_0.length c0_0)) (ds := []) #[false, false, false, false, false, false, false, false, false, false] (by kernel_rfl) rfl rfl ((blk_cell BK101.out 0).trans rfl) (fun hHeld => ?_); refine with_tabW spec_l03Orders.tab8 spec_l03Orders.bits8 (fun HT_ HW_ => ?_)
  generalize wc.drew = w28 at HO_1 HO_5 BK101 HB hHeld ⊢
  refine pu_ (i := 0) (N := some 41) (v := ?_) (a' := ?_) #[true, false, false, false, false, false, false, false, false, false] rfl rfl HT_ (Or.inl ⟨by rfl, ?_⟩) ?_ ?_
  rotate_left
  ·exact t7_
  rotate_left
  ·exact t4_
  refine pu_ (i := 2) (N := some 43) (v := ?_) (a' := ?_) #[true, false, true, false, false, false, false, false, false, false] rfl rfl HT_ (Or.inl ⟨by rfl, ?_⟩) ?_ ?_
  rotate_left
  ·exact t7_
  rotate_left
  ·exact t4_
  refine pu_ (i := 4) (N := some 45) (v := ?_) (a' := ?_) #[true, false, true, false, true, false, false, false, false, false] rfl rfl HT_ (Or.inl ⟨by rfl, ?_⟩) ?_ ?_
  rotate_left
  ·exact t7_
  rotate_left
  ·exact t4_
  refine tk_ (i := 1) (N := some 42) (v := ?_) (a' := ?_) #[true, true, true, false, true, false, false, false, false, false] rfl rfl HT_ HW_ (Or.inl ⟨by rfl, ?_⟩) hHeld ?_ ?_
  rotate_left
  ·intro w' s0
   go_simp
   with_reducible rfl
  rotate_left
  ·exact t4_
  refine join_ (σ := Value × Value) 4 #[true, true, true, true, true, true, false, false, false, false] (fun s_ => [(44, s_.1), (46, s_.2)]) (fun s_ w' => (w'.cell? ⟨gb101, 0, none⟩ = some (.slice A0_0 l0_0.length c0_0)) ∧ (Kd.R (Kd.int .i64) 2 w' w.heap.size (fun k_ => (w.heap.size ≤ k_) ∧ OB_ k_ s_.2) s_.1 t111) ∧ (Kd.R (Kd.int .i64) 2 w' w.heap.size (fun k_ => (w.heap.size ≤ k_) ∧ OB_ k_ s_.1) s_.2 y114) ∧ (Kd.V (Kd.int .i64) 2 w' w.heap.size (fun k_ => (P1_ k_ ∨ w.heap.size ≤ k_) ∧ OB_ k_ s_.1 ∧ OB_ k_ s_.2 ∧ OB_ k_ (.slice Ao27 x5_1.length co27) ∧ k_ ≠ gb101) (.slice A1 l1.length c1) l1) ∧ (Kd.N (Kd.slice 2 (Kd.int .i64)) 22 w' w.heap.size (fun k_ => (P1_ k_ ∨ w.heap.size ≤ k_) ∧ OB_ k_ s_.1 ∧ OB_ k_ s_.2 ∧ k_ ≠ gb101) (.slice Ao27 x5_1.length co27) x5_1) ∧ (w'.heap[gb101]? = some (.cells #[.slice A0_0 l0_0.length c0_0] 28 (0, 0))) ∧ (Below w.heap.size w w')) ?_ ?_
  rotate_left
  ·intro hCont
   refine two_ (i := 3) (j := 5) (Ni := some 44) (Nj := some 46) #[true, true, true, true, true, false, false, false, false, false] #[true, true, true, false, true, true, false, false, false, false] rfl rfl rfl rfl (two_of HT_.out (by kernel_rfl)) (by decide) (by decide) (fun K hK => ?_) (fun K hK => ?_)
   ·skip
    refine goes_ Try.func32 (by kernel_rfl) rfl #[.slice A1 l1.length c1] (by rfl) rfl rfl t1_ ?_
    with_reducible refine (spec_l01Own.calls _ _ l1 t111 _ ?side1 ?side2 A23.out).mono ?_
    (case side1 => repeat (first | exact (Kd.V_reads' HO_1.out).2.2 | (with_reducible refine Kd.C_alloc ?_ _) | (with_reducible refine Kd.C_drewN ?_ _) | (with_reducible refine Kd.C_drew ?_)))
    (case side2 => exact (Kd.V_reads' HO_1.out).2.1)
    rintro e w29 ⟨v112, rfl, ho0, hb⟩
    refine ⟨_, rfl, ?_⟩
    replace HO_1 := Aside0.mk (Kd.V_elder' (by (with_reducible repeat (first | apply Kd.V_alloc | apply Kd.V_drewN | apply Kd.V_drew)); exact HO_1.out) (Kd.R_base ho0) hb)
    replace HO_5 := Aside0.mk (Kd.N_elder' (by (with_reducible repeat (first | apply Kd.N_alloc | apply Kd.N_drewN | apply Kd.N_drew)); exact HO_5.out) (Kd.R_base ho0) hb)
    have HO113 := Aside0.mk (Kd.R_lower (Kd.R_newM (M := fun k_ => (w.heap.size ≤ k_)) ho0 (below_size (gb_ HB.out)) (fun k_ h_ => h_)) (below_size (gb_ HB.out)))
    replace BK101 := a2_ BK101 hb
    replace HB := b1_ HB hb
    (try clear hb)
    (try clear hb2)
    (try clear hk)
    (try clear hi)
    (try clear ho0)
    refine hK.out _ _ ((blk_cell BK101.out 0).trans rfl) (fun hHeld => ?_)
    clear hK K
    refine norm_ (a' := ?_) ?_ ?_
    rotate_left
    ·show Act.put _ (some 44) _ = _
     simp only [Act.put, List.setIfInBounds_toArray, List.set_cons_zero, List.set_cons_succ, i64_w, i32_w]
     rfl
    refine on_ (i := 5) (N := some 46) #[true, true, true, true, true, true, false, false, false, false] rfl rfl HT_ (fun K hK => ?_)
    refine Kd.R_lit_step (Kd.int .i64) _ 2 ?hg (N := 46) ?hd (xs := ([x6_1] : List Int)) (inner := [.int .i64 x6_1]) (ok := fun _ => True) (okp := fun _ => True) ?hr ?hp (fun _ hk => hk) trivial (Below.refl _ _) (Nat.le_refl _) (by simp) ?_; (case hd => rfl); (case hg => rfl); (case hr => exact t3_); (case hp => exact (Reps.one (show Kd.M (Kd.int .i64) _ _ _ x6_1 [.int .i64 x6_1] from rfl) (Reps.none _ _)))
    intro v115 w30 ho31 hb hg_ hnew_
    clear hg_ hnew_
    (first | rw [← Ny114.out] at ho31 | (simp only [Int.reduceToNat] at ho31; rw [← Ny114.out] at ho31))
    have n0_ := Aside0.mk (Kd.V_elder' (by (with_reducible repeat (first | apply Kd.V_alloc | apply Kd.V_drewN | apply Kd.V_drew)); exact HO_1.out) (Kd.R_base ho31) hb)
    have n1_ := Aside0.mk (Kd.N_elder' (by (with_reducible repeat (first | apply Kd.N_alloc | apply Kd.N_drewN | apply Kd.N_drew)); exact HO_5.out) (Kd.R_base ho31) hb)
    have n2_ := a5_ HO113 ho31 hb
    have n3_ := Aside0.mk (Kd.R_lower (Kd.R_new' (Kd.R_newM (M := fun k_ => (w.heap.size ≤ k_)) ho31 (below_size (gb_ HB.out)) (fun k_ h_ => h_)) (Kd.R_lt (rb_ HO113.out))) (below_size (gb_ HB.out)))
    have n4_ := a2_ BK101 hb
    have n5_ := b1_ HB hb
    clear HO_1 HO_5 HO113 BK101 HB
    have HO_1 := n0_
    have HO_5 := n1_
    have HO113 := n2_
    have HO116 := n3_
    have BK101 := n4_
    have HB := n5_
    clear n0_ n1_ n2_ n3_ n4_ n5_ hb ho31
    refine hK.out _ _ ((blk_cell BK101.out 0).trans rfl) (fun hHeld => ?_)
    clear hK K
    refine norm_ (a' := ?_) ?_ ?_
    rotate_left
    ·show Act.put _ (some 46) _ = _
     simp only [Act.put, List.setIfInBounds_toArray, List.set_cons_zero, List.set_cons_succ, i64_w, i32_w]
     rfl
    exact norm_ (by simp only [putAll, Act.put, List.setIfInBounds_toArray, List.set_cons_zero, List.set_cons_succ]) (hCont (v112, v115) _ ⟨hHeld, (rb_ (Kd.R_mono HO113.out (fun _ hk => ⟨hk.1.1, hk.2⟩))), (rb_ (Kd.R_mono HO116.out (fun _ hk => ⟨hk.1.1, hk.2⟩))), (by (with_reducible repeat (first | apply Kd.V_alloc | apply Kd.V_drewN | apply Kd.V_drew)); exact Kd.V_mono HO_1.out (fun _ hk => ⟨hk.1.1.1, ⟨hk.1.2, ⟨hk.2, ⟨hk.1.1.2.1, hk.1.1.2.2⟩⟩⟩⟩)), (by (with_reducible repeat (first | apply Kd.N_alloc | apply Kd.N_drewN | apply Kd.N_drew)); exact Kd.N_mono HO_5.out (fun _ hk => ⟨hk.1.1.1, ⟨hk.1.2, ⟨hk.2, hk.1.1.2⟩⟩⟩)), (bb_ BK101.out), (gb_ HB.out)⟩)
   ·skip
    refine Kd.R_lit_step (Kd.int .i64) _ 2 ?hg (N := 46) ?hd (xs := ([x6_1] : List Int)) (inner := [.int .i64 x6_1]) (ok := fun _ => True) (okp := fun _ => True) ?hr ?hp (fun _ hk => hk) trivial (Below.refl _ _) (Nat.le_refl _) (by simp) ?_; (case hd => rfl); (case hg => rfl); (case hr => exact t3_); (case hp => exact (Reps.one (show Kd.M (Kd.int .i64) _ _ _ x6_1 [.int .i64 x6_1] from rfl) (Reps.none _ _)))
    intro v115 w29 ho30 hb hg_ hnew_
    clear hg_ hnew_
    (first | rw [← Ny114.out] at ho30 | (simp only [Int.reduceToNat] at ho30; rw [← Ny114.out] at ho30))
    have n0_ := Aside0.mk (Kd.V_elder' (by (with_reducible repeat (first | apply Kd.V_alloc | apply Kd.V_drewN | apply Kd.V_drew)); exact HO_1.out) (Kd.R_base ho30) hb)
    have n1_ := Aside0.mk (Kd.N_elder' (by (with_reducible repeat (first | apply Kd.N_alloc | apply Kd.N_drewN | apply Kd.N_drew)); exact HO_5.out) (Kd.R_base ho30) hb)
    have n2_ := Aside0.mk (Kd.R_lower (Kd.R_newM (M := fun k_ => (w.heap.size ≤ k_)) ho30 (below_size (gb_ HB.out)) (fun k_ h_ => h_)) (below_size (gb_ HB.out)))
    have n3_ := a2_ BK101 hb
    have n4_ := b1_ HB hb
    clear HO_1 HO_5 BK101 HB
    have HO_1 := n0_
    have HO_5 := n1_
    have HO116 := n2_
    have BK101 := n3_
    have HB := n4_
    clear n0_ n1_ n2_ n3_ n4_ hb ho30
    refine hK.out _ _ ((blk_cell BK101.out 0).trans rfl) (fun hHeld => ?_)
    clear hK K
    refine norm_ (a' := ?_) ?_ ?_
    rotate_left
    ·show Act.put _ (some 46) _ = _
     simp only [Act.put, List.setIfInBounds_toArray, List.set_cons_zero, List.set_cons_succ, i64_w, i32_w]
     rfl
    refine on_ (i := 3) (N := some 44) #[true, true, true, true, true, true, false, false, false, false] rfl rfl HT_ (fun K hK => ?_)
    refine goes_ Try.func32 (by kernel_rfl) rfl #[.slice A1 l1.length c1] (by rfl) rfl rfl t1_ ?_
    with_reducible refine (spec_l01Own.calls _ _ l1 t111 _ ?side1 ?side2 A23.out).mono ?_
    (case side1 => repeat (first | exact (Kd.V_reads' HO_1.out).2.2 | (with_reducible refine Kd.C_alloc ?_ _) | (with_reducible refine Kd.C_drewN ?_ _) | (with_reducible refine Kd.C_drew ?_)))
    (case side2 => exact (Kd.V_reads' HO_1.out).2.1)
    rintro e w31 ⟨v112, rfl, ho0, hb⟩
    refine ⟨_, rfl, ?_⟩
    replace HO_1 := Aside0.mk (Kd.V_elder' (by (with_reducible repeat (first | apply Kd.V_alloc | apply Kd.V_drewN | apply Kd.V_drew)); exact HO_1.out) (Kd.R_base ho0) hb)
    replace HO_5 := Aside0.mk (Kd.N_elder' (by (with_reducible repeat (first | apply Kd.N_alloc | apply Kd.N_drewN | apply Kd.N_drew)); exact HO_5.out) (Kd.R_base ho0) hb)
    have HO113 := Aside0.mk (Kd.R_lower (Kd.R_new' (Kd.R_newM (M := fun k_ => (w.heap.size ≤ k_)) ho0 (below_size (gb_ HB.out)) (fun k_ h_ => h_)) (Kd.R_lt (rb_ HO116.out))) (below_size (gb_ HB.out)))
    replace HO116 := a5_ HO116 ho0 hb
    replace BK101 := a2_ BK101 hb
    replace HB := b1_ HB hb
    (try clear hb)
    (try clear hb2)
    (try clear hk)
    (try clear hi)
    (try clear ho0)
    refine hK.out _ _ ((blk_cell BK101.out 0).trans rfl) (fun hHeld => ?_)
    clear hK K
    refine norm_ (a' := ?_) ?_ ?_
    rotate_left
    ·show Act.put _ (some 44) _ = _
     simp only [Act.put, List.setIfInBounds_toArray, List.set_cons_zero, List.set_cons_succ, i64_w, i32_w]
     rfl
    exact norm_ (by simp only [putAll, Act.put, List.setIfInBounds_toArray, List.set_cons_zero, List.set_cons_succ]) (hCont (v112, v115) _ ⟨hHeld, (rb_ (Kd.R_mono HO113.out (fun _ hk => ⟨hk.1.1, hk.2⟩))), (rb_ (Kd.R_mono HO116.out (fun _ hk => ⟨hk.1.1, hk.2⟩))), (by (with_reducible repeat (first | apply Kd.V_alloc | apply Kd.V_drewN | apply Kd.V_drew)); exact Kd.V_mono HO_1.out (fun _ hk => ⟨hk.1.1.1, ⟨hk.2, ⟨hk.1.2, ⟨hk.1.1.2.1, hk.1.1.2.2⟩⟩⟩⟩)), (by (with_reducible repeat (first | apply Kd.N_alloc | apply Kd.N_drewN | apply Kd.N_drew)); exact Kd.N_mono HO_5.out (fun _ hk => ⟨hk.1.1.1, ⟨hk.2, ⟨hk.1.2, hk.1.1.2⟩⟩⟩)), (bb_ BK101.out), (gb_ HB.out)⟩)
  rintro ⟨v112, v115⟩ w32 ⟨hS_, h0_, h1_, h2_, h3_, h4_, h5_⟩
  have n0_ : Aside0 (Kd.R (Kd.int .i64) 2 w32 w.heap.size (fun k_ => (w.heap.size ≤ k_) ∧ OB_ k_ v115) v112 t111) := ⟨h0_⟩
  have n1_ : Aside0 (Kd.R (Kd.int .i64) 2 w32 w.heap.size (fun k_ => (w.heap.size ≤ k_) ∧ OB_ k_ v112) v115 y114) := ⟨h1_⟩
  have n2_ : Aside0 (Kd.V (Kd.int .i64) 2 w32 w.heap.size (fun k_ => (P1_ k_ ∨ w.heap.size ≤ k_) ∧ OB_ k_ v112 ∧ OB_ k_ v115 ∧ OB_ k_ (.slice Ao27 x5_1.length co27) ∧ k_ ≠ gb101) (.slice A1 l1.length c1) l1) := ⟨h2_⟩
  have n3_ : Aside0 (Kd.N (Kd.slice 2 (Kd.int .i64)) 22 w32 w.heap.size (fun k_ => (P1_ k_ ∨ w.heap.size ≤ k_) ∧ OB_ k_ v112 ∧ OB_ k_ v115 ∧ k_ ≠ gb101) (.slice Ao27 x5_1.length co27) x5_1) := ⟨h3_⟩
  have n4_ : Aside0 (w32.heap[gb101]? = some (.cells #[.slice A0_0 l0_0.length c0_0] 28 (0, 0))) := ⟨h4_⟩
  have n5_ : Aside0 (Below w.heap.size w w32) := ⟨h5_⟩
  clear HO_1 HO_5 BK101 HB h0_ h1_ h2_ h3_ h4_ h5_
  have HO113 := n0_
  have HO116 := n1_
  have HO_1 := n2_
  have HO_5 := n3_
  have BK101 := n4_
  have HB := n5_
  clear n0_ n1_ n2_ n3_ n4_ n5_
  have hHeld : w32.cell? ⟨gb101, 0, none⟩ = some (.slice A0_0 l0_0.length c0_0) := hS_
  obtain ⟨Ao34, co34, eo34⟩ := Kd.R_slice HO116.out
  (first | subst eo34 | (injection eo34 with f1_ f2_ f3_; have f4_ := f1_.symm; have f5_ := f3_.symm; clear f1_ f2_ f3_; subst f4_; subst f5_))
  refine norm_ (a' := ?_) ?_ ?_
  rotate_left
  ·simp only [putAll, Act.put, List.setIfInBounds_toArray, List.set_cons_zero, List.set_cons_succ]
   rfl
  refine on_ (i := 6) (N := some 47) #[true, true, true, true, true, true, true, false, false, false] rfl rfl HT_ (fun K hK => ?_)
  refine Kd.R_append_rows_step (Kd.int .i64) (w0 := w) w.heap.size (by rfl) (.tmp 44) (.tmp 46) 22 2 (.int .i64 0) 8 rfl Try.underlying22 info2 rfl (by decide) (by omega) v112 t111 y114 _ _ _ (fun k_ => (w.heap.size ≤ k_) ∧ OB_ k_ (.slice Ao34 y114.length co34)) (fun _ => False) rfl rfl ?aO ?aR (fun _ _ h => h) (fun _ h => h.elim) ?aF ?aB ?aS ?aL ?_
  (case aR => repeat (first | exact (Kd.R_reads' HO116.out).2.2 | (with_reducible refine Kd.C_alloc ?_ _) | (with_reducible refine Kd.C_drewN ?_ _) | (with_reducible refine Kd.C_drew ?_)))
  (case aB => exact (gb_ HB.out))
  (case aF => exact (fun k_ hk => ⟨(Nat.le_trans (below_size (gb_ HB.out)) hk), Kd.fresh' (Kd.R_lt (rb_ HO116.out)) k_ hk⟩))
  (case aO => exact (rb_ HO113.out))
  (case aS => exact (below_size (gb_ HB.out)))
  (case aL => have := LMc24.out; omega)
  intro v118 w33 ho hb hg hat
  rw [← Ny117.out] at ho
  have n0_ := Aside0.mk (Kd.V_afterv (ok := (fun k_ => (P1_ k_ ∨ w.heap.size ≤ k_) ∧ OB_ k_ (.slice Ao27 x5_1.length co27) ∧ OB_ k_ (.slice Ao34 y114.length co34) ∧ k_ ≠ gb101)) (by (with_reducible repeat (first | apply Kd.V_alloc | apply Kd.V_drewN | apply Kd.V_drew)); exact Kd.V_mono HO_1.out (fun _ hk => ⟨⟨hk.1, ⟨hk.2.2.2.1, ⟨hk.2.2.1, hk.2.2.2.2⟩⟩⟩, hk.2.1⟩)) hg hat)
  have n1_ := Aside0.mk (Kd.N_afterv (ok := (fun k_ => (P1_ k_ ∨ w.heap.size ≤ k_) ∧ OB_ k_ (.slice Ao34 y114.length co34) ∧ k_ ≠ gb101)) (by (with_reducible repeat (first | apply Kd.N_alloc | apply Kd.N_drewN | apply Kd.N_drew)); exact Kd.N_mono HO_5.out (fun _ hk => ⟨⟨hk.1, ⟨hk.2.2.1, hk.2.2.2⟩⟩, hk.2.1⟩)) hg hat)
  have n2_ := Aside0.mk (blk_grown (g := gb101) (o := .cells #[.slice A0_0 l0_0.length c0_0] 28 (0, 0)) (bb_ BK101.out) hg (Kd.R_ne HO113.out BK101.out (by decide)))
  have n3_ := Aside0.mk (Kd.R_after (ok := (fun k_ => (w.heap.size ≤ k_))) (rb_ HO116.out) hg hat)
  have n4_ := Aside0.mk (hb)
  have n5_ := Aside0.mk (ho)
  clear HO_1 HO_5 BK101 HO116 HB HO113
  have HO_1 := n0_
  have HO_5 := n1_
  have BK101 := n2_
  have HO116 := n3_
  have HB := n4_
  have HO119 := n5_
  clear n0_ n1_ n2_ n3_ n4_ n5_ ho hb hg hat
  obtain ⟨Ao35, co35, eo35⟩ := Kd.R_slice HO119.out
  (first | subst eo35 | (injection eo35 with f1_ f2_ f3_; have f4_ := f1_.symm; have f5_ := f3_.symm; clear f1_ f2_ f3_; subst f4_; subst f5_))
  refine hK.out _ _ ((blk_cell BK101.out 0).trans rfl) (fun hHeld => ?_)
  clear hK K
  refine norm_ (a' := ?_) ?_ ?_
  rotate_left
  ·show Act.put _ (some 47) _ = _
   simp only [Act.put, List.setIfInBounds_toArray, List.set_cons_zero, List.set_cons_succ, i64_w, i32_w]
   rfl
  refine on_ (i := 7) (N := some 48) #[true, true, true, true, true, true, true, true, false, false] rfl rfl HT_ (fun K hK => ?_)
  refine goes_ Try.func33 (by kernel_rfl) rfl #[.agg #[.slice A0_0 l0_0.length c0_0], .slice Ao35 y117.length co35] (by rfl) rfl rfl t1_ ?_
  with_reducible refine (ih kj12 (by have := HK1.out; have := HJ12.out; omega) _ _ l0_0 (fun k_ => some k_ = (.slice Ao35 y117.length co35 : Value).ownBlock) _ _ y117 t120 _ ?side1 ?side2 ?side3 A25.out).mono ?_
  (case side1 => exact c2_ HR0_0 HB)
  (case side2 => exact HC0_0.out)
  (case side3 => exact Kd.R_V (Kd.R_tight rfl (Kd.R_types (Kd.R_apart' (HO119.out) (Kd.N_typed HO_5.out) (by decide)) BK101.out (by decide))))
  rintro e w36 ⟨v121, rfl, ho0, hb⟩
  refine ⟨_, rfl, ?_⟩
  replace HO_1 := Aside0.mk (Kd.V_elder' (by (with_reducible repeat (first | apply Kd.V_alloc | apply Kd.V_drewN | apply Kd.V_drew)); exact HO_1.out) (Kd.N_base ho0) hb)
  have HO122 := Aside0.mk (Kd.N_lower (Kd.N_mono (ok' := fun k_ => (P1_ k_ ∨ w.heap.size ≤ k_) ∧ OB_ k_ (.slice Ao27 x5_1.length co27) ∧ OB_ k_ (.slice Ao34 y114.length co34) ∧ k_ ≠ gb101) ho0 (fun k_ hk_ => ⟨Or.elim hk_ (fun hs_ => (.inr (((Kd.R_types (Kd.R_apart' (HO119.out) (Kd.N_typed HO_5.out) (by decide)) BK101.out (by decide)).1 k_ hs_.symm).1.1.1))) (fun hn_ => (.inr (Nat.le_trans (below_size (gb_ HB.out)) hn_))), Or.elim hk_ (fun hs_ => ((Kd.R_types (Kd.R_apart' (HO119.out) (Kd.N_typed HO_5.out) (by decide)) BK101.out (by decide)).1 k_ hs_.symm).1.2) (fun hn_ => (Kd.fresh' (Kd.N_lt (by (with_reducible repeat (first | apply Kd.N_alloc | apply Kd.N_drewN | apply Kd.N_drew)); exact HO_5.out)) k_ hn_)), Or.elim hk_ (fun hs_ => ((Kd.R_types (Kd.R_apart' (HO119.out) (Kd.N_typed HO_5.out) (by decide)) BK101.out (by decide)).1 k_ hs_.symm).1.1.2) (fun hn_ => (Kd.fresh' (Kd.R_lt (rb_ HO116.out)) k_ hn_)), Or.elim hk_ (fun hs_ => ((Kd.R_types (Kd.R_apart' (HO119.out) (Kd.N_typed HO_5.out) (by decide)) BK101.out (by decide)).1 k_ hs_.symm).2) (fun hn_ => (Kd.freshB (g := gb101) (o := .cells #[.slice A0_0 l0_0.length c0_0] 28 (0, 0)) (bb_ BK101.out) k_ hn_))⟩)) (below_size (gb_ HB.out)))
  replace HO_5 := Aside0.mk (Kd.N_elder' (by (with_reducible repeat (first | apply Kd.N_alloc | apply Kd.N_drewN | apply Kd.N_drew)); exact HO_5.out) (Kd.N_base ho0) hb)
  replace HO116 := a1_ HO116 hb
  replace HO119 := a1_ HO119 hb
  replace BK101 := a2_ BK101 hb
  replace HB := b1_ HB hb
  (try clear hb)
  (try clear hb2)
  (try clear hk)
  (try clear hi)
  (try clear ho0)
  obtain ⟨Ao38, co38, eo38⟩ := Kd.N_slice HO122.out
  (first | subst eo38 | (injection eo38 with f1_ f2_ f3_; have f4_ := f1_.symm; have f5_ := f3_.symm; clear f1_ f2_ f3_; subst f4_; subst f5_))
  refine hK.out _ _ ((blk_cell BK101.out 0).trans rfl) (fun hHeld => ?_)
  clear hK K
  refine norm_ (a' := ?_) ?_ ?_
  rotate_left
  ·show Act.put _ (some 48) _ = _
   simp only [Act.put, List.setIfInBounds_toArray, List.set_cons_zero, List.set_cons_succ, i64_w, i32_w]
   rfl
  refine on_ (i := 8) (N := some 49) #[true, true, true, true, true, true, true, true, true, false] rfl rfl HT_ (fun K hK => ?_)
  refine Kd.N_append_rows_step (Kd.slice 2 (Kd.int .i64)) (w0 := w) w.heap.size (by rfl) (.tmp 41) (.tmp 48) 52 22 (.slice none 0 0) 24 rfl Try.underlying52 info22 rfl (by decide) (by omega) (.slice Ao27 x5_1.length co27) x5_1 t120 _ _ _ (fun k_ => (P1_ k_ ∨ w.heap.size ≤ k_) ∧ OB_ k_ (.slice Ao34 y114.length co34) ∧ k_ ≠ gb101) (fun k_ => ((fun k_ => (P1_ k_ ∨ w.heap.size ≤ k_) ∧ OB_ k_ (.slice Ao34 y114.length co34) ∧ k_ ≠ gb101)) k_ ∧ OB_ k_ (.slice Ao27 x5_1.length co27)) rfl rfl ?aO ?aR (fun _ hk => hk) ?aF ?aB ?aS ?aL ?_
  (case aR => exact (by skip; exact Kd.N_F (Kd.N_mono (ok' := (fun k_ => ((fun k_ => (P1_ k_ ∨ w.heap.size ≤ k_) ∧ OB_ k_ (.slice Ao34 y114.length co34) ∧ k_ ≠ gb101)) k_ ∧ OB_ k_ (.slice Ao27 x5_1.length co27))) (HO122.out) (fun k_ hk => ⟨⟨hk.1, ⟨hk.2.2.1, hk.2.2.2⟩⟩, hk.2.1⟩))))
  (case aB => exact (gb_ HB.out))
  (case aF => exact (fun k_ hk => ⟨(.inr (Nat.le_trans (below_size (gb_ HB.out)) hk)), Kd.fresh' (Kd.R_lt (rb_ HO116.out)) k_ hk, Kd.freshB (g := gb101) (o := .cells #[.slice A0_0 l0_0.length c0_0] 28 (0, 0)) (bb_ BK101.out) k_ hk⟩))
  (case aO => exact (by (with_reducible repeat (first | apply Kd.N_alloc | apply Kd.N_drewN | apply Kd.N_drew)); exact Kd.N_mono HO_5.out (fun _ hk => ⟨hk.1.1.1, ⟨hk.1.1.2.1, hk.1.1.2.2⟩⟩)))
  (case aS => exact (below_size (gb_ HB.out)))
  (case aL => have := LMc26.out; omega)
  intro v124 w37 ho hb hg hat
  rw [← Ny123.out] at ho
  have n0_ := Aside0.mk (Kd.V_afterv (ok := (fun k_ => (P1_ k_ ∨ w.heap.size ≤ k_) ∧ OB_ k_ (.slice Ao34 y114.length co34) ∧ OB_ k_ (.slice Ao35 y117.length co35) ∧ OB_ k_ (.slice Ao38 t120.length co38) ∧ k_ ≠ gb101)) (by (with_reducible repeat (first | apply Kd.V_alloc | apply Kd.V_drewN | apply Kd.V_drew)); exact Kd.V_mono HO_1.out (fun _ hk => ⟨⟨hk.1.1.1, ⟨hk.1.1.2.2.1, ⟨hk.1.2, ⟨hk.2, hk.1.1.2.2.2⟩⟩⟩⟩, hk.1.1.2.1⟩)) hg hat)
  have n1_ := Aside0.mk (blk_grown (g := gb101) (o := .cells #[.slice A0_0 l0_0.length c0_0] 28 (0, 0)) (bb_ BK101.out) hg (Kd.N_ne HO_5.out BK101.out (by decide)))
  have n2_ := Aside0.mk (Kd.R_over' (rb_ HO116.out) (Kd.N_typed (by (with_reducible repeat (first | apply Kd.N_alloc | apply Kd.N_drewN | apply Kd.N_drew)); exact HO_5.out)) (by decide) hg)
  have n3_ := Aside0.mk (Kd.R_over' (rb_ HO119.out) (Kd.N_typed (by (with_reducible repeat (first | apply Kd.N_alloc | apply Kd.N_drewN | apply Kd.N_drew)); exact HO_5.out)) (by decide) hg)
  have n4_ := Aside0.mk (Kd.N_afterv (ok := (fun k_ => (P1_ k_ ∨ w.heap.size ≤ k_) ∧ OB_ k_ (.slice Ao34 y114.length co34) ∧ k_ ≠ gb101)) (by (with_reducible repeat (first | apply Kd.N_alloc | apply Kd.N_drewN | apply Kd.N_drew)); exact Kd.N_mono HO122.out (fun _ hk => ⟨⟨hk.1, ⟨hk.2.2.1, hk.2.2.2⟩⟩, hk.2.1⟩)) hg hat)
  have n5_ := Aside0.mk (hb)
  have n6_ := Aside0.mk (ho)
  clear HO_1 BK101 HO116 HO119 HO122 HB HO_5
  have HO_1 := n0_
  have BK101 := n1_
  have HO116 := n2_
  have HO119 := n3_
  have HO122 := n4_
  have HB := n5_
  have HO125 := n6_
  clear n0_ n1_ n2_ n3_ n4_ n5_ n6_ ho hb hg hat
  refine hK.out _ _ ((blk_cell BK101.out 0).trans rfl) (fun hHeld => ?_)
  clear hK K
  refine norm_ (a' := ?_) ?_ ?_
  rotate_left
  ·show Act.put _ (some 49) _ = _
   simp only [Act.put, List.setIfInBounds_toArray, List.set_cons_zero, List.set_cons_succ, i64_w, i32_w]
   rfl
  refine pu_ (i := 9) (N := some 5) (v := ?_) (a' := ?_) #[true, true, true, true, true, true, true, true, true, true] rfl rfl HT_ (Or.inl ⟨by rfl, ?_⟩) ?_ ?_
  rotate_left
  ·exact t7_
  rotate_left
  ·exact t4_
  refine done_ (done_of HT_.out (by kernel_rfl)) ?_
  try go_wp2
  go_roundg kj12
  case measure => have := HK1.out; have := HJ12.out; omega
  case rel => exact ⟨(y123), (wrap64 (x6_1 + 1)), t2_, H', ⟨by have := HK1.out; have := HJ12.out; omega⟩, ⟨by (with_reducible repeat (first | apply Kd.V_alloc | apply Kd.V_drewN | apply Kd.V_drew)); exact Kd.V_mono HO_1.out (fun _ hk => ⟨hk.1.1, ⟨hk.2, hk.1.2.2.2.2⟩⟩)⟩, ⟨by (with_reducible repeat (first | apply Kd.N_alloc | apply Kd.N_drewN | apply Kd.N_drew)); exact Kd.N_mono HO125.out (fun _ hk => ⟨hk.1, hk.2.2⟩)⟩, ⟨bb_ BK101.out⟩, ⟨gb_ HB.out⟩⟩
end Go.Proofs.Ytemjamfcepoefaa.P
set_option linter.unusedVariables false
set_option linter.unusedSimpArgs false
namespace Go.Proofs.Ytemjamfcepoefaa.P
open Go.RowKit Go.Proofs.YtemjamfcepoefaaW.PrintWords Go.Proofs.YtemjamfcepoefaaW.PrintLast Go.Proofs.YtemjamfcepoefaaW.PrintMore CC
def ordD (e p : List Int) : Nat → List Int
  | 0 => List.replicate 8 0
  | n + 1 => (ordD e p n).set (rd p (n : Int)).toNat (rd e (n : Int))
theorem ordD_length (e p : List Int) : ∀ n, (ordD e p n).length = 8
  | 0 => rfl
  | n + 1 => by rw [ordD, List.length_set, ordD_length e p n]
set_option maxHeartbeats 4000000 in
set_option maxRecDepth 100000 in
theorem ordered_calls (d p : List Int) (hd : d.length = 8) (A : Option Addr) (c : Nat) (w : World) (hr : Kd.C (Kd.int .i64) w A p.length p) (hc : p.length ≤ c) (hpl : p.length ≤ 8) (hp : ∀ j : Nat, j < p.length → 0 ≤ rd p (j : Int) ∧ rd p (j : Int) < 8) :
    Calls Try.prog 41 #[arr8 d, .slice A p.length c] w
      fun x w' => x = .returned (arr8 (ordD d p p.length)) ∧ Below w.heap.size w w' := by
  have huD := Try.underlying62
  have HR := Aside0.mk hr
  have HD := Aside0.mk hd
  have HP := Aside0.mk hp
  clear hr hd hp
  obtain ⟨R, hR⟩ : ∃ R, R = ordD d p p.length := ⟨_, rfl⟩
  have HX := Aside0.mk hR
  have hRl : R.length = 8 := by rw [hR, ordD_length]
  rw [← hR]
  clear hR
  unfold arr8
  go_enter Try.func41, Try.ntmps41
  go_wp2
  have HB : Aside0 (Below w.heap.size w (((w.alloc (.cells (nums .u8 d).toArray 62)).alloc (.cells #[.int .u8 0, .int .u8 0, .int .u8 0, .int .u8 0, .int .u8 0, .int .u8 0, .int .u8 0, .int .u8 0] 62)).alloc (.cells #[.int .u8 0, .int .u8 0, .int .u8 0, .int .u8 0, .int .u8 0, .int .u8 0, .int .u8 0, .int .u8 0] 62))) := ⟨below_alloc (below_alloc ((Below.refl _ _).alloc (Nat.le_refl _) _) _) _⟩
  have z8 : (.cells #[.int .u8 0, .int .u8 0, .int .u8 0, .int .u8 0, .int .u8 0, .int .u8 0, .int .u8 0, .int .u8 0] 62 : Obj) = .cells (nums .u8 (List.replicate 8 0)).toArray 62 := rfl
  have b1 : (((w.alloc (.cells (nums .u8 d).toArray 62)).alloc (.cells #[.int .u8 0, .int .u8 0, .int .u8 0, .int .u8 0, .int .u8 0, .int .u8 0, .int .u8 0, .int .u8 0] 62)).alloc (.cells #[.int .u8 0, .int .u8 0, .int .u8 0, .int .u8 0, .int .u8 0, .int .u8 0, .int .u8 0, .int .u8 0] 62)).heap[w.heap.size]? = some (.cells (nums .u8 d).toArray 62 (0, 0)) := blk_alloc (blk_alloc (blk_new _ _) _) _
  have b2 : (((w.alloc (.cells (nums .u8 d).toArray 62)).alloc (.cells #[.int .u8 0, .int .u8 0, .int .u8 0, .int .u8 0, .int .u8 0, .int .u8 0, .int .u8 0, .int .u8 0] 62)).alloc (.cells #[.int .u8 0, .int .u8 0, .int .u8 0, .int .u8 0, .int .u8 0, .int .u8 0, .int .u8 0, .int .u8 0] 62)).heap[w.heap.size + 1]? = some (.cells (nums .u8 (List.replicate 8 0)).toArray 62 (0, 0)) := blk_alloc (by have h := blk_new (w.alloc (.cells (nums .u8 d).toArray 62)) (.cells #[.int .u8 0, .int .u8 0, .int .u8 0, .int .u8 0, .int .u8 0, .int .u8 0, .int .u8 0, .int .u8 0] 62); rwa [World.size_alloc] at h) _
  have b3 : (((w.alloc (.cells (nums .u8 d).toArray 62)).alloc (.cells #[.int .u8 0, .int .u8 0, .int .u8 0, .int .u8 0, .int .u8 0, .int .u8 0, .int .u8 0, .int .u8 0] 62)).alloc (.cells #[.int .u8 0, .int .u8 0, .int .u8 0, .int .u8 0, .int .u8 0, .int .u8 0, .int .u8 0, .int .u8 0] 62)).heap[w.heap.size + 1 + 1]? = some (.cells (nums .u8 (List.replicate 8 0)).toArray 62 (0, 0)) := by have h := blk_new ((w.alloc (.cells (nums .u8 d).toArray 62)).alloc (.cells #[.int .u8 0, .int .u8 0, .int .u8 0, .int .u8 0, .int .u8 0, .int .u8 0, .int .u8 0, .int .u8 0] 62)) (.cells #[.int .u8 0, .int .u8 0, .int .u8 0, .int .u8 0, .int .u8 0, .int .u8 0, .int .u8 0, .int .u8 0] 62); rwa [World.size_alloc, World.size_alloc] at h
  have B1 := Aside0.mk b1
  have B2 := Aside0.mk b2
  have B3 := Aside0.mk b3
  clear b1 b2 b3 z8
  generalize (((w.alloc (.cells (nums .u8 d).toArray 62)).alloc (.cells #[.int .u8 0, .int .u8 0, .int .u8 0, .int .u8 0, .int .u8 0, .int .u8 0, .int .u8 0, .int .u8 0] 62)).alloc (.cells #[.int .u8 0, .int .u8 0, .int .u8 0, .int .u8 0, .int .u8 0, .int .u8 0, .int .u8 0, .int .u8 0] 62)) = W0 at *
  go_loopw [11] (fun i W => ∃ (n : Nat), n ≤ p.length ∧ i = .int .i64 n ∧ Aside0 (W.heap[w.heap.size]? = some (.cells (nums .u8 d).toArray 62 (0, 0))) ∧ Aside0 (W.heap[w.heap.size + 1]? = some (.cells (nums .u8 (List.replicate 8 0)).toArray 62 (0, 0))) ∧
      Aside0 (W.heap[w.heap.size + 1 + 1]? = some (.cells (nums .u8 (ordD d p n)).toArray 62 (0, 0))) ∧ Aside0 (Below w.heap.size w W)) (fun i _ => p.length - (intOf i).toNat)
  case atStart => exact ⟨0, by omega, rfl, B1, B2, B3, HB⟩
  case round =>
    clear B1 B2 B3 HB
    obtain ⟨n, hn, rfl, B1, B2, B3, HB⟩ := hrel
    by_cases hlt : n < p.length
    · obtain ⟨ad, e, _⟩ := Kd.at_int HR.out (n : Int) (by omega) (by omega)
      subst e
      have hx := rd_cell HR.out HB.out n (by omega)
      have hy := cell8 B1.out (i := n) (by have := HD.out; omega)
      obtain ⟨p0, p1⟩ := HP.out n hlt
      obtain ⟨y, hye⟩ : ∃ y : Nat, rd p (n : Int) = (y : Int) := ⟨(rd p (n : Int)).toNat, by omega⟩
      rw [hye] at hx p0 p1
      have HY : Aside0 (ordD d p (n + 1) = (ordD d p n).set y (rd d (n : Int))) := ⟨by rw [ordD, hye, Int.toNat_natCast]⟩
      have hz := cell8 B3.out (i := y) (by rw [ordD_length]; omega)
      have hfz := blk_frozen B3.out y
      have hy8 : (n : Int) < 8 := by omega
      clear hye
      obtain ⟨z, hzz⟩ : ∃ z, z = rd d (n : Int) := ⟨_, rfl⟩
      have HZ := Aside0.mk hzz
      rw [← hzz] at hy
      clear hzz
      go_wp2
      go_roundw
      case rel =>
        refine ⟨n + 1, by omega, by go_num, ⟨blk_far B1.out (by simp; omega) _⟩, ⟨blk_far B2.out (by simp) _⟩, ⟨?_⟩, ⟨below_set HB.out (by omega)⟩⟩
        have h8 := blk_set8 B3.out y z
        rw [HY.out, ← HZ.out]
        exact h8
      case measure => simp [intOf]; omega
    · have hn : n = p.length := by omega
      subst hn
      have B3 := Aside0.mk B3.out
      rw [← HX.out] at B3
      obtain ⟨y0, y1, y2, y3, y4, y5, y6, y7, rfl⟩ := eight (l := R) hRl
      have k0 : wr.cell? ⟨w.heap.size + 1 + 1, 0, none⟩ = some (.int .u8 y0) := blk_cell B3.out 0
      have k1 : wr.cell? ⟨w.heap.size + 1 + 1, 1, none⟩ = some (.int .u8 y1) := blk_cell B3.out 1
      have k2 : wr.cell? ⟨w.heap.size + 1 + 1, 2, none⟩ = some (.int .u8 y2) := blk_cell B3.out 2
      have k3 : wr.cell? ⟨w.heap.size + 1 + 1, 3, none⟩ = some (.int .u8 y3) := blk_cell B3.out 3
      have k4 : wr.cell? ⟨w.heap.size + 1 + 1, 4, none⟩ = some (.int .u8 y4) := blk_cell B3.out 4
      have k5 : wr.cell? ⟨w.heap.size + 1 + 1, 5, none⟩ = some (.int .u8 y5) := blk_cell B3.out 5
      have k6 : wr.cell? ⟨w.heap.size + 1 + 1, 6, none⟩ = some (.int .u8 y6) := blk_cell B3.out 6
      have k7 : wr.cell? ⟨w.heap.size + 1 + 1, 7, none⟩ = some (.int .u8 y7) := blk_cell B3.out 7
      have q0 : wr.cell? ⟨w.heap.size + 1, 0, none⟩ = some (.int .u8 0) := blk_cell B2.out 0
      have q1 : wr.cell? ⟨w.heap.size + 1, 1, none⟩ = some (.int .u8 0) := blk_cell B2.out 1
      have q2 : wr.cell? ⟨w.heap.size + 1, 2, none⟩ = some (.int .u8 0) := blk_cell B2.out 2
      have q3 : wr.cell? ⟨w.heap.size + 1, 3, none⟩ = some (.int .u8 0) := blk_cell B2.out 3
      have q4 : wr.cell? ⟨w.heap.size + 1, 4, none⟩ = some (.int .u8 0) := blk_cell B2.out 4
      have q5 : wr.cell? ⟨w.heap.size + 1, 5, none⟩ = some (.int .u8 0) := blk_cell B2.out 5
      have q6 : wr.cell? ⟨w.heap.size + 1, 6, none⟩ = some (.int .u8 0) := blk_cell B2.out 6
      have q7 : wr.cell? ⟨w.heap.size + 1, 7, none⟩ = some (.int .u8 0) := blk_cell B2.out 7
      have hf := fun i => blk_frozen B2.out i
      go_wp2
      refine bodyPost_ret (v := .agg #[.int .u8 y0, .int .u8 y1, .int .u8 y2, .int .u8 y3, .int .u8 y4, .int .u8 y5, .int .u8 y6, .int .u8 y7]) (by simp [results, Try.results41, go_sem, q0, q1, q2, q3, q4, q5, q6, q7]) rfl ⟨rfl, ?_⟩
      repeat (refine below_set ?_ (by omega))
      exact HB.out
def sum8 (s a b : List Int) : List Int := upd8 (fun k => (rd a (k : Int) + rd b (k : Int)) % rd s (k : Int)) s.length
theorem sum8_inR {s : List Int} (hs : isSp s = true) (a b : List Int) : inR s (sum8 s a b) = true := by
  refine inR_of _ _ fun k h1 h2 => ?_
  have hl := isSp_len hs
  obtain ⟨q0, q1⟩ := size_rd (isSp_all hs) h1
  rw [sum8, upd8_rd _ _ h1 (by omega)]
  exact ⟨Int.emod_nonneg _ (by omega), Int.emod_lt_of_pos _ (by omega)⟩
set_option maxHeartbeats 4000000 in
set_option maxRecDepth 100000 in
theorem sumOf_calls (A : Option Addr) (c : Nat) (s d d2 : List Int) (w : World) (hr : Kd.C (Kd.int .i64) w A s.length s) (hc : s.length ≤ c) (hs : isSp s = true) (hd : d.length = 8) (hin : inR s d = true) (hd2 : d2.length = 8) (hin2 : inR s d2 = true) :
    Calls Try.prog 53 #[.agg #[.slice A s.length c], arr8 d, arr8 d2] w
      fun e w' => e = .returned (arr8 (sum8 s d d2)) ∧ Below w.heap.size w w' := by
  have huS := Try.underlying28
  have huD := Try.underlying62
  have HR := Aside0.mk hr
  have HS := Aside0.mk (isSp_all hs)
  have hl := isSp_len hs
  have HD := Aside0.mk hd
  have HI := Aside0.mk hin
  have HD2 := Aside0.mk hd2
  have HI2 := Aside0.mk hin2
  clear hr hs hd hin hd2 hin2
  have HX : Aside0 (sum8 s d d2 = upd8 (fun k => (rd d (k : Int) + rd d2 (k : Int)) % rd s (k : Int)) s.length) := ⟨rfl⟩
  generalize sum8 s d d2 = R at *
  unfold arr8
  go_enter Try.func53, Try.ntmps53
  go_wp2
  have HB : Aside0 (Below w.heap.size w (((((w.alloc (.cells #[.slice A s.length c] 28)).alloc (.cells (nums .u8 d).toArray 62)).alloc (.cells (nums .u8 d2).toArray 62)).alloc (.cells #[.int .u8 0, .int .u8 0, .int .u8 0, .int .u8 0, .int .u8 0, .int .u8 0, .int .u8 0, .int .u8 0] 62)).alloc (.cells #[.int .u8 0, .int .u8 0, .int .u8 0, .int .u8 0, .int .u8 0, .int .u8 0, .int .u8 0, .int .u8 0] 62))) := ⟨below_alloc (below_alloc (below3 _ _ _ _) _) _⟩
  have b1 : (((((w.alloc (.cells #[.slice A s.length c] 28)).alloc (.cells (nums .u8 d).toArray 62)).alloc (.cells (nums .u8 d2).toArray 62)).alloc (.cells #[.int .u8 0, .int .u8 0, .int .u8 0, .int .u8 0, .int .u8 0, .int .u8 0, .int .u8 0, .int .u8 0] 62)).alloc (.cells #[.int .u8 0, .int .u8 0, .int .u8 0, .int .u8 0, .int .u8 0, .int .u8 0, .int .u8 0, .int .u8 0] 62)).heap[w.heap.size + 1]? = some (.cells (nums .u8 d).toArray 62 (0, 0)) :=
    blk_alloc (blk_alloc (blk_alloc (by simpa using blk_new (w.alloc (.cells #[.slice A s.length c] 28)) (.cells (nums .u8 d).toArray 62)) _) _) _
  have b1b : (((((w.alloc (.cells #[.slice A s.length c] 28)).alloc (.cells (nums .u8 d).toArray 62)).alloc (.cells (nums .u8 d2).toArray 62)).alloc (.cells #[.int .u8 0, .int .u8 0, .int .u8 0, .int .u8 0, .int .u8 0, .int .u8 0, .int .u8 0, .int .u8 0] 62)).alloc (.cells #[.int .u8 0, .int .u8 0, .int .u8 0, .int .u8 0, .int .u8 0, .int .u8 0, .int .u8 0, .int .u8 0] 62)).heap[w.heap.size + 1 + 1]? = some (.cells (nums .u8 d2).toArray 62 (0, 0)) :=
    blk_alloc (blk_alloc (by simpa using blk_new ((w.alloc (.cells #[.slice A s.length c] 28)).alloc (.cells (nums .u8 d).toArray 62)) (.cells (nums .u8 d2).toArray 62)) _) _
  have b2 : (((((w.alloc (.cells #[.slice A s.length c] 28)).alloc (.cells (nums .u8 d).toArray 62)).alloc (.cells (nums .u8 d2).toArray 62)).alloc (.cells #[.int .u8 0, .int .u8 0, .int .u8 0, .int .u8 0, .int .u8 0, .int .u8 0, .int .u8 0, .int .u8 0] 62)).alloc (.cells #[.int .u8 0, .int .u8 0, .int .u8 0, .int .u8 0, .int .u8 0, .int .u8 0, .int .u8 0, .int .u8 0] 62)).heap[w.heap.size + 1 + 1 + 1]? = some (.cells (nums .u8 (List.replicate 8 0)).toArray 62 (0, 0)) := by
    rw [z8]
    exact blk_alloc (by simpa using blk_new (((w.alloc (.cells #[.slice A s.length c] 28)).alloc (.cells (nums .u8 d).toArray 62)).alloc (.cells (nums .u8 d2).toArray 62)) (.cells #[.int .u8 0, .int .u8 0, .int .u8 0, .int .u8 0, .int .u8 0, .int .u8 0, .int .u8 0, .int .u8 0] 62)) _
  have b3 : (((((w.alloc (.cells #[.slice A s.length c] 28)).alloc (.cells (nums .u8 d).toArray 62)).alloc (.cells (nums .u8 d2).toArray 62)).alloc (.cells #[.int .u8 0, .int .u8 0, .int .u8 0, .int .u8 0, .int .u8 0, .int .u8 0, .int .u8 0, .int .u8 0] 62)).alloc (.cells #[.int .u8 0, .int .u8 0, .int .u8 0, .int .u8 0, .int .u8 0, .int .u8 0, .int .u8 0, .int .u8 0] 62)).heap[w.heap.size + 1 + 1 + 1 + 1]? = some (.cells (nums .u8 (List.replicate 8 0)).toArray 62 (0, 0)) := by
    rw [z8]
    simpa using blk_new ((((w.alloc (.cells #[.slice A s.length c] 28)).alloc (.cells (nums .u8 d).toArray 62)).alloc (.cells (nums .u8 d2).toArray 62)).alloc (.cells #[.int .u8 0, .int .u8 0, .int .u8 0, .int .u8 0, .int .u8 0, .int .u8 0, .int .u8 0, .int .u8 0] 62)) (.cells #[.int .u8 0, .int .u8 0, .int .u8 0, .int .u8 0, .int .u8 0, .int .u8 0, .int .u8 0, .int .u8 0] 62)
  have B1 := Aside0.mk b1
  have B1b := Aside0.mk b1b
  have B2 := Aside0.mk b2
  have B3 := Aside0.mk b3
  clear b1 b1b b2 b3
  generalize ((((w.alloc (.cells #[.slice A s.length c] 28)).alloc (.cells (nums .u8 d).toArray 62)).alloc (.cells (nums .u8 d2).toArray 62)).alloc (.cells #[.int .u8 0, .int .u8 0, .int .u8 0, .int .u8 0, .int .u8 0, .int .u8 0, .int .u8 0, .int .u8 0] 62)).alloc (.cells #[.int .u8 0, .int .u8 0, .int .u8 0, .int .u8 0, .int .u8 0, .int .u8 0, .int .u8 0, .int .u8 0] 62) = W0 at *
  go_loopw [14] (fun i W => ∃ (n : Nat), n ≤ s.length ∧ i = .int .i64 n ∧ Aside0 (W.heap[w.heap.size + 1]? = some (.cells (nums .u8 d).toArray 62 (0, 0))) ∧ Aside0 (W.heap[w.heap.size + 1 + 1]? = some (.cells (nums .u8 d2).toArray 62 (0, 0))) ∧ Aside0 (W.heap[w.heap.size + 1 + 1 + 1]? = some (.cells (nums .u8 (List.replicate 8 0)).toArray 62 (0, 0))) ∧
      Aside0 (W.heap[w.heap.size + 1 + 1 + 1 + 1]? = some (.cells (nums .u8 (upd8 (fun k => (rd d (k : Int) + rd d2 (k : Int)) % rd s (k : Int)) n)).toArray 62 (0, 0))) ∧ Aside0 (Below w.heap.size w W)) (fun i _ => s.length - (intOf i).toNat)
  case atStart => exact ⟨0, by omega, rfl, B1, B1b, B2, ⟨by rw [upd8_zero]; exact B3.out⟩, HB⟩
  case round =>
    clear B1 B1b B2 B3 HB
    obtain ⟨n, hn, rfl, B1, B1b, B2, B3, HB⟩ := hrel
    by_cases hlt : n < s.length
    · obtain ⟨ad, e, _⟩ := Kd.at_int HR.out (n : Int) (by omega) (by omega)
      subst e
      have hx := rd_cell HR.out HB.out n (by omega)
      have hy := cell8 B1.out (i := n) (by have := HD.out; omega)
      have hy2 := cell8 B1b.out (i := n) (by have := HD2.out; omega)
      have hz := cell8 B3.out (i := n) (by rw [upd8_length]; omega)
      have hfz := blk_frozen B3.out n
      obtain ⟨r0, r1⟩ := inR_rd s d n HI.out hlt (by have := HD.out; omega)
      obtain ⟨r2, r3⟩ := inR_rd s d2 n HI2.out hlt (by have := HD2.out; omega)
      obtain ⟨q0, q1⟩ := size_rd HS.out hlt
      have HU := Aside0.mk (upd8_succ (fun k => (rd d (k : Int) + rd d2 (k : Int)) % rd s (k : Int)) n)
      obtain ⟨m0, m1⟩ := mod_small (x := rd d (n : Int) + rd d2 (n : Int)) q0 q1
      obtain ⟨q, hq⟩ : ∃ q, q = rd s (n : Int) := ⟨_, rfl⟩
      obtain ⟨x, hx2⟩ : ∃ x, x = rd d (n : Int) := ⟨_, rfl⟩
      obtain ⟨y, hy3⟩ : ∃ y, y = rd d2 (n : Int) := ⟨_, rfl⟩
      have HQ := Aside0.mk (And.intro hq (And.intro hx2 hy3))
      rw [← hq] at hx m0 m1 q0 q1 r1 r3
      rw [← hx2] at hy m0 m1 r0 r1
      rw [← hy3] at hy2 m0 m1 r2 r3
      clear hq hx2 hy3
      have hsum : 0 ≤ x + y ∧ x + y ≤ 6 := by omega
      obtain ⟨s0, s1⟩ := hsum
      go_wp2
      go_region
      all_goals go_wp2
      all_goals
        go_roundw
        case rel =>
          refine ⟨n + 1, by omega, by go_num, ⟨blk_drew (blk_far B1.out (by simp) _)⟩, ⟨blk_drew (blk_far B1b.out (by simp) _)⟩, ⟨blk_drew (blk_far B2.out (by simp) _)⟩, ⟨?_⟩, ⟨below_drew (below_set HB.out (by omega))⟩⟩
          have h8 := blk_set8 B3.out n ((x + y) % q)
          rw [HQ.out.1, HQ.out.2.1, HQ.out.2.2] at h8
          rw [HU.out] at h8
          rw [HQ.out.1, HQ.out.2.1, HQ.out.2.2]
          exact blk_drew h8
        case measure => simp [intOf]; omega
    · have hn : n = s.length := by omega
      subst hn
      have B3 := Aside0.mk B3.out
      rw [← HX.out] at B3
      obtain ⟨y0, y1, y2, y3, y4, y5, y6, y7, rfl⟩ := eight (l := R) (by rw [HX.out, upd8_length])
      have k0 : wr.cell? ⟨w.heap.size + 1 + 1 + 1 + 1, 0, none⟩ = some (.int .u8 y0) := blk_cell B3.out 0
      have k1 : wr.cell? ⟨w.heap.size + 1 + 1 + 1 + 1, 1, none⟩ = some (.int .u8 y1) := blk_cell B3.out 1
      have k2 : wr.cell? ⟨w.heap.size + 1 + 1 + 1 + 1, 2, none⟩ = some (.int .u8 y2) := blk_cell B3.out 2
      have k3 : wr.cell? ⟨w.heap.size + 1 + 1 + 1 + 1, 3, none⟩ = some (.int .u8 y3) := blk_cell B3.out 3
      have k4 : wr.cell? ⟨w.heap.size + 1 + 1 + 1 + 1, 4, none⟩ = some (.int .u8 y4) := blk_cell B3.out 4
      have k5 : wr.cell? ⟨w.heap.size + 1 + 1 + 1 + 1, 5, none⟩ = some (.int .u8 y5) := blk_cell B3.out 5
      have k6 : wr.cell? ⟨w.heap.size + 1 + 1 + 1 + 1, 6, none⟩ = some (.int .u8 y6) := blk_cell B3.out 6
      have k7 : wr.cell? ⟨w.heap.size + 1 + 1 + 1 + 1, 7, none⟩ = some (.int .u8 y7) := blk_cell B3.out 7
      have q0 : wr.cell? ⟨w.heap.size + 1 + 1 + 1, 0, none⟩ = some (.int .u8 0) := blk_cell B2.out 0
      have q1 : wr.cell? ⟨w.heap.size + 1 + 1 + 1, 1, none⟩ = some (.int .u8 0) := blk_cell B2.out 1
      have q2 : wr.cell? ⟨w.heap.size + 1 + 1 + 1, 2, none⟩ = some (.int .u8 0) := blk_cell B2.out 2
      have q3 : wr.cell? ⟨w.heap.size + 1 + 1 + 1, 3, none⟩ = some (.int .u8 0) := blk_cell B2.out 3
      have q4 : wr.cell? ⟨w.heap.size + 1 + 1 + 1, 4, none⟩ = some (.int .u8 0) := blk_cell B2.out 4
      have q5 : wr.cell? ⟨w.heap.size + 1 + 1 + 1, 5, none⟩ = some (.int .u8 0) := blk_cell B2.out 5
      have q6 : wr.cell? ⟨w.heap.size + 1 + 1 + 1, 6, none⟩ = some (.int .u8 0) := blk_cell B2.out 6
      have q7 : wr.cell? ⟨w.heap.size + 1 + 1 + 1, 7, none⟩ = some (.int .u8 0) := blk_cell B2.out 7
      have hf := fun i => blk_frozen B2.out i
      go_wp2
      refine bodyPost_ret (v := .agg #[.int .u8 y0, .int .u8 y1, .int .u8 y2, .int .u8 y3, .int .u8 y4, .int .u8 y5, .int .u8 y6, .int .u8 y7]) (by simp [results, Try.results53, go_sem, q0, q1, q2, q3, q4, q5, q6, q7]) rfl ⟨rfl, ?_⟩
      repeat (refine below_set ?_ (by omega))
      exact HB.out
set_option maxHeartbeats 4000000 in
set_option maxRecDepth 100000 in
theorem sumWords_calls (A : Option Addr) (c : Nat) (s : List Int) (x y : Int) (w : World) (hr : Kd.C (Kd.int .i64) w A s.length s) (hc : s.length ≤ c) (hs : isSp s = true) (h0 : 0 ≤ x) (h1 : x ≤ 1024) (h2 : 0 ≤ y) (h3 : y ≤ 1024) :
    Calls Try.prog 38 #[.agg #[.slice A s.length c], .int .i64 x, .int .i64 y] w
      fun e w' => e = .returned (.int .i64 (hor 0 s (sum8 s (dig8 s x) (dig8 s y)))) ∧ Below w.heap.size w w' := by
  have huS := Try.underlying28
  have HR := Aside0.mk hr
  have HS := Aside0.mk hs
  have I1 := Aside0.mk (dig8_inR hs x)
  have I2 := Aside0.mk (dig8_inR hs y)
  have I3 := Aside0.mk (sum8_inR hs (dig8 s x) (dig8 s y))
  clear hr hs
  go_enter Try.func38, Try.ntmps38
  go_wp2_with fail
  have hcell : (w.alloc (.cells #[.slice A s.length c] 28)).cell? ⟨w.heap.size, 0, none⟩ = some (.slice A s.length c) := blk_cell (blk_new _ _) 0
  have hB : Below w.heap.size w (w.alloc (.cells #[.slice A s.length c] 28)) := (Below.refl _ _).alloc (Nat.le_refl _) _
  go_region_held3 (fun w' => w'.cell? ⟨w.heap.size, 0, none⟩ = some (.slice A s.length c) ∧ Below w.heap.size w w') (first | exact ⟨hcell, below_drew hB⟩ | exact keepS hb (by assumption))
    (first
      | (go_at_call 42; refine (digitsOf_calls A c s _ _ ?k1 hc HS.out (by omega) (by omega)).mono ?_; (case k1 => exact Kd.C_below HR.out (by first | assumption | exact (by assumption : _ ∧ Below _ _ _).2)); rintro e w' ⟨rfl, hb⟩)
      | (go_at_call 53; refine (sumOf_calls A c s (dig8 s x) (dig8 s y) _ ?k1 hc HS.out (dig8_length _ _) I1.out (dig8_length _ _) I2.out).mono ?_; (case k1 => exact Kd.C_below HR.out (by first | assumption | exact (by assumption : _ ∧ Below _ _ _).2)); rintro e w' ⟨rfl, hb⟩)
      | (go_at_call 40; refine (wordOf_calls A c s (sum8 s (dig8 s x) (dig8 s y)) _ ?k1 hc HS.out (upd8_length _ _) I3.out).mono ?_; (case k1 => exact Kd.C_below HR.out (by first | assumption | exact (by assumption : _ ∧ Below _ _ _).2)); rintro e w' ⟨rfl, hb⟩))
  all_goals
    go_wp2
    go_ret
    exact ⟨rfl, (by assumption : _ ∧ Below w.heap.size w _).2⟩
end Go.Proofs.Ytemjamfcepoefaa.P
namespace Go.Proofs.Ytemjamfcepoefaa.P
open Go.RowKit Go.Proofs.YtemjamfcepoefaaW.PrintWords Go.Proofs.YtemjamfcepoefaaW.PrintLast Go.Proofs.YtemjamfcepoefaaW.PrintMore
attribute [local go_sem] max2_int min2_int max_two min_two max_three min_three max_four min_four
set_option linter.unusedVariables false
set_option linter.unusedSimpArgs false
def spec_l01Shifted.l0 : Nat → List Int → Int → List Int → Int → Int → List Int → Option (List Int)
  | 0, _, _, _, _, _, _ => none
  | k + 1, x1, x2, x7, x11, x12, x102000 => if x12 < x11 then (if 0 ≤ x12 then (if x12 < (x1.length : Int) then ((spec_l01Sum.f k x102000 (rd x1 x12) x2).bind fun t106 => ((spec_l01Put.f k x7 t106).bind fun t107 => (spec_l01Shifted.l0 k x1 x2 t107 x11 (wrap64 (x12 + 1)) x102000))) else (none)) else (none)) else (some x7)
def spec_l01Shifted.f (k : Nat) (l0_0 : List Int) (l1 : List Int) (a2 : Int) : Option (List Int) := spec_l01Shifted.l0 k l1 a2 (([] : List Int)) (l1.length : Int) 0 l0_0
def spec_l01Shifted.T5 : Bool × List (List Nat × List Nat) := (true, [([], []), ([], []), ([], []), ([], []), ([2, 3], [2, 3]), ([4], [4]), ([], []), ([1, 5, 6], [1, 5, 6]), ([0, 7, 7], [0, 7]), ([8, 8, 0, 1, 2, 3, 4, 5, 6, 7, 8], [0, 8])])
def spec_l01Shifted.B5 : List Nat := [0, 0, 0, 0, 12, 28, 0, 126, 255, 511]
theorem spec_l01Shifted.tab5 : rtab .any (opsOf Try.f35 5) = spec_l01Shifted.T5 := by kernel_rfl
theorem spec_l01Shifted.bits5 : waitsOk spec_l01Shifted.T5.2 spec_l01Shifted.B5 = true := by kernel_rfl
set_option maxHeartbeats 8000000 in
set_option maxRecDepth 100000 in
theorem spec_l01Shifted.calls (k : Nat) (A0_0 : Option Addr) (c0_0 : Nat) (l0_0 : List Int) (A1 : Option Addr) (c1 : Nat) (l1 : List Int) (a2 : Int) (r : List Int) (w : World) (hr0_0 : Kd.C (Kd.int .i64) w A0_0 l0_0.length l0_0) (hc0_0 : l0_0.length ≤ c0_0) (hr1 : Kd.C (Kd.int .i64) w A1 l1.length l1) (hc1 : l1.length ≤ c1) (h : spec_l01Shifted.f k l0_0 l1 a2 = some r) :
  Calls Try.prog 35 #[.agg #[.slice A0_0 l0_0.length c0_0], .slice A1 l1.length c1, .int .i64 a2] w fun e w' => ∃ v0_ : Value, e = .returned (v0_) ∧ Kd.R (Kd.int .i64) 2 w' w.heap.size (fun _ => True) v0_ r ∧ Below w.heap.size w w' := by
 have hu28 := Try.underlying28
 have HR0_0 := Aside0.mk hr0_0
 have HC0_0 := Aside0.mk hc0_0
 clear hr0_0 hc0_0
 have HR1 := Aside0.mk hr1
 have HC1 := Aside0.mk hc1
 clear hr1 hc1
 have HB := Aside0.mk (Below.refl w.heap.size w)
 have H : (spec_l01Shifted.l0 k l1 a2 (([] : List Int)) (l1.length : Int) 0 l0_0) = some r := h
 clear h
 obtain ⟨y102, hy102⟩ : ∃ y_ : List Int, y_ = (([] : List Int)) := ⟨_, rfl⟩
 replace H : (spec_l01Shifted.l0 k l1 a2 y102 (l1.length : Int) 0 l0_0) = some r := y_ H
 have Ny102 := Aside0.mk hy102
 clear hy102
 have H' := Aside0.mk H
 clear H
 go_enter Try.func35, Try.ntmps35
 go_wp2_with (first | ((with_reducible refine gate_dst (N := 3) rfl ?_); refine bx_ (N := 3) (cs := #[.slice A0_0 l0_0.length c0_0]) (t := 28) rfl rfl ?_; intro gb101 hg w4 hbox hb; have n0_ := b1_ HB hb; have n1_ := Aside0.mk (hbox); have n2_ := ge_ hg HB; have n3_ := ge_ hg HB; clear HB; have HB := n0_; have BK101 := n1_; have GW101 := n2_; have GE101 := n3_; clear n0_ n1_ n2_ n3_ hb hbox hg) | ((with_reducible refine gate_dst (N := 9) rfl ?_); refine Kd.R_lit (Kd.int .i64) _ 2 ?hg (N := 9) ?hd (xs := ([] : List Int)) (inner := []) (ok := fun _ => True) (okp := fun _ => True) ?hr ?hp (fun _ hk => hk) trivial (Below.refl _ _) (Nat.le_refl _) (by simp) ?_; (case hd => rfl); (case hg => rfl); (case hr => exact t3_); (case hp => exact (Reps.none _ _)); intro v103 w5 ho6 hb hg_ hnew_; clear hg_ hnew_; (first | rw [← Ny102.out] at ho6 | (simp only [Int.reduceToNat] at ho6; rw [← Ny102.out] at ho6)); have n0_ := Aside0.mk (Kd.R_lower ho6 (below_size (gb_ HB.out))); have n1_ := a2_ BK101 hb; have n2_ := b1_ HB hb; clear BK101 HB; have HO104 := n0_; have BK101 := n1_; have HB := n2_; clear n0_ n1_ n2_ hb ho6))
 go_loopg [7, 12] k (fun kq v7 v12 w' => ∃ (x7_1 : List Int) (x12_1 : Int), v12 = .int .i64 x12_1 ∧ Aside0 (spec_l01Shifted.l0 kq l1 a2 x7_1 (l1.length : Int) x12_1 l0_0 = some r) ∧ Aside0 (kq ≤ k) ∧ Aside0 (Kd.R (Kd.int .i64) 2 w' w.heap.size (fun _ => True) v7 x7_1) ∧ Aside0 (w'.heap[gb101]? = some (.cells #[(.slice A0_0 l0_0.length c0_0)] 28 (0, 0))) ∧ Aside0 (Below w.heap.size w w'))
 case atStart => exact ⟨(y102), (0), t2_, H', ⟨Nat.le_refl _⟩, ⟨rb_ HO104.out⟩, ⟨bb_ BK101.out⟩, ⟨gb_ HB.out⟩⟩
 clear H'
 try clear c1
 try clear p2
 try clear c3
 obtain ⟨x7_1, x12_1, rfl, HA, HK1, HO_7, BK101, HB⟩ := hrel
 obtain _ | k1 := gk
 ·exact absurd HA.out (by simp [spec_l01Shifted.l0])
 have H := HA.out
 clear HA
 simp only [spec_l01Shifted.l0] at H
 by_cases c7 : x12_1 < (l1.length : Int)
 rotate_left
 ·rw [if_neg c7] at H
  have c7b0 : decide (x12_1 < (l1.length : Int)) = false := decide_eq_false c7
  clear c7
  obtain rfl := Option.some.inj H
  go_wp2
  go_ret
  exact ⟨_, t5_, rb_ HO_7.out, gb_ HB.out⟩

 rw [if_pos c7] at H
 have c7b0 : decide (x12_1 < (l1.length : Int)) = true := decide_eq_true c7
 clear c7
 by_cases c8 : 0 ≤ x12_1
 rotate_left
 ·rw [if_neg c8] at H
  exact absurd H (by simp)
 rw [if_pos c8] at H
 have c8b0 : decide (0 ≤ x12_1) = true := decide_eq_true c8
 clear c8
 by_cases c9 : x12_1 < (l1.length : Int)
 rotate_left
 ·rw [if_neg c9] at H
  exact absurd H (by simp)
 rw [if_pos c9] at H
 have c9b0 : decide (x12_1 < (l1.length : Int)) = true := decide_eq_true c9
 clear c9
 replace H := Option.bind_eq_some_iff.mp H
 obtain ⟨t106, A100, H⟩ := H
 replace H : ((spec_l01Put.f k1 x7_1 t106).bind fun t107 => (spec_l01Shifted.l0 k1 l1 a2 t107 (l1.length : Int) (wrap64 (x12_1 + 1)) l0_0)) = some r := H
 have A10 := Aside0.mk A100
 clear A100
 replace H := Option.bind_eq_some_iff.mp H
 obtain ⟨t107, A110, H⟩ := H
 replace H : (spec_l01Shifted.l0 k1 l1 a2 t107 (l1.length : Int) (wrap64 (x12_1 + 1)) l0_0) = some r := H
 have A11 := Aside0.mk A110
 clear A110
 have H' := Aside0.mk H
 clear H
 try go_wp2
 replace HO_7 := Aside0.mk (Kd.R_drew HO_7.out)
 replace BK101 := Aside0.mk (blk_drew BK101.out)
 replace HB := Aside0.mk (below_drew1 HB.out)
 have p105 : 0 ≤ (x12_1 : Int) := of_decide_eq_true t6_
 have q105 : x12_1 < (l1.length : Int) := of_decide_eq_true t6_
 obtain ⟨ad105, e105, hx105_0⟩ := Kd.at_int HR1.out x12_1 p105 q105
 have hw105_0 := hx105_0
 cases e105
 replace hx105_0 := (HB.out.cell (World.block_lt_of_cell? _ _ hx105_0)).trans hx105_0
 replace p105 := eq_true p105
 replace q105 := eq_true q105
 refine start_ (n := 10) (S := fun w' => w'.cell? ⟨gb101, 0, none⟩ = some (.slice A0_0 l0_0.length c0_0) ∧ w'.cell? (ad105.add (x12_1).toNat) = some (.int .i64 (rd l1 x12_1))) (ds := []) #[false, false, false, false, false, false, false, false, false, false] (by kernel_rfl) rfl rfl ⟨(blk_cell BK101.out 0).trans rfl, ((HB.out.cell (World.block_lt_of_cell? _ _ hw105_0)).trans hw105_0)⟩ (fun hHeld => ?_); refine with_tabW spec_l01Shifted.tab5 spec_l01Shifted.bits5 (fun HT_ HW_ => ?_)
 generalize wr.drew = w12 at HO_7 BK101 HB hx105_0 hHeld ⊢
 refine pu_ (i := 0) (N := some 15) (v := ?_) (a' := ?_) #[true, false, false, false, false, false, false, false, false, false] rfl rfl HT_ (Or.inl ⟨by rfl, ?_⟩) ?_ ?_
 rotate_left
 ·exact t7_
 rotate_left
 ·exact t4_
 refine pu_ (i := 2) (N := some 17) (v := ?_) (a' := ?_) #[true, false, true, false, false, false, false, false, false, false] rfl rfl HT_ (Or.inl ⟨by rfl, ?_⟩) ?_ ?_
 rotate_left
 ·exact t7_
 rotate_left
 ·exact t4_
 refine pu_ (i := 3) (N := some 18) (v := ?_) (a' := ?_) #[true, false, true, true, false, false, false, false, false, false] rfl rfl HT_ (Or.inl ⟨by rfl, ?_⟩) ?_ ?_
 rotate_left
 ·exact t7_
 rotate_left
 ·exact t4_
 refine pu_ (i := 4) (N := some 19) (v := ?_) (a' := ?_) #[true, false, true, true, true, false, false, false, false, false] rfl rfl HT_ (Or.inl ⟨by rfl, ?_⟩) ?_ ?_
 rotate_left
 ·exact t7_
 rotate_left
 ·exact t4_
 refine pu_ (i := 6) (N := some 21) (v := ?_) (a' := ?_) #[true, false, true, true, true, false, true, false, false, false] rfl rfl HT_ (Or.inl ⟨by rfl, ?_⟩) ?_ ?_
 rotate_left
 ·exact t7_
 rotate_left
 ·exact t4_
 refine tk_ (i := 1) (N := some 16) (v := ?_) (a' := ?_) #[true, true, true, true, true, false, true, false, false, false] rfl rfl HT_ HW_ (Or.inl ⟨by rfl, ?_⟩) hHeld ?_ ?_
 rotate_left
 ·rintro w' ⟨s0, s1⟩
  go_simp
  with_reducible rfl
 rotate_left
 ·exact t4_
 refine tk_ (i := 5) (N := some 20) (v := ?_) (a' := ?_) #[true, true, true, true, true, true, true, false, false, false] rfl rfl HT_ HW_ (Or.inl ⟨by rfl, ?_⟩) hHeld ?_ ?_
 rotate_left
 ·rintro w' ⟨s0, s1⟩
  go_simp
  with_reducible rfl
 rotate_left
 ·exact t4_
 refine on_ (i := 7) (N := some 22) #[true, true, true, true, true, true, true, true, false, false] rfl rfl HT_ (fun K hK => ?_)
 refine goes_ Try.func50 (by kernel_rfl) rfl #[.agg #[.slice A0_0 l0_0.length c0_0], .int .i64 (rd l1 x12_1), .int .i64 a2] (by rfl) rfl rfl t1_ ?_
 with_reducible refine (spec_l01Sum.calls k1 _ _ l0_0 (rd l1 x12_1) a2 t106 _ ?side1 ?side2 A10.out).mono ?_
 (case side1 => exact c2_ HR0_0 HB)
 (case side2 => exact HC0_0.out)
 rintro e w13 ⟨rfl, hb⟩
 refine ⟨_, rfl, ?_⟩
 replace HO_7 := a1_ HO_7 hb
 replace BK101 := a2_ BK101 hb
 replace HB := b1_ HB hb
 (try clear hb)
 (try clear hb2)
 (try clear hk)
 (try clear hi)
 obtain ⟨Ao14, co14, eo14⟩ := Kd.R_slice HO_7.out
 (first | subst eo14 | (injection eo14 with f1_ f2_ f3_; have f4_ := f1_.symm; have f5_ := f3_.symm; clear f1_ f2_ f3_; subst f4_; subst f5_))
 refine hK.out _ _ ⟨(blk_cell BK101.out 0).trans rfl, ((HB.out.cell (World.block_lt_of_cell? _ _ hw105_0)).trans hw105_0)⟩ (fun hHeld => ?_)
 clear hK K
 refine norm_ (a' := ?_) ?_ ?_
 rotate_left
 ·show Act.put _ (some 22) _ = _
  simp only [Act.put, List.setIfInBounds_toArray, List.set_cons_zero, List.set_cons_succ, i64_w, i32_w]
  rfl
 refine on_ (i := 8) (N := some 23) #[true, true, true, true, true, true, true, true, true, false] rfl rfl HT_ (fun K hK => ?_)
 refine goes_ Try.func48 (by kernel_rfl) rfl #[.slice Ao14 x7_1.length co14, .int .i64 t106] (by rfl) rfl rfl t1_ ?_
 with_reducible refine (spec_l01Put.calls k1 (fun k_ => some k_ = (.slice Ao14 x7_1.length co14 : Value).ownBlock) (.slice Ao14 x7_1.length co14) x7_1 t106 t107 w _ ?side1 ?side2 A11.out).mono ?_
 (case side1 => exact gb_ HB.out)
 (case side2 => exact Kd.R_tight rfl HO_7.out)
 rintro e w15 ⟨v108, rfl, ho0, hb, hkp⟩
 refine ⟨_, rfl, ?_⟩
 have n0_ := a7_ BK101 hkp HO_7
 have n1_ := Aside0.mk (Kd.R_mono (ok' := fun k_ => True) ho0 (fun k_ hk_ => trivial))
 have n2_ := Aside0.mk (hb)
 clear BK101 HB HO_7
 have BK101 := n0_
 have HO109 := n1_
 have HB := n2_
 clear n0_ n1_ n2_
 (try clear hb)
 (try clear hkp)
 (try clear ho0)
 refine hK.out _ _ ⟨(blk_cell BK101.out 0).trans rfl, ((HB.out.cell (World.block_lt_of_cell? _ _ hw105_0)).trans hw105_0)⟩ (fun hHeld => ?_)
 clear hK K
 refine norm_ (a' := ?_) ?_ ?_
 rotate_left
 ·show Act.put _ (some 23) _ = _
  simp only [Act.put, List.setIfInBounds_toArray, List.set_cons_zero, List.set_cons_succ, i64_w, i32_w]
  rfl
 refine pu_ (i := 9) (N := some 7) (v := ?_) (a' := ?_) #[true, true, true, true, true, true, true, true, true, true] rfl rfl HT_ (Or.inl ⟨by rfl, ?_⟩) ?_ ?_
 rotate_left
 ·exact t7_
 rotate_left
 ·exact t4_
 refine done_ (done_of HT_.out (by kernel_rfl)) ?_
 try go_wp2
 go_roundg k1
 case measure => have := HK1.out; omega
 case rel => exact ⟨(t107), (wrap64 (x12_1 + 1)), t2_, H', ⟨by have := HK1.out; omega⟩, ⟨rb_ HO109.out⟩, ⟨bb_ BK101.out⟩, ⟨gb_ HB.out⟩⟩
def spec_l03Few.f (k : Nat) (l0_0 : List Int) (l1 : List Int) (l2 : List Int) : Option (Int) := (spec_l03Two.f k l0_0 l1 l2).bind fun t102 => (if t102 = 0 then ((spec_l01N.f k l0_0).bind fun t103 => (if t103 > 81 then (some 3) else (some t102))) else (some t102))
set_option maxHeartbeats 8000000 in
set_option maxRecDepth 100000 in
theorem spec_l03Few.calls (k : Nat) (A0_0 : Option Addr) (c0_0 : Nat) (l0_0 : List Int) (A1 : Option Addr) (c1 : Nat) (l1 : List Int) (A2 : Option Addr) (c2 : Nat) (l2 : List Int) (r : Int) (w : World) (hr0_0 : Kd.C (Kd.int .i64) w A0_0 l0_0.length l0_0) (hc0_0 : l0_0.length ≤ c0_0) (hr1 : Kd.C (Kd.int .i64) w A1 l1.length l1) (hc1 : l1.length ≤ c1) (hr2 : Kd.C (Kd.int .i64) w A2 l2.length l2) (hc2 : l2.length ≤ c2) (h : spec_l03Few.f k l0_0 l1 l2 = some r) :
  Calls Try.prog 21 #[.agg #[.slice A0_0 l0_0.length c0_0], .slice A1 l1.length c1, .slice A2 l2.length c2] w fun e w' => e = .returned (.int .i64 r) ∧ Below w.heap.size w w' := by
 have hu28 := Try.underlying28
 have HR0_0 := Aside0.mk hr0_0
 have HC0_0 := Aside0.mk hc0_0
 clear hr0_0 hc0_0
 have HR1 := Aside0.mk hr1
 have HC1 := Aside0.mk hc1
 clear hr1 hc1
 have HR2 := Aside0.mk hr2
 have HC2 := Aside0.mk hc2
 clear hr2 hc2
 have HB := Aside0.mk (Below.refl w.heap.size w)
 have H : ((spec_l03Two.f k l0_0 l1 l2).bind fun t102 => (if t102 = 0 then ((spec_l01N.f k l0_0).bind fun t103 => (if t103 > 81 then (some 3) else (some t102))) else (some t102))) = some r := h
 clear h
 replace H := Option.bind_eq_some_iff.mp H
 obtain ⟨t102, A40, H⟩ := H
 replace H : (if t102 = 0 then ((spec_l01N.f k l0_0).bind fun t103 => (if t103 > 81 then (some 3) else (some t102))) else (some t102)) = some r := H
 have A4 := Aside0.mk A40
 clear A40
 by_cases c5 : t102 = 0
 rotate_left
 ·rw [if_neg c5] at H
  have c5b0 : (t102 == 0) = false := beq_eq_false_iff_ne.mpr c5
  have c5b1 : (t102 != 0) = true := bne_iff_ne.mpr c5
  obtain rfl := Option.some.inj H
  go_enter Try.func21, Try.ntmps21
  go_wp2_with (first | ((with_reducible refine gate_dst (N := 3) rfl ?_); refine bx_ (N := 3) (cs := #[.slice A0_0 l0_0.length c0_0]) (t := 28) rfl rfl ?_; intro gb101 hg w18 hbox hb; have n0_ := b1_ HB hb; have n1_ := Aside0.mk (hbox); have n2_ := ge_ hg HB; have n3_ := ge_ hg HB; clear HB; have HB := n0_; have BK101 := n1_; have GW101 := n2_; have GE101 := n3_; clear n0_ n1_ n2_ n3_ hb hbox hg; have hcz19_0 := hz_ BK101; have hfz19_0 := blk_frozen BK101.out 0) | ((with_reducible refine gate_callee (f := 30) rfl ?_); refine gl_ (some 11) rfl rfl Try.func30 #[.agg #[.slice A0_0 l0_0.length c0_0], .slice A1 l1.length c1, .slice A2 l2.length c2] rfl ?_; (with_reducible refine (spec_l03Two.calls k _ _ l0_0 _ _ l1 _ _ l2 t102 _ ?side1 ?side2 ?side3 ?side4 ?side5 ?side6 A4.out).mono ?_); (case side1 => exact c2_ HR0_0 HB); (case side2 => exact HC0_0.out); (case side3 => exact c2_ HR1 HB); (case side4 => exact HC1.out); (case side5 => exact c2_ HR2 HB); (case side6 => exact HC2.out); rintro e w20 ⟨rfl, hb⟩; refine ⟨_, rfl, ?_⟩; replace BK101 := a2_ BK101 hb; replace HB := b1_ HB hb; (try clear hb); (try clear hb2); (try clear hk); (try clear hi)))
  go_ret
  exact ⟨t5_, gb_ HB.out⟩

 rw [if_pos c5] at H
 have c5b0 : (t102 == 0) = true := beq_iff_eq.mpr c5
 have c5b1 : (t102 != 0) = false := bne_eq_false_iff_eq.mpr c5
 clear c5
 replace H := Option.bind_eq_some_iff.mp H
 obtain ⟨t103, A60, H⟩ := H
 replace H : (if t103 > 81 then (some 3) else (some t102)) = some r := H
 have A6 := Aside0.mk A60
 clear A60
 by_cases c7 : t103 > 81
 ·rw [if_pos c7] at H
  have c7b0 : decide (81 < t103) = true := decide_eq_true c7
  clear c7
  obtain rfl := Option.some.inj H
  go_enter Try.func21, Try.ntmps21
  go_wp2_with (first | ((with_reducible refine gate_dst (N := 3) rfl ?_); refine bx_ (N := 3) (cs := #[.slice A0_0 l0_0.length c0_0]) (t := 28) rfl rfl ?_; intro gb101 hg w8 hbox hb; have n0_ := b1_ HB hb; have n1_ := Aside0.mk (hbox); have n2_ := ge_ hg HB; have n3_ := ge_ hg HB; clear HB; have HB := n0_; have BK101 := n1_; have GW101 := n2_; have GE101 := n3_; clear n0_ n1_ n2_ n3_ hb hbox hg; have hcz9_0 := hz_ BK101; have hfz9_0 := blk_frozen BK101.out 0) | ((with_reducible refine gate_callee (f := 30) rfl ?_); refine gl_ (some 11) rfl rfl Try.func30 #[.agg #[.slice A0_0 l0_0.length c0_0], .slice A1 l1.length c1, .slice A2 l2.length c2] rfl ?_; (with_reducible refine (spec_l03Two.calls k _ _ l0_0 _ _ l1 _ _ l2 t102 _ ?side1 ?side2 ?side3 ?side4 ?side5 ?side6 A4.out).mono ?_); (case side1 => exact c2_ HR0_0 HB); (case side2 => exact HC0_0.out); (case side3 => exact c2_ HR1 HB); (case side4 => exact HC1.out); (case side5 => exact c2_ HR2 HB); (case side6 => exact HC2.out); rintro e w10 ⟨rfl, hb⟩; refine ⟨_, rfl, ?_⟩; replace BK101 := a2_ BK101 hb; replace HB := b1_ HB hb; (try clear hb); (try clear hb2); (try clear hk); (try clear hi); have hcz11_0 := hz_ BK101; have hfz11_0 := blk_frozen BK101.out 0) | (go_at_call 31; (with_reducible refine (spec_l01N.calls k _ _ l0_0 t103 _ ?side1 ?side2 A6.out).mono ?_); (case side1 => exact c2_ HR0_0 HB); (case side2 => exact HC0_0.out); rintro e w12 ⟨rfl, hb⟩; replace BK101 := a2_ BK101 hb; replace HB := b1_ HB hb; (try clear hb); (try clear hb2); (try clear hk); (try clear hi)))
  go_ret
  exact ⟨t5_, gb_ HB.out⟩
 rw [if_neg c7] at H
 have c7b0 : decide (81 < t103) = false := decide_eq_false c7
 clear c7
 obtain rfl := Option.some.inj H
 go_enter Try.func21, Try.ntmps21
 go_wp2_with (first | ((with_reducible refine gate_dst (N := 3) rfl ?_); refine bx_ (N := 3) (cs := #[.slice A0_0 l0_0.length c0_0]) (t := 28) rfl rfl ?_; intro gb101 hg w13 hbox hb; have n0_ := b1_ HB hb; have n1_ := Aside0.mk (hbox); have n2_ := ge_ hg HB; have n3_ := ge_ hg HB; clear HB; have HB := n0_; have BK101 := n1_; have GW101 := n2_; have GE101 := n3_; clear n0_ n1_ n2_ n3_ hb hbox hg; have hcz14_0 := hz_ BK101; have hfz14_0 := blk_frozen BK101.out 0) | ((with_reducible refine gate_callee (f := 30) rfl ?_); refine gl_ (some 11) rfl rfl Try.func30 #[.agg #[.slice A0_0 l0_0.length c0_0], .slice A1 l1.length c1, .slice A2 l2.length c2] rfl ?_; (with_reducible refine (spec_l03Two.calls k _ _ l0_0 _ _ l1 _ _ l2 t102 _ ?side1 ?side2 ?side3 ?side4 ?side5 ?side6 A4.out).mono ?_); (case side1 => exact c2_ HR0_0 HB); (case side2 => exact HC0_0.out); (case side3 => exact c2_ HR1 HB); (case side4 => exact HC1.out); (case side5 => exact c2_ HR2 HB); (case side6 => exact HC2.out); rintro e w15 ⟨rfl, hb⟩; refine ⟨_, rfl, ?_⟩; replace BK101 := a2_ BK101 hb; replace HB := b1_ HB hb; (try clear hb); (try clear hb2); (try clear hk); (try clear hi); have hcz16_0 := hz_ BK101; have hfz16_0 := blk_frozen BK101.out 0) | (go_at_call 31; (with_reducible refine (spec_l01N.calls k _ _ l0_0 t103 _ ?side1 ?side2 A6.out).mono ?_); (case side1 => exact c2_ HR0_0 HB); (case side2 => exact HC0_0.out); rintro e w17 ⟨rfl, hb⟩; replace BK101 := a2_ BK101 hb; replace HB := b1_ HB hb; (try clear hb); (try clear hb2); (try clear hk); (try clear hi)))
 go_ret
 exact ⟨t5_, gb_ HB.out⟩
mutual
def spec_l03Least.l0 : Nat → List Int → List Int → Int → List (List Int) → Int → Int → List Int → Option (List Int × Int)
  | 0, _, _, _, _, _, _, _ => none
  | k + 1, x1, x6, x7, x8, x20, x21, x102000 => if x21 < x20 then (if 0 ≤ x21 then (if x21 < (x8.length : Int) then ((spec_l03Places.f k x102000 x1 (rd_L1 x8 x21)).bind fun bt112 => (spec_l03Least.l1 k x1 x6 x7 x8 bt112.2 0 x20 x21 x102000)) else (none)) else (none)) else (some (x6, x7))
def spec_l03Least.l1 : Nat → List Int → List Int → Int → List (List Int) → List Int → Int → Int → Int → List Int → Option (List Int × Int)
  | 0, _, _, _, _, _, _, _, _, _ => none
  | k + 1, x1, x6, x7, x8, x11, x12, x20, x21, x102000 => (spec_l01N.f k x102000).bind fun t119 => (if x12 < t119 then ((spec_l01Shifted.f k x102000 x11 x12).bind fun t120 => ((spec_l03Before.f k t120 x6).bind fun t123 => (if t123 = true then (spec_l03Least.j2 k x1 t120 x7 x8 x11 x12 t120 x20 x21 x102000) else (spec_l03Least.j2 k x1 x6 x7 x8 x11 x12 t120 x20 x21 x102000)))) else (spec_l03Least.l0 k x1 x6 x7 x8 x20 (wrap64 (x21 + 1)) x102000))
def spec_l03Least.j2 : Nat → List Int → List Int → Int → List (List Int) → List Int → Int → List Int → Int → Int → List Int → Option (List Int × Int)
  | 0, _, _, _, _, _, _, _, _, _, _ => none
  | k + 1, x1, x6, x7, x8, x11, x12, x13, x20, x21, x102000 => (spec_l03Before.f k x13 x1).bind fun t124 => (if t124 = true then (spec_l03Least.l1 k x1 x6 x7 x8 x11 (wrap64 (x12 + 1)) x20 x21 x102000) else ((spec_l03Before.f k x1 x13).bind fun t125 => (if t125 = true then (spec_l03Least.l1 k x1 x6 x7 x8 x11 (wrap64 (x12 + 1)) x20 x21 x102000) else (spec_l03Least.l1 k x1 x6 (wrap64 (x7 + 1)) x8 x11 (wrap64 (x12 + 1)) x20 x21 x102000))))
end
def spec_l03Least.f (k : Nat) (l0_0 : List Int) (l1 : List Int) : Option (List Int × Int) := (spec_l01Own.f l1).bind fun t102 => ((spec_l03Orders.f k l0_0 (([] : List Int))).bind fun t108 => (spec_l03Least.l0 k l1 t102 0 t108 (t108.length : Int) 0 l0_0))
def spec_l03Least.T1 : Bool × List (List Nat × List Nat) := (true, [([], []), ([0], [0]), ([], []), ([], []), ([2, 3, 1], [2, 3]), ([1, 4, 0, 1], [1]), ([5, 0, 1, 5], []), ([4, 6, 0, 1, 2, 3, 4, 5, 6], [4])])
def spec_l03Least.B1 : List Nat := [0, 1, 0, 0, 15, 31, 63, 127]
theorem spec_l03Least.tab1 : rtab .any (opsOf Try.f22 1) = spec_l03Least.T1 := by kernel_rfl
theorem spec_l03Least.bits1 : waitsOk spec_l03Least.T1.2 spec_l03Least.B1 = true := by kernel_rfl
def spec_l03Least.T5 : Bool × List (List Nat × List Nat) := (true, [([], []), ([], []), ([], []), ([], []), ([2, 3], [2, 3]), ([4], [4]), ([0, 1, 5], [0, 1, 5]), ([6], [6]), ([7], [7]), ([7], [7]), ([], []), ([10, 8, 6, 0, 1, 2, 3, 4, 5, 6, 7, 8, 10], [8, 10]), ([9, 11, 0, 1, 2, 3, 4, 5, 6, 7, 8, 9, 10, 11], [9])])
def spec_l03Least.B5 : List Nat := [0, 0, 0, 0, 12, 28, 63, 127, 255, 255, 0, 1535, 4095]
theorem spec_l03Least.tab5 : rtab .any (opsOf Try.f22 5) = spec_l03Least.T5 := by kernel_rfl
theorem spec_l03Least.bits5 : waitsOk spec_l03Least.T5.2 spec_l03Least.B5 = true := by kernel_rfl
set_option maxHeartbeats 8000000 in
set_option maxRecDepth 100000 in
theorem spec_l03Least.calls (k : Nat) (A0_0 : Option Addr) (c0_0 : Nat) (l0_0 : List Int) (A1 : Option Addr) (c1 : Nat) (l1 : List Int) (r1 : List Int) (r2 : Int) (w : World) (hr0_0 : Kd.C (Kd.int .i64) w A0_0 l0_0.length l0_0) (hc0_0 : l0_0.length ≤ c0_0) (hr1 : Kd.C (Kd.int .i64) w A1 l1.length l1) (hc1 : l1.length ≤ c1) (h : spec_l03Least.f k l0_0 l1 = some (r1, r2)) :
  Calls Try.prog 22 #[.agg #[.slice A0_0 l0_0.length c0_0], .slice A1 l1.length c1] w fun e w' => ∃ v0_ : Value, e = .returned (.tuple #[v0_, .int .i64 r2]) ∧ Kd.R (Kd.int .i64) 2 w' w.heap.size (fun _ => True) v0_ r1 ∧ Below w.heap.size w w' := by
 have hu28 := Try.underlying28
 have HR0_0 := Aside0.mk hr0_0
 have HC0_0 := Aside0.mk hc0_0
 clear hr0_0 hc0_0
 have HR1 := Aside0.mk hr1
 have HC1 := Aside0.mk hc1
 clear hr1 hc1
 have HB := Aside0.mk (Below.refl w.heap.size w)
 have H : ((spec_l01Own.f l1).bind fun t102 => ((spec_l03Orders.f k l0_0 (([] : List Int))).bind fun t108 => (spec_l03Least.l0 k l1 t102 0 t108 (t108.length : Int) 0 l0_0))) = some (r1, r2) := h
 clear h
 replace H := Option.bind_eq_some_iff.mp H
 obtain ⟨t102, A30, H⟩ := H
 replace H : ((spec_l03Orders.f k l0_0 (([] : List Int))).bind fun t108 => (spec_l03Least.l0 k l1 t102 0 t108 (t108.length : Int) 0 l0_0)) = some (r1, r2) := H
 have A3 := Aside0.mk A30
 clear A30
 obtain ⟨y105, hy105⟩ : ∃ y_ : List Int, y_ = (([] : List Int)) := ⟨_, rfl⟩
 replace H : ((spec_l03Orders.f k l0_0 y105).bind fun t108 => (spec_l03Least.l0 k l1 t102 0 t108 (t108.length : Int) 0 l0_0)) = some (r1, r2) := y_ H
 have Ny105 := Aside0.mk hy105
 clear hy105
 replace H := Option.bind_eq_some_iff.mp H
 obtain ⟨t108, A40, H⟩ := H
 replace H : (spec_l03Least.l0 k l1 t102 0 t108 (t108.length : Int) 0 l0_0) = some (r1, r2) := H
 have A4 := Aside0.mk A40
 clear A40
 have H' := Aside0.mk H
 clear H
 go_enter Try.func22, Try.ntmps22
 try go_wp2_with (first | ((with_reducible refine gate_dst (N := 2) rfl ?_); refine bx_ (N := 2) (cs := #[.slice A0_0 l0_0.length c0_0]) (t := 28) rfl rfl ?_; intro gb101 hg w5 hbox hb; have n0_ := b1_ HB hb; have n1_ := Aside0.mk (hbox); have n2_ := ge_ hg HB; have n3_ := ge_ hg HB; clear HB; have HB := n0_; have BK101 := n1_; have GW101 := n2_; have GE101 := n3_; clear n0_ n1_ n2_ n3_ hb hbox hg))
 replace BK101 := Aside0.mk (blk_drew BK101.out)
 replace HB := Aside0.mk (below_drew1 HB.out)
 refine start_ (n := 8) (S := fun w' => w'.cell? ⟨gb101, 0, none⟩ = some (.slice A0_0 l0_0.length c0_0)) (ds := []) #[false, false, false, false, false, false, false, false] (by kernel_rfl) rfl rfl ((blk_cell BK101.out 0).trans rfl) (fun hHeld => ?_); refine with_tabW spec_l03Least.tab1 spec_l03Least.bits1 (fun HT_ HW_ => ?_)
 generalize w5.drew = w6 at BK101 HB hHeld ⊢
 refine pu_ (i := 0) (N := some 14) (v := ?_) (a' := ?_) #[true, false, false, false, false, false, false, false] rfl rfl HT_ (Or.inl ⟨by rfl, ?_⟩) ?_ ?_
 rotate_left
 ·exact t7_
 rotate_left
 ·exact t4_
 refine tk_ (i := 2) (N := some 16) (v := ?_) (a' := ?_) #[true, false, true, false, false, false, false, false] rfl rfl HT_ HW_ (Or.inl ⟨by rfl, ?_⟩) hHeld ?_ ?_
 rotate_left
 ·intro w' s0
  go_simp
  with_reducible rfl
 rotate_left
 ·exact t4_
 refine join_ (σ := Value × Value) 4 #[true, true, true, true, false, false, false, false] (fun s_ => [(15, s_.1), (17, s_.2)]) (fun s_ w' => (w'.cell? ⟨gb101, 0, none⟩ = some (.slice A0_0 l0_0.length c0_0)) ∧ (Kd.R (Kd.int .i64) 2 w' w.heap.size (fun k_ => OB_ k_ s_.2) s_.1 t102) ∧ (Kd.R (Kd.int .i64) 2 w' w.heap.size (fun k_ => OB_ k_ s_.1) s_.2 y105) ∧ (w'.heap[gb101]? = some (.cells #[.slice A0_0 l0_0.length c0_0] 28 (0, 0))) ∧ (Below w.heap.size w w')) ?_ ?_
 rotate_left
 ·intro hCont
  refine two_ (i := 1) (j := 3) (Ni := some 15) (Nj := some 17) #[true, true, true, false, false, false, false, false] #[true, false, true, true, false, false, false, false] rfl rfl rfl rfl (two_of HT_.out (by kernel_rfl)) (by decide) (by decide) (fun K hK => ?_) (fun K hK => ?_)
  ·skip
   refine goes_ Try.func32 (by kernel_rfl) rfl #[.slice A1 l1.length c1] (by rfl) rfl rfl t1_ ?_
   with_reducible refine (spec_l01Own.calls _ _ l1 t102 _ ?side1 ?side2 A3.out).mono ?_
   (case side1 => exact c2_ HR1 HB)
   (case side2 => exact HC1.out)
   rintro e w7 ⟨v103, rfl, ho0, hb⟩
   refine ⟨_, rfl, ?_⟩
   have HO104 := Aside0.mk (Kd.R_lower ho0 (below_size (gb_ HB.out)))
   replace BK101 := a2_ BK101 hb
   replace HB := b1_ HB hb
   (try clear hb)
   (try clear hb2)
   (try clear hk)
   (try clear hi)
   (try clear ho0)
   refine hK.out _ _ ((blk_cell BK101.out 0).trans rfl) (fun hHeld => ?_)
   clear hK K
   refine norm_ (a' := ?_) ?_ ?_
   rotate_left
   ·show Act.put _ (some 15) _ = _
    simp only [Act.put, List.setIfInBounds_toArray, List.set_cons_zero, List.set_cons_succ, i64_w, i32_w]
    rfl
   refine on_ (i := 3) (N := some 17) #[true, true, true, true, false, false, false, false] rfl rfl HT_ (fun K hK => ?_)
   refine Kd.R_lit_step (Kd.int .i64) _ 2 ?hg (N := 17) ?hd (xs := ([] : List Int)) (inner := []) (ok := fun _ => True) (okp := fun _ => True) ?hr ?hp (fun _ hk => hk) trivial (Below.refl _ _) (Nat.le_refl _) (by simp) ?_; (case hd => rfl); (case hg => rfl); (case hr => exact t3_); (case hp => exact (Reps.none _ _))
   intro v106 w8 ho9 hb hg_ hnew_
   clear hg_ hnew_
   (first | rw [← Ny105.out] at ho9 | (simp only [Int.reduceToNat] at ho9; rw [← Ny105.out] at ho9))
   have n0_ := a5_ HO104 ho9 hb
   have n1_ := Aside0.mk (Kd.R_lower (Kd.R_new' ho9 (Kd.R_lt (rb_ HO104.out))) (below_size (gb_ HB.out)))
   have n2_ := a2_ BK101 hb
   have n3_ := b1_ HB hb
   clear HO104 BK101 HB
   have HO104 := n0_
   have HO107 := n1_
   have BK101 := n2_
   have HB := n3_
   clear n0_ n1_ n2_ n3_ hb ho9
   refine hK.out _ _ ((blk_cell BK101.out 0).trans rfl) (fun hHeld => ?_)
   clear hK K
   refine norm_ (a' := ?_) ?_ ?_
   rotate_left
   ·show Act.put _ (some 17) _ = _
    simp only [Act.put, List.setIfInBounds_toArray, List.set_cons_zero, List.set_cons_succ, i64_w, i32_w]
    rfl
   exact norm_ (by simp only [putAll, Act.put, List.setIfInBounds_toArray, List.set_cons_zero, List.set_cons_succ]) (hCont (v103, v106) _ ⟨hHeld, (rb_ (Kd.R_mono HO104.out (fun _ hk => hk.2))), (rb_ (Kd.R_mono HO107.out (fun _ hk => hk.2))), (bb_ BK101.out), (gb_ HB.out)⟩)
  ·skip
   refine Kd.R_lit_step (Kd.int .i64) _ 2 ?hg (N := 17) ?hd (xs := ([] : List Int)) (inner := []) (ok := fun _ => True) (okp := fun _ => True) ?hr ?hp (fun _ hk => hk) trivial (Below.refl _ _) (Nat.le_refl _) (by simp) ?_; (case hd => rfl); (case hg => rfl); (case hr => exact t3_); (case hp => exact (Reps.none _ _))
   intro v106 w7 ho8 hb hg_ hnew_
   clear hg_ hnew_
   (first | rw [← Ny105.out] at ho8 | (simp only [Int.reduceToNat] at ho8; rw [← Ny105.out] at ho8))
   have n0_ := Aside0.mk (Kd.R_lower ho8 (below_size (gb_ HB.out)))
   have n1_ := a2_ BK101 hb
   have n2_ := b1_ HB hb
   clear BK101 HB
   have HO107 := n0_
   have BK101 := n1_
   have HB := n2_
   clear n0_ n1_ n2_ hb ho8
   refine hK.out _ _ ((blk_cell BK101.out 0).trans rfl) (fun hHeld => ?_)
   clear hK K
   refine norm_ (a' := ?_) ?_ ?_
   rotate_left
   ·show Act.put _ (some 17) _ = _
    simp only [Act.put, List.setIfInBounds_toArray, List.set_cons_zero, List.set_cons_succ, i64_w, i32_w]
    rfl
   refine on_ (i := 1) (N := some 15) #[true, true, true, true, false, false, false, false] rfl rfl HT_ (fun K hK => ?_)
   refine goes_ Try.func32 (by kernel_rfl) rfl #[.slice A1 l1.length c1] (by rfl) rfl rfl t1_ ?_
   with_reducible refine (spec_l01Own.calls _ _ l1 t102 _ ?side1 ?side2 A3.out).mono ?_
   (case side1 => exact c2_ HR1 HB)
   (case side2 => exact HC1.out)
   rintro e w9 ⟨v103, rfl, ho0, hb⟩
   refine ⟨_, rfl, ?_⟩
   have HO104 := Aside0.mk (Kd.R_lower (Kd.R_new' ho0 (Kd.R_lt (rb_ HO107.out))) (below_size (gb_ HB.out)))
   replace HO107 := a5_ HO107 ho0 hb
   replace BK101 := a2_ BK101 hb
   replace HB := b1_ HB hb
   (try clear hb)
   (try clear hb2)
   (try clear hk)
   (try clear hi)
   (try clear ho0)
   refine hK.out _ _ ((blk_cell BK101.out 0).trans rfl) (fun hHeld => ?_)
   clear hK K
   refine norm_ (a' := ?_) ?_ ?_
   rotate_left
   ·show Act.put _ (some 15) _ = _
    simp only [Act.put, List.setIfInBounds_toArray, List.set_cons_zero, List.set_cons_succ, i64_w, i32_w]
    rfl
   exact norm_ (by simp only [putAll, Act.put, List.setIfInBounds_toArray, List.set_cons_zero, List.set_cons_succ]) (hCont (v103, v106) _ ⟨hHeld, (rb_ (Kd.R_mono HO104.out (fun _ hk => hk.2))), (rb_ (Kd.R_mono HO107.out (fun _ hk => hk.2))), (bb_ BK101.out), (gb_ HB.out)⟩)
 rintro ⟨v103, v106⟩ w10 ⟨hS_, h0_, h1_, h2_, h3_⟩
 have n0_ : Aside0 (Kd.R (Kd.int .i64) 2 w10 w.heap.size (fun k_ => OB_ k_ v106) v103 t102) := ⟨h0_⟩
 have n1_ : Aside0 (Kd.R (Kd.int .i64) 2 w10 w.heap.size (fun k_ => OB_ k_ v103) v106 y105) := ⟨h1_⟩
 have n2_ : Aside0 (w10.heap[gb101]? = some (.cells #[.slice A0_0 l0_0.length c0_0] 28 (0, 0))) := ⟨h2_⟩
 have n3_ : Aside0 (Below w.heap.size w w10) := ⟨h3_⟩
 clear BK101 HB h0_ h1_ h2_ h3_
 have HO104 := n0_
 have HO107 := n1_
 have BK101 := n2_
 have HB := n3_
 clear n0_ n1_ n2_ n3_
 have hHeld : w10.cell? ⟨gb101, 0, none⟩ = some (.slice A0_0 l0_0.length c0_0) := hS_
 obtain ⟨Ao11, co11, eo11⟩ := Kd.R_slice HO107.out
 (first | subst eo11 | (injection eo11 with f1_ f2_ f3_; have f4_ := f1_.symm; have f5_ := f3_.symm; clear f1_ f2_ f3_; subst f4_; subst f5_))
 refine norm_ (a' := ?_) ?_ ?_
 rotate_left
 ·simp only [putAll, Act.put, List.setIfInBounds_toArray, List.set_cons_zero, List.set_cons_succ]
  rfl
 refine on_ (i := 4) (N := some 18) #[true, true, true, true, true, false, false, false] rfl rfl HT_ (fun K hK => ?_)
 refine goes_ Try.func33 (by kernel_rfl) rfl #[.agg #[.slice A0_0 l0_0.length c0_0], .slice Ao11 y105.length co11] (by rfl) rfl rfl t1_ ?_
 with_reducible refine (spec_l03Orders.calls k _ _ l0_0 (fun k_ => some k_ = (.slice Ao11 y105.length co11 : Value).ownBlock) _ _ y105 t108 _ ?side1 ?side2 ?side3 A4.out).mono ?_
 (case side1 => exact c2_ HR0_0 HB)
 (case side2 => exact HC0_0.out)
 (case side3 => exact Kd.R_V (Kd.R_tight rfl (Kd.R_types (HO107.out) BK101.out (by decide))))
 rintro e w12 ⟨v109, rfl, ho0, hb⟩
 refine ⟨_, rfl, ?_⟩
 have HO110 := Aside0.mk (Kd.N_lower (Kd.N_mono (ok' := fun k_ => OB_ k_ v103 ∧ k_ ≠ gb101) ho0 (fun k_ hk_ => ⟨Or.elim hk_ (fun hs_ => ((Kd.R_types (HO107.out) BK101.out (by decide)).1 k_ hs_.symm).1) (fun hn_ => (Kd.fresh' (Kd.R_lt (rb_ HO104.out)) k_ hn_)), Or.elim hk_ (fun hs_ => ((Kd.R_types (HO107.out) BK101.out (by decide)).1 k_ hs_.symm).2) (fun hn_ => (Kd.freshB (g := gb101) (o := .cells #[.slice A0_0 l0_0.length c0_0] 28 (0, 0)) (bb_ BK101.out) k_ hn_))⟩)) (below_size (gb_ HB.out)))
 replace HO104 := a1_ HO104 hb
 replace HO107 := a1_ HO107 hb
 replace BK101 := a2_ BK101 hb
 replace HB := b1_ HB hb
 (try clear hb)
 (try clear hb2)
 (try clear hk)
 (try clear hi)
 (try clear ho0)
 refine hK.out _ _ ((blk_cell BK101.out 0).trans rfl) (fun hHeld => ?_)
 clear hK K
 refine norm_ (a' := ?_) ?_ ?_
 rotate_left
 ·show Act.put _ (some 18) _ = _
  simp only [Act.put, List.setIfInBounds_toArray, List.set_cons_zero, List.set_cons_succ, i64_w, i32_w]
  rfl
 refine pu_ (i := 5) (N := some 6) (v := ?_) (a' := ?_) #[true, true, true, true, true, true, false, false] rfl rfl HT_ (Or.inl ⟨by rfl, ?_⟩) ?_ ?_
 rotate_left
 ·exact t7_
 rotate_left
 ·exact t4_
 refine pu_ (i := 6) (N := some 7) (v := ?_) (a' := ?_) #[true, true, true, true, true, true, true, false] rfl rfl HT_ (Or.inl ⟨by rfl, ?_⟩) ?_ ?_
 rotate_left
 ·exact t7_
 rotate_left
 ·exact t4_
 refine pu_ (i := 7) (N := some 8) (v := ?_) (a' := ?_) #[true, true, true, true, true, true, true, true] rfl rfl HT_ (Or.inl ⟨by rfl, ?_⟩) ?_ ?_
 rotate_left
 ·exact t7_
 rotate_left
 ·exact t4_
 refine done_ (done_of HT_.out (by kernel_rfl)) ?_
 obtain ⟨Ao13, co13, eo13⟩ := Kd.N_slice HO110.out
 subst eo13
 try go_wp2
 go_loopg [6, 7, 21] k (fun kq v6 v7 v21 w' => ∃ (x6_1 : List Int) (x7_1 : Int) (x21_1 : Int), v7 = .int .i64 x7_1 ∧ v21 = .int .i64 x21_1 ∧ Aside0 (spec_l03Least.l0 kq l1 x6_1 x7_1 t108 (t108.length : Int) x21_1 l0_0 = some (r1, r2)) ∧ Aside0 (kq ≤ k) ∧ Aside0 (Kd.R (Kd.int .i64) 2 w' w.heap.size (fun _ => True) v6 x6_1) ∧ Aside0 (Kd.N (Kd.slice 2 (Kd.int .i64)) 22 w' w.heap.size (fun k_ => OB_ k_ v6 ∧ k_ ≠ gb101) (.slice Ao13 t108.length co13) t108) ∧ Aside0 (w'.heap[gb101]? = some (.cells #[(.slice A0_0 l0_0.length c0_0)] 28 (0, 0))) ∧ Aside0 (Below w.heap.size w w'))
 case atStart => exact ⟨(t102), (0), (0), t2_, t2_, H', ⟨Nat.le_refl _⟩, ⟨by (with_reducible repeat (first | apply Kd.R_alloc | apply Kd.R_drewN | apply Kd.R_drew)); exact Kd.R_mono HO104.out (fun _ hk => trivial)⟩, ⟨by (with_reducible repeat (first | apply Kd.N_alloc | apply Kd.N_drewN | apply Kd.N_drew)); exact HO110.out⟩, ⟨bb_ BK101.out⟩, ⟨gb_ HB.out⟩⟩
 clear H'
 try clear c1
 try clear c2
 try clear p2
 try clear c3
 obtain ⟨x6_1, x7_1, x21_1, rfl, rfl, HA, HK1, HO_6, HO_8, BK101, HB⟩ := hrel
 obtain _ | k1 := gk
 ·exact absurd HA.out (by simp [spec_l03Least.l0])
 have H := HA.out
 clear HA
 simp only [spec_l03Least.l0] at H
 by_cases c14 : x21_1 < (t108.length : Int)
 rotate_left
 ·rw [if_neg c14] at H
  have c14b0 : decide (x21_1 < (t108.length : Int)) = false := decide_eq_false c14
  clear c14
  simp only [Option.some.injEq, Prod.mk.injEq] at H
  obtain ⟨rfl, rfl⟩ := H
  go_wp2
  go_ret2
  exact ⟨_, t5_, rb_ HO_6.out, gb_ HB.out⟩

 rw [if_pos c14] at H
 have c14b0 : decide (x21_1 < (t108.length : Int)) = true := decide_eq_true c14
 clear c14
 by_cases c15 : 0 ≤ x21_1
 rotate_left
 ·rw [if_neg c15] at H
  exact absurd H (by simp)
 rw [if_pos c15] at H
 have c15b0 : decide (0 ≤ x21_1) = true := decide_eq_true c15
 clear c15
 by_cases c16 : x21_1 < (t108.length : Int)
 rotate_left
 ·rw [if_neg c16] at H
  exact absurd H (by simp)
 rw [if_pos c16] at H
 have c16b0 : decide (x21_1 < (t108.length : Int)) = true := decide_eq_true c16
 clear c16
 replace H := Option.bind_eq_some_iff.mp H
 obtain ⟨⟨t112, t115⟩, A170, H⟩ := H
 replace H : (spec_l03Least.l1 k1 l1 x6_1 x7_1 t108 t115 0 (t108.length : Int) x21_1 l0_0) = some (r1, r2) := H
 have A17 := Aside0.mk A170
 clear A170
 have H' := Aside0.mk H
 clear H
 try go_wp2
 replace HO_6 := Aside0.mk (Kd.R_drew HO_6.out)
 replace HO_8 := Aside0.mk (Kd.N_drew HO_8.out)
 replace BK101 := Aside0.mk (blk_drew BK101.out)
 replace HB := Aside0.mk (below_drew1 HB.out)
 have p111 : 0 ≤ (x21_1 : Int) := of_decide_eq_true t6_
 have q111 : x21_1 < (t108.length : Int) := of_decide_eq_true t6_
 obtain ⟨ad111, A111_0, c111_0, e111, hx111_0, hl111_0, hi111_0⟩ := at_L1 (Kd.N_reads' HO_8.out).2.2 x21_1 p111 q111
 cases e111
 obtain ⟨ce111, hce111, hMe111, hcc111⟩ := Kd.N_get HO_8.out [] x21_1 p111 (by first | exact q111 | exact of_decide_eq_true t6_ | (have e_ := (Kd.N_reads' HO_8.out).1; omega))
 obtain ⟨ua111_0, uc111_0, rfl, ul111_0, ge111_0⟩ := Kd.FK_slice_open hMe111
 have hv111_0 := hcc111 0 _ rfl
 rw [Nat.add_zero, show ((Kd.slice 2 (Kd.int .i64))).sz = 1 from rfl, Nat.mul_one] at hv111_0
 replace hv111_0 := Option.some.inj (hv111_0.symm.trans hx111_0)
 injection hv111_0 with hva_ hvn_ hvc_
 rw [hva_] at ge111_0
 rw [hvc_] at ul111_0
 have HL111_0 := Aside0.mk (show Kd.V (Kd.int .i64) 2 _ w.heap.size _ _ (rd_L1 t108 x21_1) from Kd.V_mk ul111_0 ge111_0)
 clear hva_ hvn_ hvc_ ge111_0 ul111_0 hcc111 hce111
 have HR111_0 := Aside0.mk hi111_0
 have HC111_0 := Aside0.mk hl111_0
 clear hi111_0 hl111_0
 replace p111 := eq_true p111
 replace q111 := eq_true q111
 refine start_ (n := 13) (S := fun w' => w'.cell? ⟨gb101, 0, none⟩ = some (.slice A0_0 l0_0.length c0_0) ∧ w'.cell? (ad111.add (x21_1).toNat) = some (.slice A111_0 (rd_L1 t108 x21_1).length c111_0)) (ds := []) #[false, false, false, false, false, false, false, false, false, false, false, false, false] (by kernel_rfl) rfl rfl ⟨(blk_cell BK101.out 0).trans rfl, hx111_0⟩ (fun hHeld => ?_); refine with_tabW spec_l03Least.tab5 spec_l03Least.bits5 (fun HT_ HW_ => ?_)
 generalize wr.drew = w18 at HO_6 HO_8 BK101 HB HL111_0 HR111_0 hx111_0 hHeld ⊢
 refine pu_ (i := 1) (N := some 26) (v := ?_) (a' := ?_) #[false, true, false, false, false, false, false, false, false, false, false, false, false] rfl rfl HT_ (Or.inl ⟨by rfl, ?_⟩) ?_ ?_
 rotate_left
 ·exact t7_
 rotate_left
 ·exact t4_
 refine pu_ (i := 2) (N := some 27) (v := ?_) (a' := ?_) #[false, true, true, false, false, false, false, false, false, false, false, false, false] rfl rfl HT_ (Or.inl ⟨by rfl, ?_⟩) ?_ ?_
 rotate_left
 ·exact t7_
 rotate_left
 ·exact t4_
 refine pu_ (i := 3) (N := some 28) (v := ?_) (a' := ?_) #[false, true, true, true, false, false, false, false, false, false, false, false, false] rfl rfl HT_ (Or.inl ⟨by rfl, ?_⟩) ?_ ?_
 rotate_left
 ·exact t7_
 rotate_left
 ·exact t4_
 refine pu_ (i := 4) (N := some 29) (v := ?_) (a' := ?_) #[false, true, true, true, true, false, false, false, false, false, false, false, false] rfl rfl HT_ (Or.inl ⟨by rfl, ?_⟩) ?_ ?_
 rotate_left
 ·exact t7_
 rotate_left
 ·exact t4_
 refine tk_ (i := 0) (N := some 25) (v := ?_) (a' := ?_) #[true, true, true, true, true, false, false, false, false, false, false, false, false] rfl rfl HT_ HW_ (Or.inl ⟨by rfl, ?_⟩) hHeld ?_ ?_
 rotate_left
 ·rintro w' ⟨s0, s1⟩
  go_simp
  with_reducible rfl
 rotate_left
 ·exact t4_
 refine tk_ (i := 5) (N := some 30) (v := ?_) (a' := ?_) #[true, true, true, true, true, true, false, false, false, false, false, false, false] rfl rfl HT_ HW_ (Or.inl ⟨by rfl, ?_⟩) hHeld ?_ ?_
 rotate_left
 ·rintro w' ⟨s0, s1⟩
  go_simp
  with_reducible rfl
 rotate_left
 ·exact t4_
 refine join_ (σ := Value × Value × Nat) 2 #[true, true, true, true, true, true, true, true, true, true, true, false, false] (fun s_ => [(31, .tuple #[.agg #[s_.1], s_.2.1]), (10, .pointer (some ⟨s_.2.2, 0, none⟩)), (24, .tuple #[.agg #[s_.1], s_.2.1]), (32, .agg #[s_.1]), (33, s_.2.1)]) (fun s_ w' => (w'.cell? ⟨gb101, 0, none⟩ = some (.slice A0_0 l0_0.length c0_0) ∧ w'.cell? (ad111.add (x21_1).toNat) = some (.slice A111_0 (rd_L1 t108 x21_1).length c111_0)) ∧ (Kd.V (Kd.int .i64) 2 w' w.heap.size (fun k_ => OB_ k_ s_.1 ∧ OB_ k_ s_.2.1 ∧ OB_ k_ u6 ∧ OB_ k_ (.slice (some ad111) t108.length co13) ∧ k_ ≠ gb101 ∧ k_ ≠ s_.2.2) (.slice A111_0 (rd_L1 t108 x21_1).length c111_0) (rd_L1 t108 x21_1)) ∧ (Kd.R (Kd.int .i64) 2 w' w.heap.size (fun k_ => OB_ k_ s_.2.1 ∧ OB_ k_ u6) s_.1 t112) ∧ (Kd.R (Kd.int .i64) 2 w' w.heap.size (fun k_ => OB_ k_ s_.1 ∧ OB_ k_ u6) s_.2.1 t115) ∧ (Kd.R (Kd.int .i64) 2 w' w.heap.size (fun k_ => OB_ k_ s_.1 ∧ OB_ k_ s_.2.1) u6 x6_1) ∧ (Kd.N (Kd.slice 2 (Kd.int .i64)) 22 w' w.heap.size (fun k_ => OB_ k_ s_.1 ∧ OB_ k_ s_.2.1 ∧ OB_ k_ u6 ∧ k_ ≠ gb101 ∧ k_ ≠ s_.2.2) (.slice (some ad111) t108.length co13) t108) ∧ (w'.heap[gb101]? = some (.cells #[.slice A0_0 l0_0.length c0_0] 28 (0, 0))) ∧ (w'.heap[s_.2.2]? = some (.cells #[.slice none 0 0] 28 (0, 0))) ∧ (w.heap.size ≤ s_.2.2) ∧ (w.heap.size ≤ s_.2.2) ∧ (gb101 ≠ s_.2.2) ∧ (s_.2.2 ≠ gb101) ∧ (Below w.heap.size w w')) ?_ ?_
 rotate_left
 ·intro hCont
  refine two_ (i := 6) (j := 10) (Ni := some 31) (Nj := some 10) #[true, true, true, true, true, true, true, false, false, false, false, false, false] #[true, true, true, true, true, true, false, false, false, false, true, false, false] rfl rfl rfl rfl (two_of HT_.out (by kernel_rfl)) (by decide) (by decide) (fun K hK => ?_) (fun K hK => ?_)
  ·skip
   refine goes_ Try.func34 (by kernel_rfl) rfl #[.agg #[.slice A0_0 l0_0.length c0_0], .slice A1 l1.length c1, .slice A111_0 (rd_L1 t108 x21_1).length c111_0] (by rfl) rfl rfl t1_ ?_
   with_reducible refine (spec_l03Places.calls k1 _ _ l0_0 _ _ l1 _ _ (rd_L1 t108 x21_1) t112 t115 _ ?side1 ?side2 ?side3 ?side4 ?side5 ?side6 A17.out).mono ?_
   (case side1 => exact c2_ HR0_0 HB)
   (case side2 => exact HC0_0.out)
   (case side3 => exact c2_ HR1 HB)
   (case side4 => exact HC1.out)
   (case side5 => repeat (first | exact (by repeat (first | (with_reducible exact HR111_0.out) | (with_reducible refine Kd.C_alloc ?_ _) | (with_reducible refine Kd.C_drewN ?_ _) | (with_reducible refine Kd.C_drew ?_) | exact HR111_0.out)) | (with_reducible refine Kd.C_alloc ?_ _) | (with_reducible refine Kd.C_drewN ?_ _) | (with_reducible refine Kd.C_drew ?_)))
   (case side6 => exact HC111_0.out)
   rintro e w19 ⟨v113, v116, rfl, ho0, ho1, hb⟩
   have HS1_ := (hb.cell (World.block_lt_of_cell? _ _ (hHeld.2))).trans (hHeld.2)
   refine ⟨_, rfl, ?_⟩
   replace HO_8 := Aside0.mk (Kd.N_mono (Kd.N_told (Kd.N_told (Kd.N_old (by (with_reducible repeat (first | apply Kd.N_alloc | apply Kd.N_drewN | apply Kd.N_drew)); exact HO_8.out) hb) (Kd.R_base ho0)) (Kd.R_base ho1)) (fun _ h_ => h_.1))
   replace HL111_0 := Aside0.mk (Kd.V_mono (Kd.V_told (Kd.V_told (Kd.V_old (by (with_reducible repeat (first | apply Kd.V_alloc | apply Kd.V_drewN | apply Kd.V_drew)); exact HL111_0.out) hb) (Kd.R_base ho0)) (Kd.R_base ho1)) (fun _ h_ => h_.1))
   have HO114 := Aside0.mk (Kd.R_lower (Kd.R_new' ho0 (Kd.R_lt (rb_ HO_6.out))) (below_size (gb_ HB.out)))
   have HO117 := Aside0.mk (Kd.R_lower (Kd.R_new' ho1 (Kd.R_lt (rb_ HO_6.out))) (below_size (gb_ HB.out)))
   replace HO_6 := Aside0.mk (Kd.R_mono (Kd.R_told (Kd.R_told (Kd.R_old (rb_ HO_6.out) hb) (Kd.R_base ho0)) (Kd.R_base ho1)) (fun _ h_ => h_.1))
   replace BK101 := a2_ BK101 hb
   replace HR111_0 := Aside0.mk (Kd.C_below (by repeat (first | (with_reducible exact HR111_0.out) | (with_reducible refine Kd.C_alloc ?_ _) | (with_reducible refine Kd.C_drewN ?_ _) | (with_reducible refine Kd.C_drew ?_) | exact HR111_0.out)) hb)
   replace HB := b1_ HB hb
   (try clear hb)
   (try clear hb2)
   (try clear hk)
   (try clear hi)
   (try clear ho0)
   (try clear ho1)
   refine hK.out _ _ ⟨(blk_cell BK101.out 0).trans rfl, HS1_⟩ (fun hHeld => ?_)
   clear hK K
   refine norm_ (a' := ?_) ?_ ?_
   rotate_left
   ·show Act.put _ (some 31) _ = _
    simp only [Act.put, List.setIfInBounds_toArray, List.set_cons_zero, List.set_cons_succ, i64_w, i32_w]
    rfl
   refine pu_ (i := 7) (N := some 24) (v := ?_) (a' := ?_) #[true, true, true, true, true, true, true, true, false, false, false, false, false] rfl rfl HT_ (Or.inl ⟨by rfl, ?_⟩) ?_ ?_
   rotate_left
   ·exact t7_
   rotate_left
   ·exact t4_
   refine pu_ (i := 8) (N := some 32) (v := ?_) (a' := ?_) #[true, true, true, true, true, true, true, true, true, false, false, false, false] rfl rfl HT_ (Or.inl ⟨by rfl, ?_⟩) ?_ ?_
   rotate_left
   ·exact t7_
   rotate_left
   ·exact t4_
   refine pu_ (i := 9) (N := some 33) (v := ?_) (a' := ?_) #[true, true, true, true, true, true, true, true, true, true, false, false, false] rfl rfl HT_ (Or.inl ⟨by rfl, ?_⟩) ?_ ?_
   rotate_left
   ·exact t7_
   rotate_left
   ·exact t4_
   refine on_ (i := 10) (N := some 10) #[true, true, true, true, true, true, true, true, true, true, true, false, false] rfl rfl HT_ (fun K hK => ?_)
   refine box_step ?hg (N := 10) ?hd (cs := #[.slice none 0 0]) (t := 28) ?hr ?_; (case hd => rfl); (case hg => rfl); (case hr => exact t3_)
   intro gb118 hg w20 hbox hb
   have HS1_ := (hb.cell (World.block_lt_of_cell? _ _ (hHeld.2))).trans (hHeld.2)
   have n0_ := a1_ HO_6 hb
   have n1_ := Aside0.mk (Kd.N_below (Kd.N_elderB (by (with_reducible repeat (first | apply Kd.N_alloc | apply Kd.N_drewN | apply Kd.N_drew)); exact HO_8.out) gb118 (Nat.le_of_eq hg.symm)) hb)
   have n2_ := Aside0.mk (Kd.V_below (Kd.V_elderB (by (with_reducible repeat (first | apply Kd.V_alloc | apply Kd.V_drewN | apply Kd.V_drew)); exact HL111_0.out) gb118 (Nat.le_of_eq hg.symm)) hb)
   have n3_ := a1_ HO114 hb
   have n4_ := a1_ HO117 hb
   have n5_ := a2_ BK101 hb
   have n6_ := Aside0.mk (Kd.C_below (by repeat (first | (with_reducible exact HR111_0.out) | (with_reducible refine Kd.C_alloc ?_ _) | (with_reducible refine Kd.C_drewN ?_ _) | (with_reducible refine Kd.C_drew ?_) | exact HR111_0.out)) hb)
   have n7_ := b1_ HB hb
   have n8_ := Aside0.mk (hbox)
   have n9_ := ge_ hg HB
   have n10_ := ge_ hg HB
   have n11_ := nl_ hg BK101
   have n12_ := nr_ hg BK101
   clear HO_6 HO_8 HL111_0 HO114 HO117 BK101 HR111_0 HB
   have HO_6 := n0_
   have HO_8 := n1_
   have HL111_0 := n2_
   have HO114 := n3_
   have HO117 := n4_
   have BK101 := n5_
   have HR111_0 := n6_
   have HB := n7_
   have BK118 := n8_
   have GW118 := n9_
   have GE118 := n10_
   have NB101_118 := n11_
   have NB118_101 := n12_
   clear n0_ n1_ n2_ n3_ n4_ n5_ n6_ n7_ n8_ n9_ n10_ n11_ n12_ hb hbox hg
   refine hK.out _ _ ⟨(blk_cell BK101.out 0).trans rfl, HS1_⟩ (fun hHeld => ?_)
   clear hK K
   refine norm_ (a' := ?_) ?_ ?_
   rotate_left
   ·show Act.put _ (some 10) _ = _
    simp only [Act.put, List.setIfInBounds_toArray, List.set_cons_zero, List.set_cons_succ, i64_w, i32_w]
    rfl
   exact norm_ (by simp only [putAll, Act.put, List.setIfInBounds_toArray, List.set_cons_zero, List.set_cons_succ]) (hCont (v113, v116, gb118) _ ⟨hHeld, (by (with_reducible repeat (first | apply Kd.V_alloc | apply Kd.V_drewN | apply Kd.V_drew)); exact Kd.V_mono HL111_0.out (fun _ hk => ⟨hk.1.1.2, ⟨hk.1.2, ⟨hk.1.1.1.1.1, ⟨hk.1.1.1.2, ⟨hk.1.1.1.1.2, hk.2⟩⟩⟩⟩⟩)), (rb_ HO114.out), (rb_ HO117.out), (rb_ (Kd.R_mono HO_6.out (fun _ hk => ⟨hk.1.2, hk.2⟩))), (by (with_reducible repeat (first | apply Kd.N_alloc | apply Kd.N_drewN | apply Kd.N_drew)); exact Kd.N_mono HO_8.out (fun _ hk => ⟨hk.1.1.2, ⟨hk.1.2, ⟨hk.1.1.1.1, ⟨hk.1.1.1.2, hk.2⟩⟩⟩⟩)), (bb_ BK101.out), (bb_ BK118.out), GW118.out, GE118.out, NB101_118.out, NB118_101.out, (gb_ HB.out)⟩)
  ·skip
   refine box_step ?hg (N := 10) ?hd (cs := #[.slice none 0 0]) (t := 28) ?hr ?_; (case hd => rfl); (case hg => rfl); (case hr => exact t3_)
   intro gb118 hg w19 hbox hb
   have HS1_ := (hb.cell (World.block_lt_of_cell? _ _ (hHeld.2))).trans (hHeld.2)
   have n0_ := a1_ HO_6 hb
   have n1_ := Aside0.mk (Kd.N_below (Kd.N_elderB (by (with_reducible repeat (first | apply Kd.N_alloc | apply Kd.N_drewN | apply Kd.N_drew)); exact HO_8.out) gb118 (Nat.le_of_eq hg.symm)) hb)
   have n2_ := Aside0.mk (Kd.V_below (Kd.V_elderB (by (with_reducible repeat (first | apply Kd.V_alloc | apply Kd.V_drewN | apply Kd.V_drew)); exact HL111_0.out) gb118 (Nat.le_of_eq hg.symm)) hb)
   have n3_ := a2_ BK101 hb
   have n4_ := Aside0.mk (Kd.C_below (by repeat (first | (with_reducible exact HR111_0.out) | (with_reducible refine Kd.C_alloc ?_ _) | (with_reducible refine Kd.C_drewN ?_ _) | (with_reducible refine Kd.C_drew ?_) | exact HR111_0.out)) hb)
   have n5_ := b1_ HB hb
   have n6_ := Aside0.mk (hbox)
   have n7_ := ge_ hg HB
   have n8_ := ge_ hg HB
   have n9_ := nl_ hg BK101
   have n10_ := nr_ hg BK101
   clear HO_6 HO_8 HL111_0 BK101 HR111_0 HB
   have HO_6 := n0_
   have HO_8 := n1_
   have HL111_0 := n2_
   have BK101 := n3_
   have HR111_0 := n4_
   have HB := n5_
   have BK118 := n6_
   have GW118 := n7_
   have GE118 := n8_
   have NB101_118 := n9_
   have NB118_101 := n10_
   clear n0_ n1_ n2_ n3_ n4_ n5_ n6_ n7_ n8_ n9_ n10_ hb hbox hg
   refine hK.out _ _ ⟨(blk_cell BK101.out 0).trans rfl, HS1_⟩ (fun hHeld => ?_)
   clear hK K
   refine norm_ (a' := ?_) ?_ ?_
   rotate_left
   ·show Act.put _ (some 10) _ = _
    simp only [Act.put, List.setIfInBounds_toArray, List.set_cons_zero, List.set_cons_succ, i64_w, i32_w]
    rfl
   refine on_ (i := 6) (N := some 31) #[true, true, true, true, true, true, true, false, false, false, true, false, false] rfl rfl HT_ (fun K hK => ?_)
   refine goes_ Try.func34 (by kernel_rfl) rfl #[.agg #[.slice A0_0 l0_0.length c0_0], .slice A1 l1.length c1, .slice A111_0 (rd_L1 t108 x21_1).length c111_0] (by rfl) rfl rfl t1_ ?_
   with_reducible refine (spec_l03Places.calls k1 _ _ l0_0 _ _ l1 _ _ (rd_L1 t108 x21_1) t112 t115 _ ?side1 ?side2 ?side3 ?side4 ?side5 ?side6 A17.out).mono ?_
   (case side1 => exact c2_ HR0_0 HB)
   (case side2 => exact HC0_0.out)
   (case side3 => exact c2_ HR1 HB)
   (case side4 => exact HC1.out)
   (case side5 => repeat (first | exact (by repeat (first | (with_reducible exact HR111_0.out) | (with_reducible refine Kd.C_alloc ?_ _) | (with_reducible refine Kd.C_drewN ?_ _) | (with_reducible refine Kd.C_drew ?_) | exact HR111_0.out)) | (with_reducible refine Kd.C_alloc ?_ _) | (with_reducible refine Kd.C_drewN ?_ _) | (with_reducible refine Kd.C_drew ?_)))
   (case side6 => exact HC111_0.out)
   rintro e w20 ⟨v113, v116, rfl, ho0, ho1, hb⟩
   have HS1_ := (hb.cell (World.block_lt_of_cell? _ _ (hHeld.2))).trans (hHeld.2)
   refine ⟨_, rfl, ?_⟩
   replace HO_8 := Aside0.mk (Kd.N_mono (Kd.N_told (Kd.N_told (Kd.N_old (by (with_reducible repeat (first | apply Kd.N_alloc | apply Kd.N_drewN | apply Kd.N_drew)); exact HO_8.out) hb) (Kd.R_base ho0)) (Kd.R_base ho1)) (fun _ h_ => h_.1))
   replace HL111_0 := Aside0.mk (Kd.V_mono (Kd.V_told (Kd.V_told (Kd.V_old (by (with_reducible repeat (first | apply Kd.V_alloc | apply Kd.V_drewN | apply Kd.V_drew)); exact HL111_0.out) hb) (Kd.R_base ho0)) (Kd.R_base ho1)) (fun _ h_ => h_.1))
   have HO114 := Aside0.mk (Kd.R_lower (Kd.R_new' ho0 (Kd.R_lt (rb_ HO_6.out))) (below_size (gb_ HB.out)))
   have HO117 := Aside0.mk (Kd.R_lower (Kd.R_new' ho1 (Kd.R_lt (rb_ HO_6.out))) (below_size (gb_ HB.out)))
   replace HO_6 := Aside0.mk (Kd.R_mono (Kd.R_told (Kd.R_told (Kd.R_old (rb_ HO_6.out) hb) (Kd.R_base ho0)) (Kd.R_base ho1)) (fun _ h_ => h_.1))
   replace BK101 := a2_ BK101 hb
   replace HR111_0 := Aside0.mk (Kd.C_below (by repeat (first | (with_reducible exact HR111_0.out) | (with_reducible refine Kd.C_alloc ?_ _) | (with_reducible refine Kd.C_drewN ?_ _) | (with_reducible refine Kd.C_drew ?_) | exact HR111_0.out)) hb)
   replace BK118 := a2_ BK118 hb
   replace HB := b1_ HB hb
   (try clear hb)
   (try clear hb2)
   (try clear hk)
   (try clear hi)
   (try clear ho0)
   (try clear ho1)
   refine hK.out _ _ ⟨(blk_cell BK101.out 0).trans rfl, HS1_⟩ (fun hHeld => ?_)
   clear hK K
   refine norm_ (a' := ?_) ?_ ?_
   rotate_left
   ·show Act.put _ (some 31) _ = _
    simp only [Act.put, List.setIfInBounds_toArray, List.set_cons_zero, List.set_cons_succ, i64_w, i32_w]
    rfl
   refine pu_ (i := 7) (N := some 24) (v := ?_) (a' := ?_) #[true, true, true, true, true, true, true, true, false, false, true, false, false] rfl rfl HT_ (Or.inl ⟨by rfl, ?_⟩) ?_ ?_
   rotate_left
   ·exact t7_
   rotate_left
   ·exact t4_
   refine pu_ (i := 8) (N := some 32) (v := ?_) (a' := ?_) #[true, true, true, true, true, true, true, true, true, false, true, false, false] rfl rfl HT_ (Or.inl ⟨by rfl, ?_⟩) ?_ ?_
   rotate_left
   ·exact t7_
   rotate_left
   ·exact t4_
   refine pu_ (i := 9) (N := some 33) (v := ?_) (a' := ?_) #[true, true, true, true, true, true, true, true, true, true, true, false, false] rfl rfl HT_ (Or.inl ⟨by rfl, ?_⟩) ?_ ?_
   rotate_left
   ·exact t7_
   rotate_left
   ·exact t4_
   exact norm_ (by simp only [putAll, Act.put, List.setIfInBounds_toArray, List.set_cons_zero, List.set_cons_succ]) (hCont (v113, v116, gb118) _ ⟨hHeld, (by (with_reducible repeat (first | apply Kd.V_alloc | apply Kd.V_drewN | apply Kd.V_drew)); exact Kd.V_mono HL111_0.out (fun _ hk => ⟨hk.1.2, ⟨hk.2, ⟨hk.1.1.1.1.1, ⟨hk.1.1.1.2, ⟨hk.1.1.1.1.2, hk.1.1.2⟩⟩⟩⟩⟩)), (rb_ HO114.out), (rb_ HO117.out), (rb_ (Kd.R_mono HO_6.out (fun _ hk => ⟨hk.1.2, hk.2⟩))), (by (with_reducible repeat (first | apply Kd.N_alloc | apply Kd.N_drewN | apply Kd.N_drew)); exact Kd.N_mono HO_8.out (fun _ hk => ⟨hk.1.2, ⟨hk.2, ⟨hk.1.1.1.1, ⟨hk.1.1.1.2, hk.1.1.2⟩⟩⟩⟩)), (bb_ BK101.out), (bb_ BK118.out), GW118.out, GE118.out, NB101_118.out, NB118_101.out, (gb_ HB.out)⟩)
 rintro ⟨v113, v116, gb118⟩ w21 ⟨hS_, h0_, h1_, h2_, h3_, h4_, h5_, h6_, h7_, h8_, h9_, h10_, h11_⟩
 have n0_ : Aside0 (Kd.V (Kd.int .i64) 2 w21 w.heap.size (fun k_ => OB_ k_ v113 ∧ OB_ k_ v116 ∧ OB_ k_ u6 ∧ OB_ k_ (.slice (some ad111) t108.length co13) ∧ k_ ≠ gb101 ∧ k_ ≠ gb118) (.slice A111_0 (rd_L1 t108 x21_1).length c111_0) (rd_L1 t108 x21_1)) := ⟨h0_⟩
 have n1_ : Aside0 (Kd.R (Kd.int .i64) 2 w21 w.heap.size (fun k_ => OB_ k_ v116 ∧ OB_ k_ u6) v113 t112) := ⟨h1_⟩
 have n2_ : Aside0 (Kd.R (Kd.int .i64) 2 w21 w.heap.size (fun k_ => OB_ k_ v113 ∧ OB_ k_ u6) v116 t115) := ⟨h2_⟩
 have n3_ : Aside0 (Kd.R (Kd.int .i64) 2 w21 w.heap.size (fun k_ => OB_ k_ v113 ∧ OB_ k_ v116) u6 x6_1) := ⟨h3_⟩
 have n4_ : Aside0 (Kd.N (Kd.slice 2 (Kd.int .i64)) 22 w21 w.heap.size (fun k_ => OB_ k_ v113 ∧ OB_ k_ v116 ∧ OB_ k_ u6 ∧ k_ ≠ gb101 ∧ k_ ≠ gb118) (.slice (some ad111) t108.length co13) t108) := ⟨h4_⟩
 have n5_ : Aside0 (w21.heap[gb101]? = some (.cells #[.slice A0_0 l0_0.length c0_0] 28 (0, 0))) := ⟨h5_⟩
 have n6_ : Aside0 (w21.heap[gb118]? = some (.cells #[.slice none 0 0] 28 (0, 0))) := ⟨h6_⟩
 have n7_ : Aside0 (w.heap.size ≤ gb118) := ⟨h7_⟩
 have n8_ : Aside0 (w.heap.size ≤ gb118) := ⟨h8_⟩
 have n9_ : Aside0 (gb101 ≠ gb118) := ⟨h9_⟩
 have n10_ : Aside0 (gb118 ≠ gb101) := ⟨h10_⟩
 have n11_ : Aside0 (Below w.heap.size w w21) := ⟨h11_⟩
 clear HO_6 HO_8 BK101 HB h0_ h1_ h2_ h3_ h4_ h5_ h6_ h7_ h8_ h9_ h10_ h11_
 have HL111_0 := n0_
 have HO114 := n1_
 have HO117 := n2_
 have HO_6 := n3_
 have HO_8 := n4_
 have BK101 := n5_
 have BK118 := n6_
 have GW118 := n7_
 have GE118 := n8_
 have NB101_118 := n9_
 have NB118_101 := n10_
 have HB := n11_
 clear n0_ n1_ n2_ n3_ n4_ n5_ n6_ n7_ n8_ n9_ n10_ n11_
 have hHeld : w21.cell? ⟨gb101, 0, none⟩ = some (.slice A0_0 l0_0.length c0_0) ∧ w21.cell? (ad111.add (x21_1).toNat) = some (.slice A111_0 (rd_L1 t108 x21_1).length c111_0) := hS_
 obtain ⟨Ao22, co22, eo22⟩ := Kd.R_slice HO114.out
 (first | subst eo22 | (injection eo22 with f1_ f2_ f3_; have f4_ := f1_.symm; have f5_ := f3_.symm; clear f1_ f2_ f3_; subst f4_; subst f5_))
 refine norm_ (a' := ?_) ?_ ?_
 rotate_left
 ·simp only [putAll, Act.put, List.setIfInBounds_toArray, List.set_cons_zero, List.set_cons_succ]
  rfl
 refine on_ (i := 11) (N := none) #[true, true, true, true, true, true, true, true, true, true, true, true, false] rfl rfl HT_ (fun K hK => ?_)
 have hs23 : w21.cell? ⟨gb118, 0, none⟩ = some (.slice none 0 0) := (blk_cell BK118.out 0).trans rfl
 have hfs23 := blk_frozen BK118.out 0
 have hns23_0 := NB101_118.out
 have hms23_0 := NB118_101.out
 refine skip_ (w1 := ?_) (by rfl) rfl ?_ ?_
 rotate_left
 ·go_simp
  rfl
 refine hK.out _ _ ⟨((cell_far (p := ⟨gb118, _, none⟩) NB101_118.out _).trans (hHeld.1)), ((cell_far (p := ⟨gb118, _, none⟩) (by first | exact Kd.own_blk (Kd.N_away HO_8.out (fun _ hk => hk.2.2.2.2)) | (rw [add_block]; exact Kd.own_blk (Kd.N_away HO_8.out (fun _ hk => hk.2.2.2.2))) | (show (Addr.add _ _).block ≠ _; rw [add_block]; exact Kd.own_blk (Kd.N_away HO_8.out (fun _ hk => hk.2.2.2.2))) | (dsimp only; exact Kd.own_blk (Kd.N_away HO_8.out (fun _ hk => hk.2.2.2.2)))) _).trans (hHeld.2))⟩ (fun hHeld => ?_)
 clear hK K
 refine pu_ (i := 12) (N := some 11) (v := ?_) (a' := ?_) #[true, true, true, true, true, true, true, true, true, true, true, true, true] rfl rfl HT_ (Or.inl ⟨by rfl, ?_⟩) ?_ ?_
 rotate_left
 ·exact t7_
 rotate_left
 ·exact t4_
 refine done_ (done_of HT_.out (by kernel_rfl)) ?_
 try go_wp2
 go_loopg [6, 7, 12] k1 (fun kq v6 v7 v12 w' => ∃ (x6_2 : List Int) (x7_2 : Int) (x12_2 : Int), v7 = .int .i64 x7_2 ∧ v12 = .int .i64 x12_2 ∧ Aside0 (spec_l03Least.l1 kq l1 x6_2 x7_2 t108 t115 x12_2 (t108.length : Int) x21_1 l0_0 = some (r1, r2)) ∧ Aside0 (kq ≤ k1) ∧ Aside0 (Kd.R (Kd.int .i64) 2 w' w.heap.size (fun k_ => OB_ k_ v116 ∧ OB_ k_ (.slice Ao22 t112.length co22)) v6 x6_2) ∧ Aside0 (Kd.N (Kd.slice 2 (Kd.int .i64)) 22 w' w.heap.size (fun k_ => OB_ k_ v6 ∧ OB_ k_ v116 ∧ OB_ k_ (.slice Ao22 t112.length co22) ∧ k_ ≠ gb101 ∧ k_ ≠ gb118) (.slice (some ad111) t108.length co13) t108) ∧ Aside0 (Kd.R (Kd.int .i64) 2 w' w.heap.size (fun k_ => OB_ k_ v6 ∧ OB_ k_ (.slice Ao22 t112.length co22)) v116 t115) ∧ Aside0 (Kd.R (Kd.int .i64) 2 w' w.heap.size (fun k_ => OB_ k_ v6 ∧ OB_ k_ v116) (.slice Ao22 t112.length co22) t112) ∧ Aside0 (w'.heap[gb101]? = some (.cells #[(.slice A0_0 l0_0.length c0_0)] 28 (0, 0))) ∧ Aside0 (w'.heap[gb118]? = some (.cells #[(.slice Ao22 t112.length co22)] 28 (0, 0))) ∧ Aside0 (Below w.heap.size w w'))
 case atStart => exact ⟨(x6_1), (x7_1), (0), t2_, t2_, H', ⟨Nat.le_refl _⟩, ⟨by (with_reducible repeat (first | apply Kd.R_alloc | apply Kd.R_drewN | apply Kd.R_drew)); exact Kd.R_mono (Kd.R_far (p := ⟨gb118, 0, none⟩) (Kd.R_types HO_6.out BK118.out (by decide)) (fun _ hk => hk.2) (.slice Ao22 t112.length co22)) (fun _ hk => ⟨hk.1.2, hk.1.1⟩)⟩, ⟨by (with_reducible repeat (first | apply Kd.N_alloc | apply Kd.N_drewN | apply Kd.N_drew)); exact Kd.N_mono (Kd.N_far (p := ⟨gb118, 0, none⟩) (Kd.N_mono HO_8.out (fun k_ hk => (⟨hk, hk.2.2.2.2⟩ : _ ∧ k_ ≠ gb118))) (fun _ hk => hk.2) (.slice Ao22 t112.length co22)) (fun _ hk => ⟨hk.1.2.2.1, ⟨hk.1.2.1, ⟨hk.1.1, ⟨hk.1.2.2.2.1, hk.1.2.2.2.2⟩⟩⟩⟩)⟩, ⟨by (with_reducible repeat (first | apply Kd.R_alloc | apply Kd.R_drewN | apply Kd.R_drew)); exact Kd.R_mono (Kd.R_far (p := ⟨gb118, 0, none⟩) (Kd.R_types HO117.out BK118.out (by decide)) (fun _ hk => hk.2) (.slice Ao22 t112.length co22)) (fun _ hk => ⟨hk.1.2, hk.1.1⟩)⟩, ⟨by (with_reducible repeat (first | apply Kd.R_alloc | apply Kd.R_drewN | apply Kd.R_drew)); exact Kd.R_mono (Kd.R_far (p := ⟨gb118, 0, none⟩) (Kd.R_types HO114.out BK118.out (by decide)) (fun _ hk => hk.2) (.slice Ao22 t112.length co22)) (fun _ hk => ⟨hk.1.2, hk.1.1⟩)⟩, ⟨by (with_reducible repeat (first | refine blk_drewN ?_ _ | refine blk_drew ?_ | refine blk_alloc ?_ _)); refine blk_far ?_ NB101_118.out _; (with_reducible repeat (first | refine blk_drewN ?_ _ | refine blk_drew ?_ | refine blk_alloc ?_ _)); exact BK101.out⟩, ⟨by (with_reducible repeat (first | refine blk_drewN ?_ _ | refine blk_drew ?_ | refine blk_alloc ?_ _)); refine blk_put (cs := #[.slice none 0 0]) ?_ 0 _ rfl; (with_reducible repeat (first | refine blk_drewN ?_ _ | refine blk_drew ?_ | refine blk_alloc ?_ _)); exact BK118.out⟩, ⟨gb_ HB.out⟩⟩
 clear H'
 try clear c1
 try clear p1
 try clear q1
 try clear hx1
 try clear c2
 try clear p2
 try clear c3
 try clear c11
 try clear p11
 try clear q11
 try clear hx11
 try clear c14
 try clear c14b0
 try clear c15
 try clear c15b0
 try clear c16
 try clear c16b0
 try clear hx111_0
 try clear p111
 try clear p2
 try clear q111
 obtain ⟨x6_2, x7_2, x12_2, rfl, rfl, HA, HK2, HO_6, HO_8, HO_11, HO_119000, BK101, BK118, HB⟩ := hrel
 obtain _ | k2 := gk
 ·exact absurd HA.out (by simp [spec_l03Least.l1])
 have H := HA.out
 clear HA
 simp only [spec_l03Least.l1] at H
 replace H := Option.bind_eq_some_iff.mp H
 obtain ⟨t119, A240, H⟩ := H
 replace H : (if x12_2 < t119 then ((spec_l01Shifted.f k2 l0_0 t115 x12_2).bind fun t120 => ((spec_l03Before.f k2 t120 x6_2).bind fun t123 => (if t123 = true then (spec_l03Least.j2 k2 l1 t120 x7_2 t108 t115 x12_2 t120 (t108.length : Int) x21_1 l0_0) else (spec_l03Least.j2 k2 l1 x6_2 x7_2 t108 t115 x12_2 t120 (t108.length : Int) x21_1 l0_0)))) else (spec_l03Least.l0 k2 l1 x6_2 x7_2 t108 (t108.length : Int) (wrap64 (x21_1 + 1)) l0_0)) = some (r1, r2) := H
 have A24 := Aside0.mk A240
 clear A240
 by_cases c25 : x12_2 < t119
 rotate_left
 ·rw [if_neg c25] at H
  have c25b0 : decide (x12_2 < t119) = false := decide_eq_false c25
  clear c25
  have H' := Aside0.mk H
  clear H
  have hnb42 := NB101_118.out
  have hnc42 := NB118_101.out
  have hcz43_0 := hz_ BK101
  have hfz43_0 := blk_frozen BK101.out 0
  go_wp2_with (first | ((with_reducible refine gate_callee (f := 31) rfl ?_); refine gl_ (some 36) rfl rfl Try.func31 #[.agg #[.slice A0_0 l0_0.length c0_0]] rfl ?_; (with_reducible refine (spec_l01N.calls k2 _ _ l0_0 t119 _ ?side1 ?side2 A24.out).mono ?_); (case side1 => exact c2_ HR0_0 HB); (case side2 => exact HC0_0.out); rintro e w44 ⟨rfl, hb⟩; refine ⟨_, rfl, ?_⟩; replace HO_6 := a1_ HO_6 hb; replace HO_8 := Aside0.mk (Kd.N_below (by (with_reducible repeat (first | apply Kd.N_alloc | apply Kd.N_drewN | apply Kd.N_drew)); exact HO_8.out) hb); replace HO_11 := a1_ HO_11 hb; replace HO_119000 := a1_ HO_119000 hb; replace BK101 := a2_ BK101 hb; replace BK118 := a2_ BK118 hb; replace HB := b1_ HB hb; (try clear hb); (try clear hb2); (try clear hk); (try clear hi)))
  go_roundg k2
  case measure => have := HK1.out; have := HK2.out; omega
  case rel => exact ⟨(x6_2), (x7_2), (wrap64 (x21_1 + 1)), t2_, t2_, H', ⟨by have := HK1.out; have := HK2.out; omega⟩, ⟨by (with_reducible repeat (first | apply Kd.R_alloc | apply Kd.R_drewN | apply Kd.R_drew)); exact Kd.R_mono HO_6.out (fun _ hk => trivial)⟩, ⟨by (with_reducible repeat (first | apply Kd.N_alloc | apply Kd.N_drewN | apply Kd.N_drew)); exact Kd.N_mono HO_8.out (fun _ hk => ⟨hk.1, hk.2.2.2.1⟩)⟩, ⟨bb_ BK101.out⟩, ⟨gb_ HB.out⟩⟩
 rw [if_pos c25] at H
 have c25b0 : decide (x12_2 < t119) = true := decide_eq_true c25
 clear c25
 replace H := Option.bind_eq_some_iff.mp H
 obtain ⟨t120, A260, H⟩ := H
 replace H : ((spec_l03Before.f k2 t120 x6_2).bind fun t123 => (if t123 = true then (spec_l03Least.j2 k2 l1 t120 x7_2 t108 t115 x12_2 t120 (t108.length : Int) x21_1 l0_0) else (spec_l03Least.j2 k2 l1 x6_2 x7_2 t108 t115 x12_2 t120 (t108.length : Int) x21_1 l0_0))) = some (r1, r2) := H
 have A26 := Aside0.mk A260
 clear A260
 replace H := Option.bind_eq_some_iff.mp H
 obtain ⟨t123, A270, H⟩ := H
 replace H : (if t123 = true then (spec_l03Least.j2 k2 l1 t120 x7_2 t108 t115 x12_2 t120 (t108.length : Int) x21_1 l0_0) else (spec_l03Least.j2 k2 l1 x6_2 x7_2 t108 t115 x12_2 t120 (t108.length : Int) x21_1 l0_0)) = some (r1, r2) := H
 have A27 := Aside0.mk A270
 clear A270
 have HC28 := Aside0.mk H
 clear H
 have hnb29 := NB101_118.out
 have hnc29 := NB118_101.out
 have hcz30_0 := hz_ BK101
 have hfz30_0 := blk_frozen BK101.out 0
 go_upto_if 46 with (first | ((with_reducible refine gate_callee (f := 31) rfl ?_); refine gl_ (some 36) rfl rfl Try.func31 #[.agg #[.slice A0_0 l0_0.length c0_0]] rfl ?_; (with_reducible refine (spec_l01N.calls k2 _ _ l0_0 t119 _ ?side1 ?side2 A24.out).mono ?_); (case side1 => exact c2_ HR0_0 HB); (case side2 => exact HC0_0.out); rintro e w31 ⟨rfl, hb⟩; refine ⟨_, rfl, ?_⟩; replace HO_6 := a1_ HO_6 hb; replace HO_8 := Aside0.mk (Kd.N_below (by (with_reducible repeat (first | apply Kd.N_alloc | apply Kd.N_drewN | apply Kd.N_drew)); exact HO_8.out) hb); replace HO_11 := a1_ HO_11 hb; replace HO_119000 := a1_ HO_119000 hb; replace BK101 := a2_ BK101 hb; replace BK118 := a2_ BK118 hb; replace HB := b1_ HB hb; (try clear hb); (try clear hb2); (try clear hk); (try clear hi); have hcz32_0 := hz_ BK101; have hfz32_0 := blk_frozen BK101.out 0; obtain ⟨Ao33, co33, eo33⟩ := Kd.R_slice HO_11.out; subst eo33) | ((with_reducible refine gate_callee (f := 35) rfl ?_); refine gl_ (some 43) rfl rfl Try.func35 #[.agg #[.slice A0_0 l0_0.length c0_0], .slice Ao33 t115.length co33, .int .i64 x12_2] rfl ?_; (with_reducible refine (spec_l01Shifted.calls k2 _ _ l0_0 _ _ t115 x12_2 t120 _ ?side1 ?side2 ?side3 ?side4 A26.out).mono ?_); (case side1 => exact c2_ HR0_0 HB); (case side2 => exact HC0_0.out); (case side3 => exact c1_ HO_11); (case side4 => exact (Kd.R_reads' HO_11.out).2.1); rintro e w34 ⟨v121, rfl, ho0, hb⟩; refine ⟨_, rfl, ?_⟩; replace HO_8 := Aside0.mk (Kd.N_elder' (by (with_reducible repeat (first | apply Kd.N_alloc | apply Kd.N_drewN | apply Kd.N_drew)); exact HO_8.out) (Kd.R_base ho0) hb); have HO122 := Aside0.mk (Kd.R_lower (Kd.R_new' (Kd.R_new' (Kd.R_new' ho0 (Kd.R_lt (rb_ HO_6.out))) (Kd.R_lt (rb_ HO_11.out))) (Kd.R_lt (rb_ HO_119000.out))) (below_size (gb_ HB.out))); replace HO_6 := a5_ HO_6 ho0 hb; replace HO_11 := a5_ HO_11 ho0 hb; replace HO_119000 := a5_ HO_119000 ho0 hb; replace BK101 := a2_ BK101 hb; replace BK118 := a2_ BK118 hb; replace HB := b1_ HB hb; (try clear hb); (try clear hb2); (try clear hk); (try clear hi); (try clear ho0); obtain ⟨Ao35, co35, eo35⟩ := Kd.R_slice HO122.out; subst eo35; obtain ⟨Ao36, co36, eo36⟩ := Kd.R_slice HO_6.out; subst eo36) | ((with_reducible refine gate_callee (f := 27) rfl ?_); refine gl_ (some 46) rfl rfl Try.func27 #[.slice Ao35 t120.length co35, .slice Ao36 x6_2.length co36] rfl ?_; (with_reducible refine (spec_l03Before.calls k2 _ _ t120 _ _ x6_2 t123 _ ?side1 ?side2 ?side3 ?side4 A27.out).mono ?_); (case side1 => exact c1_ HO122); (case side2 => exact (Kd.R_reads' HO122.out).2.1); (case side3 => exact c1_ HO_6); (case side4 => exact (Kd.R_reads' HO_6.out).2.1); rintro e w' ⟨rfl, ⟨nd, rfl⟩⟩; refine ⟨_, rfl, ?_⟩))
 (try simp only [Act.put, List.setIfInBounds_toArray, List.set_cons_zero, List.set_cons_succ])
 go_cut [6] (fun v6 wc => ∃ (kq : Nat) (x6_27 : List Int), Aside0 (spec_l03Least.j2 kq l1 x6_27 x7_2 t108 t115 x12_2 t120 (t108.length : Int) x21_1 l0_0 = some (r1, r2)) ∧ Aside0 (kq ≤ k2) ∧ Aside0 (Kd.R (Kd.int .i64) 2 wc w.heap.size (fun k_ => OB_ k_ (.slice Ao33 t115.length co33) ∧ OB_ k_ (.slice Ao22 t112.length co22)) v6 x6_27) ∧ Aside0 (Kd.N (Kd.slice 2 (Kd.int .i64)) 22 wc w.heap.size (fun k_ => OB_ k_ v6 ∧ OB_ k_ (.slice Ao33 t115.length co33) ∧ OB_ k_ (.slice Ao35 t120.length co35) ∧ OB_ k_ (.slice Ao22 t112.length co22) ∧ k_ ≠ gb101 ∧ k_ ≠ gb118) (.slice (some ad111) t108.length co13) t108) ∧ Aside0 (Kd.R (Kd.int .i64) 2 wc w.heap.size (fun k_ => OB_ k_ v6 ∧ OB_ k_ (.slice Ao35 t120.length co35) ∧ OB_ k_ (.slice Ao22 t112.length co22)) (.slice Ao33 t115.length co33) t115) ∧ Aside0 (Kd.R (Kd.int .i64) 2 wc w.heap.size (fun k_ => OB_ k_ (.slice Ao33 t115.length co33) ∧ OB_ k_ (.slice Ao22 t112.length co22)) (.slice Ao35 t120.length co35) t120) ∧ Aside0 (Kd.R (Kd.int .i64) 2 wc w.heap.size (fun k_ => OB_ k_ v6 ∧ OB_ k_ (.slice Ao33 t115.length co33) ∧ OB_ k_ (.slice Ao35 t120.length co35)) (.slice Ao22 t112.length co22) t112) ∧ Aside0 (wc.heap[gb101]? = some (.cells #[(.slice A0_0 l0_0.length c0_0)] 28 (0, 0))) ∧ Aside0 (wc.heap[gb118]? = some (.cells #[(.slice Ao22 t112.length co22)] 28 (0, 0))) ∧ Aside0 (Below w.heap.size w wc))
 case first =>
  have H := HC28.out
  clear HC28
  by_cases c37 : t123 = true
  ·subst c37
   have H1 : (spec_l03Least.j2 k2 l1 t120 x7_2 t108 t115 x12_2 t120 (t108.length : Int) x21_1 l0_0) = some (r1, r2) := by rw [if_pos rfl] at H; exact H
   clear H
   have H := H1
   clear H1
   have H' := Aside0.mk H
   clear H
   go_wp2
   go_meet
   case rel => exact ⟨_, (t120), H', ⟨by have := HK1.out; have := HK2.out; first | omega | exact Nat.le_refl _⟩, ⟨by (with_reducible repeat (first | apply Kd.R_alloc | apply Kd.R_drewN | apply Kd.R_drew)); exact Kd.R_mono HO122.out (fun _ hk => ⟨hk.1.2, hk.2⟩)⟩, ⟨by (with_reducible repeat (first | apply Kd.N_alloc | apply Kd.N_drewN | apply Kd.N_drew)); exact Kd.N_mono HO_8.out (fun _ hk => ⟨hk.2, ⟨hk.1.2.1, ⟨hk.2, ⟨hk.1.2.2.1, ⟨hk.1.2.2.2.1, hk.1.2.2.2.2⟩⟩⟩⟩⟩)⟩, ⟨by (with_reducible repeat (first | apply Kd.R_alloc | apply Kd.R_drewN | apply Kd.R_drew)); exact Kd.R_mono HO_11.out (fun _ hk => ⟨hk.2, ⟨hk.2, hk.1.2⟩⟩)⟩, ⟨by (with_reducible repeat (first | apply Kd.R_alloc | apply Kd.R_drewN | apply Kd.R_drew)); exact Kd.R_mono HO122.out (fun _ hk => ⟨hk.1.2, hk.2⟩)⟩, ⟨by (with_reducible repeat (first | apply Kd.R_alloc | apply Kd.R_drewN | apply Kd.R_drew)); exact Kd.R_mono HO_119000.out (fun _ hk => ⟨hk.2, ⟨hk.1.2, hk.2⟩⟩)⟩, ⟨bb_ BK101.out⟩, ⟨bb_ BK118.out⟩, ⟨gb_ HB.out⟩⟩
  replace c37 := Bool.eq_false_iff.mpr c37
  subst c37
  have H1 : (spec_l03Least.j2 k2 l1 x6_2 x7_2 t108 t115 x12_2 t120 (t108.length : Int) x21_1 l0_0) = some (r1, r2) := by rw [if_neg (show ¬ (false = true) by decide)] at H; exact H
  clear H
  have H := H1
  clear H1
  have H' := Aside0.mk H
  clear H
  go_wp2
  go_meet
  case rel => exact ⟨_, (x6_2), H', ⟨by have := HK1.out; have := HK2.out; first | omega | exact Nat.le_refl _⟩, ⟨by (with_reducible repeat (first | apply Kd.R_alloc | apply Kd.R_drewN | apply Kd.R_drew)); exact Kd.R_mono HO_6.out (fun _ hk => ⟨hk.1.1, hk.1.2⟩)⟩, ⟨by (with_reducible repeat (first | apply Kd.N_alloc | apply Kd.N_drewN | apply Kd.N_drew)); exact Kd.N_mono HO_8.out (fun _ hk => ⟨hk.1.1, ⟨hk.1.2.1, ⟨hk.2, ⟨hk.1.2.2.1, ⟨hk.1.2.2.2.1, hk.1.2.2.2.2⟩⟩⟩⟩⟩)⟩, ⟨by (with_reducible repeat (first | apply Kd.R_alloc | apply Kd.R_drewN | apply Kd.R_drew)); exact Kd.R_mono HO_11.out (fun _ hk => ⟨hk.1.1, ⟨hk.2, hk.1.2⟩⟩)⟩, ⟨by (with_reducible repeat (first | apply Kd.R_alloc | apply Kd.R_drewN | apply Kd.R_drew)); exact Kd.R_mono HO122.out (fun _ hk => ⟨hk.1.2, hk.2⟩)⟩, ⟨by (with_reducible repeat (first | apply Kd.R_alloc | apply Kd.R_drewN | apply Kd.R_drew)); exact Kd.R_mono HO_119000.out (fun _ hk => ⟨hk.1.1, ⟨hk.1.2, hk.2⟩⟩)⟩, ⟨bb_ BK101.out⟩, ⟨bb_ BK118.out⟩, ⟨gb_ HB.out⟩⟩
 clear HC28
 try clear c1
 try clear p1
 try clear q1
 try clear hx1
 try clear c2
 try clear p2
 try clear c3
 try clear p6
 try clear c11
 try clear p11
 try clear q11
 try clear hx11
 try clear c14
 try clear c14b0
 try clear c15
 try clear c15b0
 try clear c16
 try clear c16b0
 try clear c25
 try clear c25b0
 try clear c27
 try clear c29
 try clear c31
 try clear c33
 try clear c34
 try clear c35
 try clear c37
 try clear hcz30_0
 try clear hcz32_0
 try clear hfz30_0
 try clear hfz32_0
 try clear hx111_0
 try clear p1
 try clear p11
 try clear p111
 try clear p2
 try clear q1
 try clear q11
 try clear q111
 obtain ⟨kq, x6_27, HA, HJ27, HO_6, HO_8, HO_11, HO_13, HO_119000, BK101, BK118, HB⟩ := hcut
 cases kq with
 | zero => exact absurd HA.out (by simp [spec_l03Least.j2])
 | succ kj27 =>
  have H := HA.out
  clear HA
  simp only [spec_l03Least.j2] at H
  replace H := Option.bind_eq_some_iff.mp H
  obtain ⟨t124, A380, H⟩ := H
  replace H : (if t124 = true then (spec_l03Least.l1 kj27 l1 x6_27 x7_2 t108 t115 (wrap64 (x12_2 + 1)) (t108.length : Int) x21_1 l0_0) else ((spec_l03Before.f kj27 l1 t120).bind fun t125 => (if t125 = true then (spec_l03Least.l1 kj27 l1 x6_27 x7_2 t108 t115 (wrap64 (x12_2 + 1)) (t108.length : Int) x21_1 l0_0) else (spec_l03Least.l1 kj27 l1 x6_27 (wrap64 (x7_2 + 1)) t108 t115 (wrap64 (x12_2 + 1)) (t108.length : Int) x21_1 l0_0)))) = some (r1, r2) := H
  have A38 := Aside0.mk A380
  clear A380
  by_cases c39 : t124 = true
  ·subst c39
   have H1 : (spec_l03Least.l1 kj27 l1 x6_27 x7_2 t108 t115 (wrap64 (x12_2 + 1)) (t108.length : Int) x21_1 l0_0) = some (r1, r2) := by rw [if_pos rfl] at H; exact H
   clear H
   have H := H1
   clear H1
   have H' := Aside0.mk H
   clear H
   go_wp2_with (first | ((with_reducible refine gate_callee (f := 27) rfl ?_); refine gl_ (some 50) rfl rfl Try.func27 #[.slice Ao35 t120.length co35, .slice A1 l1.length c1] rfl ?_; (with_reducible refine (spec_l03Before.calls kj27 _ _ t120 _ _ l1 true _ ?side1 ?side2 ?side3 ?side4 A38.out).mono ?_); (case side1 => exact c1_ HO_13); (case side2 => exact (Kd.R_reads' HO_13.out).2.1); (case side3 => exact c2_ HR1 HB); (case side4 => exact HC1.out); rintro e w' ⟨rfl, ⟨nd, rfl⟩⟩; refine ⟨_, rfl, ?_⟩))
   go_roundg kj27
   case measure => have := HK1.out; have := HK2.out; have := HJ27.out; omega
   case rel => exact ⟨(x6_27), (x7_2), (wrap64 (x12_2 + 1)), t2_, t2_, H', ⟨by have := HK1.out; have := HK2.out; have := HJ27.out; omega⟩, ⟨by (with_reducible repeat (first | apply Kd.R_alloc | apply Kd.R_drewN | apply Kd.R_drew)); exact Kd.R_mono HO_6.out (fun _ hk => ⟨hk.1, hk.2⟩)⟩, ⟨by (with_reducible repeat (first | apply Kd.N_alloc | apply Kd.N_drewN | apply Kd.N_drew)); exact Kd.N_mono HO_8.out (fun _ hk => ⟨hk.1, ⟨hk.2.1, ⟨hk.2.2.2.1, ⟨hk.2.2.2.2.1, hk.2.2.2.2.2⟩⟩⟩⟩)⟩, ⟨by (with_reducible repeat (first | apply Kd.R_alloc | apply Kd.R_drewN | apply Kd.R_drew)); exact Kd.R_mono HO_11.out (fun _ hk => ⟨hk.1, hk.2.2⟩)⟩, ⟨by (with_reducible repeat (first | apply Kd.R_alloc | apply Kd.R_drewN | apply Kd.R_drew)); exact Kd.R_mono HO_119000.out (fun _ hk => ⟨hk.1, hk.2.1⟩)⟩, ⟨bb_ BK101.out⟩, ⟨bb_ BK118.out⟩, ⟨gb_ HB.out⟩⟩
  replace c39 := Bool.eq_false_iff.mpr c39
  subst c39
  have H1 : ((spec_l03Before.f kj27 l1 t120).bind fun t125 => (if t125 = true then (spec_l03Least.l1 kj27 l1 x6_27 x7_2 t108 t115 (wrap64 (x12_2 + 1)) (t108.length : Int) x21_1 l0_0) else (spec_l03Least.l1 kj27 l1 x6_27 (wrap64 (x7_2 + 1)) t108 t115 (wrap64 (x12_2 + 1)) (t108.length : Int) x21_1 l0_0))) = some (r1, r2) := by rw [if_neg (show ¬ (false = true) by decide)] at H; exact H
  clear H
  have H := H1
  clear H1
  replace H := Option.bind_eq_some_iff.mp H
  obtain ⟨t125, A400, H⟩ := H
  replace H : (if t125 = true then (spec_l03Least.l1 kj27 l1 x6_27 x7_2 t108 t115 (wrap64 (x12_2 + 1)) (t108.length : Int) x21_1 l0_0) else (spec_l03Least.l1 kj27 l1 x6_27 (wrap64 (x7_2 + 1)) t108 t115 (wrap64 (x12_2 + 1)) (t108.length : Int) x21_1 l0_0)) = some (r1, r2) := H
  have A40 := Aside0.mk A400
  clear A400
  by_cases c41 : t125 = true
  ·subst c41
   have H1 : (spec_l03Least.l1 kj27 l1 x6_27 x7_2 t108 t115 (wrap64 (x12_2 + 1)) (t108.length : Int) x21_1 l0_0) = some (r1, r2) := by rw [if_pos rfl] at H; exact H
   clear H
   have H := H1
   clear H1
   have H' := Aside0.mk H
   clear H
   go_wp2_with (first | ((with_reducible refine gate_callee (f := 27) rfl ?_); refine gl_ (some 50) rfl rfl Try.func27 #[.slice Ao35 t120.length co35, .slice A1 l1.length c1] rfl ?_; (with_reducible refine (spec_l03Before.calls kj27 _ _ t120 _ _ l1 false _ ?side1 ?side2 ?side3 ?side4 A38.out).mono ?_); (case side1 => exact c1_ HO_13); (case side2 => exact (Kd.R_reads' HO_13.out).2.1); (case side3 => exact c2_ HR1 HB); (case side4 => exact HC1.out); rintro e w' ⟨rfl, ⟨nd, rfl⟩⟩; refine ⟨_, rfl, ?_⟩) | (go_at_call 27; (with_reducible refine (spec_l03Before.calls kj27 _ _ l1 _ _ t120 true _ ?side1 ?side2 ?side3 ?side4 A40.out).mono ?_); (case side1 => repeat (first | exact (Kd.C_below HR1.out (gb_ HB.out)) | (with_reducible refine Kd.C_alloc ?_ _) | (with_reducible refine Kd.C_drewN ?_ _) | (with_reducible refine Kd.C_drew ?_))); (case side2 => exact HC1.out); (case side3 => exact c1_ HO_13); (case side4 => exact (Kd.R_reads' HO_13.out).2.1); rintro e w' ⟨rfl, ⟨nd, rfl⟩⟩))
   go_roundg kj27
   case measure => have := HK1.out; have := HK2.out; have := HJ27.out; omega
   case rel => exact ⟨(x6_27), (x7_2), (wrap64 (x12_2 + 1)), t2_, t2_, H', ⟨by have := HK1.out; have := HK2.out; have := HJ27.out; omega⟩, ⟨by (with_reducible repeat (first | apply Kd.R_alloc | apply Kd.R_drewN | apply Kd.R_drew)); exact Kd.R_mono HO_6.out (fun _ hk => ⟨hk.1, hk.2⟩)⟩, ⟨by (with_reducible repeat (first | apply Kd.N_alloc | apply Kd.N_drewN | apply Kd.N_drew)); exact Kd.N_mono HO_8.out (fun _ hk => ⟨hk.1, ⟨hk.2.1, ⟨hk.2.2.2.1, ⟨hk.2.2.2.2.1, hk.2.2.2.2.2⟩⟩⟩⟩)⟩, ⟨by (with_reducible repeat (first | apply Kd.R_alloc | apply Kd.R_drewN | apply Kd.R_drew)); exact Kd.R_mono HO_11.out (fun _ hk => ⟨hk.1, hk.2.2⟩)⟩, ⟨by (with_reducible repeat (first | apply Kd.R_alloc | apply Kd.R_drewN | apply Kd.R_drew)); exact Kd.R_mono HO_119000.out (fun _ hk => ⟨hk.1, hk.2.1⟩)⟩, ⟨bb_ BK101.out⟩, ⟨bb_ BK118.out⟩, ⟨gb_ HB.out⟩⟩
  replace c41 := Bool.eq_false_iff.mpr c41
  subst c41
  have H1 : (spec_l03Least.l1 kj27 l1 x6_27 (wrap64 (x7_2 + 1)) t108 t115 (wrap64 (x12_2 + 1)) (t108.length : Int) x21_1 l0_0) = some (r1, r2) := by rw [if_neg (show ¬ (false = true) by decide)] at H; exact H
  clear H
  have H := H1
  clear H1
  have H' := Aside0.mk H
  clear H
  go_wp2_with (first | ((with_reducible refine gate_callee (f := 27) rfl ?_); refine gl_ (some 50) rfl rfl Try.func27 #[.slice Ao35 t120.length co35, .slice A1 l1.length c1] rfl ?_; (with_reducible refine (spec_l03Before.calls kj27 _ _ t120 _ _ l1 false _ ?side1 ?side2 ?side3 ?side4 A38.out).mono ?_); (case side1 => exact c1_ HO_13); (case side2 => exact (Kd.R_reads' HO_13.out).2.1); (case side3 => exact c2_ HR1 HB); (case side4 => exact HC1.out); rintro e w' ⟨rfl, ⟨nd, rfl⟩⟩; refine ⟨_, rfl, ?_⟩) | (go_at_call 27; (with_reducible refine (spec_l03Before.calls kj27 _ _ l1 _ _ t120 false _ ?side1 ?side2 ?side3 ?side4 A40.out).mono ?_); (case side1 => repeat (first | exact (Kd.C_below HR1.out (gb_ HB.out)) | (with_reducible refine Kd.C_alloc ?_ _) | (with_reducible refine Kd.C_drewN ?_ _) | (with_reducible refine Kd.C_drew ?_))); (case side2 => exact HC1.out); (case side3 => exact c1_ HO_13); (case side4 => exact (Kd.R_reads' HO_13.out).2.1); rintro e w' ⟨rfl, ⟨nd, rfl⟩⟩))
  go_roundg kj27
  case measure => have := HK1.out; have := HK2.out; have := HJ27.out; omega
  case rel => exact ⟨(x6_27), (wrap64 (x7_2 + 1)), (wrap64 (x12_2 + 1)), t2_, t2_, H', ⟨by have := HK1.out; have := HK2.out; have := HJ27.out; omega⟩, ⟨by (with_reducible repeat (first | apply Kd.R_alloc | apply Kd.R_drewN | apply Kd.R_drew)); exact Kd.R_mono HO_6.out (fun _ hk => ⟨hk.1, hk.2⟩)⟩, ⟨by (with_reducible repeat (first | apply Kd.N_alloc | apply Kd.N_drewN | apply Kd.N_drew)); exact Kd.N_mono HO_8.out (fun _ hk => ⟨hk.1, ⟨hk.2.1, ⟨hk.2.2.2.1, ⟨hk.2.2.2.2.1, hk.2.2.2.2.2⟩⟩⟩⟩)⟩, ⟨by (with_reducible repeat (first | apply Kd.R_alloc | apply Kd.R_drewN | apply Kd.R_drew)); exact Kd.R_mono HO_11.out (fun _ hk => ⟨hk.1, hk.2.2⟩)⟩, ⟨by (with_reducible repeat (first | apply Kd.R_alloc | apply Kd.R_drewN | apply Kd.R_drew)); exact Kd.R_mono HO_119000.out (fun _ hk => ⟨hk.1, hk.2.1⟩)⟩, ⟨bb_ BK101.out⟩, ⟨bb_ BK118.out⟩, ⟨gb_ HB.out⟩⟩
def spec_LeastForm.f (k : Nat) (l0_0 : List Int) (l1 : List Int) : Option (List Int × Int) := (spec_l03Few.f k l0_0 l1 l1).bind fun t102 => (if t102 = 0 then ((spec_l03Least.f k l0_0 l1).bind fun bt103 => (some (bt103.1, 0))) else (some (([] : List Int), t102)))
set_option maxHeartbeats 8000000 in
set_option maxRecDepth 100000 in
theorem spec_LeastForm.calls (k : Nat) (A0_0 : Option Addr) (c0_0 : Nat) (l0_0 : List Int) (A1 : Option Addr) (c1 : Nat) (l1 : List Int) (r1 : List Int) (r2 : Int) (w : World) (hr0_0 : Kd.C (Kd.int .i64) w A0_0 l0_0.length l0_0) (hc0_0 : l0_0.length ≤ c0_0) (hr1 : Kd.C (Kd.int .i64) w A1 l1.length l1) (hc1 : l1.length ≤ c1) (h : spec_LeastForm.f k l0_0 l1 = some (r1, r2)) :
  Calls Try.prog 15 #[.agg #[.slice A0_0 l0_0.length c0_0], .slice A1 l1.length c1] w fun e w' => ∃ v0_ : Value, e = .returned (.tuple #[v0_, .int .i64 r2]) ∧ Kd.R (Kd.int .i64) 2 w' w.heap.size (fun _ => True) v0_ r1 ∧ Below w.heap.size w w' := by
 have hu28 := Try.underlying28
 have HR0_0 := Aside0.mk hr0_0
 have HC0_0 := Aside0.mk hc0_0
 clear hr0_0 hc0_0
 have HR1 := Aside0.mk hr1
 have HC1 := Aside0.mk hc1
 clear hr1 hc1
 have HB := Aside0.mk (Below.refl w.heap.size w)
 have H : ((spec_l03Few.f k l0_0 l1 l1).bind fun t102 => (if t102 = 0 then ((spec_l03Least.f k l0_0 l1).bind fun bt103 => (some (bt103.1, 0))) else (some (([] : List Int), t102)))) = some (r1, r2) := h
 clear h
 replace H := Option.bind_eq_some_iff.mp H
 obtain ⟨t102, A30, H⟩ := H
 replace H : (if t102 = 0 then ((spec_l03Least.f k l0_0 l1).bind fun bt103 => (some (bt103.1, 0))) else (some (([] : List Int), t102))) = some (r1, r2) := H
 have A3 := Aside0.mk A30
 clear A30
 by_cases c4 : t102 = 0
 rotate_left
 ·rw [if_neg c4] at H
  have c4b0 : (t102 == 0) = false := beq_eq_false_iff_ne.mpr c4
  have c4b1 : (t102 != 0) = true := bne_iff_ne.mpr c4
  simp only [Option.some.injEq, Prod.mk.injEq] at H
  obtain ⟨rfl, rfl⟩ := H
  go_enter Try.func15, Try.ntmps15
  go_wp2_with (first | ((with_reducible refine gate_dst (N := 2) rfl ?_); refine bx_ (N := 2) (cs := #[.slice A0_0 l0_0.length c0_0]) (t := 28) rfl rfl ?_; intro gb101 hg w11 hbox hb; have n0_ := b1_ HB hb; have n1_ := Aside0.mk (hbox); have n2_ := ge_ hg HB; have n3_ := ge_ hg HB; clear HB; have HB := n0_; have BK101 := n1_; have GW101 := n2_; have GE101 := n3_; clear n0_ n1_ n2_ n3_ hb hbox hg; have hcz12_0 := hz_ BK101; have hfz12_0 := blk_frozen BK101.out 0) | ((with_reducible refine gate_callee (f := 21) rfl ?_); refine gl_ (some 12) rfl rfl Try.func21 #[.agg #[.slice A0_0 l0_0.length c0_0], .slice A1 l1.length c1, .slice A1 l1.length c1] rfl ?_; (with_reducible refine (spec_l03Few.calls k _ _ l0_0 _ _ l1 _ _ l1 t102 _ ?side1 ?side2 ?side3 ?side4 ?side5 ?side6 A3.out).mono ?_); (case side1 => exact c2_ HR0_0 HB); (case side2 => exact HC0_0.out); (case side3 => exact c2_ HR1 HB); (case side4 => exact HC1.out); (case side5 => exact c2_ HR1 HB); (case side6 => exact HC1.out); rintro e w13 ⟨rfl, hb⟩; refine ⟨_, rfl, ?_⟩; replace BK101 := a2_ BK101 hb; replace HB := b1_ HB hb; (try clear hb); (try clear hb2); (try clear hk); (try clear hi)))
  go_ret2
  exact ⟨_, t5_, by first | exact Kd.R_nil _ _ _ _ _ | exact Kd.N_nil _ _ _ _ _ | exact Kd.V_nil _ _ _ _ _ | exact Kd.Q_nil _ _ _ _ _ | exact Kd.S_nil _ _ _ _ _, gb_ HB.out⟩

 rw [if_pos c4] at H
 have c4b0 : (t102 == 0) = true := beq_iff_eq.mpr c4
 have c4b1 : (t102 != 0) = false := bne_eq_false_iff_eq.mpr c4
 clear c4
 replace H := Option.bind_eq_some_iff.mp H
 obtain ⟨⟨t103, t106⟩, A50, H⟩ := H
 replace H : (some (t103, 0)) = some (r1, r2) := H
 have A5 := Aside0.mk A50
 clear A50
 simp only [Option.some.injEq, Prod.mk.injEq] at H
 obtain ⟨rfl, rfl⟩ := H
 go_enter Try.func15, Try.ntmps15
 go_wp2_with (first | ((with_reducible refine gate_dst (N := 2) rfl ?_); refine bx_ (N := 2) (cs := #[.slice A0_0 l0_0.length c0_0]) (t := 28) rfl rfl ?_; intro gb101 hg w6 hbox hb; have n0_ := b1_ HB hb; have n1_ := Aside0.mk (hbox); have n2_ := ge_ hg HB; have n3_ := ge_ hg HB; clear HB; have HB := n0_; have BK101 := n1_; have GW101 := n2_; have GE101 := n3_; clear n0_ n1_ n2_ n3_ hb hbox hg; have hcz7_0 := hz_ BK101; have hfz7_0 := blk_frozen BK101.out 0) | ((with_reducible refine gate_callee (f := 21) rfl ?_); refine gl_ (some 12) rfl rfl Try.func21 #[.agg #[.slice A0_0 l0_0.length c0_0], .slice A1 l1.length c1, .slice A1 l1.length c1] rfl ?_; (with_reducible refine (spec_l03Few.calls k _ _ l0_0 _ _ l1 _ _ l1 t102 _ ?side1 ?side2 ?side3 ?side4 ?side5 ?side6 A3.out).mono ?_); (case side1 => exact c2_ HR0_0 HB); (case side2 => exact HC0_0.out); (case side3 => exact c2_ HR1 HB); (case side4 => exact HC1.out); (case side5 => exact c2_ HR1 HB); (case side6 => exact HC1.out); rintro e w8 ⟨rfl, hb⟩; refine ⟨_, rfl, ?_⟩; replace BK101 := a2_ BK101 hb; replace HB := b1_ HB hb; (try clear hb); (try clear hb2); (try clear hk); (try clear hi); have hcz9_0 := hz_ BK101; have hfz9_0 := blk_frozen BK101.out 0) | ((with_reducible refine gate_callee (f := 22) rfl ?_); refine gl_ (some 19) rfl rfl Try.func22 #[.agg #[.slice A0_0 l0_0.length c0_0], .slice A1 l1.length c1] rfl ?_; (with_reducible refine (spec_l03Least.calls k _ _ l0_0 _ _ l1 t103 t106 _ ?side1 ?side2 ?side3 ?side4 A5.out).mono ?_); (case side1 => exact c2_ HR0_0 HB); (case side2 => exact HC0_0.out); (case side3 => exact c2_ HR1 HB); (case side4 => exact HC1.out); rintro e w10 ⟨v104, rfl, ho0, hb⟩; refine ⟨_, rfl, ?_⟩; have HO105 := Aside0.mk (Kd.R_lower ho0 (below_size (gb_ HB.out))); replace BK101 := a2_ BK101 hb; replace HB := b1_ HB hb; (try clear hb); (try clear hb2); (try clear hk); (try clear hi); (try clear ho0)))
 go_ret2
 exact ⟨_, t5_, rb_ HO105.out, gb_ HB.out⟩
end Go.Proofs.Ytemjamfcepoefaa.P
