/- What the law FnWords needs, part 7: words, walks of functions (each says that a call returns what the plain Lean function beside it says), plain lemmas. -/
import Derived.Test.YtlfipjdjmpdblaaKFnWordsF
namespace Go.Proofs.Ytlfipjdjmpdblaa.P
open Go.RowKit Go.Proofs.YtlfipjdjmpdblaaW.PrintWords Go.Proofs.YtlfipjdjmpdblaaW.PrintLast Go.Proofs.YtlfipjdjmpdblaaW.PrintMore
attribute [local go_sem] max2_int min2_int max_two min_two max_three min_three max_four min_four
set_option linter.unusedVariables false
set_option linter.unusedSimpArgs false
def spec_l01Sum.l0 : Nat → List Int → List Int → Int → Int → List Int → Option (Int)
  | 0, _, _, _, _, _ => none
  | k + 1, x7, x8, x17, x18, x102000 => if x18 < x17 then (if 0 ≤ x18 then (if x18 < (x7.length : Int) then (if x18 < (x8.length : Int) then (if x18 < (x102000.length : Int) then (if (rd x102000 x18) = 0 then (none) else (spec_l01Sum.l0 k (x7.set (x18 : Int).toNat (Int.tmod (wrap64 ((rd x7 x18) + (rd x8 x18))) (rd x102000 x18))) x8 x17 (wrap64 (x18 + 1)) x102000)) else (none)) else (none)) else (none)) else (none)) else ((spec_l01Word.f k x102000 x7).bind fun t112 => (some t112))
def spec_l01Sum.f (k : Nat) (l0_0 : List Int) (a1 : Int) (a2 : Int) : Option (Int) := (spec_l01Digits.f k l0_0 a1).bind fun t102 => ((spec_l01Digits.f k l0_0 a2).bind fun t105 => (spec_l01Sum.l0 k t102 t105 (t102.length : Int) 0 l0_0))
def spec_l01Sum.T1 : Bool × List (List Nat × List Nat) := (true, [([], []), ([], []), ([0, 1], [0, 1]), ([], []), ([], []), ([3, 4, 2], [3, 4]), ([2, 5, 0, 1, 2], [2]), ([5, 6, 0, 1, 2, 3, 4, 5, 6], [5])])
def spec_l01Sum.B1 : List Nat := [0, 0, 3, 0, 0, 31, 63, 127]
theorem spec_l01Sum.tab1 : rtab .any (opsOf Try.f59 1) = spec_l01Sum.T1 := by kernel_rfl
theorem spec_l01Sum.bits1 : waitsOk spec_l01Sum.T1.2 spec_l01Sum.B1 = true := by kernel_rfl
def spec_l01Sum.T5 : Bool × List (List Nat × List Nat) := (true, [([], []), ([], []), ([], []), ([], []), ([2, 3], [2, 3]), ([4], [4]), ([], []), ([], []), ([6, 7], [6, 7]), ([8], [8]), ([5, 9], [5, 9]), ([], []), ([11], [11]), ([], []), ([12, 13], [12, 13]), ([14], [14]), ([10, 15], [10, 15]), ([0, 1, 0, 1, 2, 3, 4, 5, 6, 7, 8, 9, 10, 11, 12, 13, 14, 15, 16], [0, 1]), ([17, 16, 0, 1, 2, 3, 4, 5, 6, 7, 8, 9, 10, 11, 12, 13, 14, 15, 16], [16, 17])])
def spec_l01Sum.B5 : List Nat := [0, 0, 0, 0, 12, 28, 0, 0, 192, 448, 1020, 0, 2048, 0, 14336, 30720, 65532, 131071, 262143]
theorem spec_l01Sum.tab5 : rtab .any (opsOf Try.f59 5) = spec_l01Sum.T5 := by kernel_rfl
theorem spec_l01Sum.bits5 : waitsOk spec_l01Sum.T5.2 spec_l01Sum.B5 = true := by kernel_rfl
set_option maxHeartbeats 8000000 in
set_option maxRecDepth 100000 in
theorem spec_l01Sum.calls (k : Nat) (A0_0 : Option Addr) (c0_0 : Nat) (l0_0 : List Int) (a1 : Int) (a2 : Int) (r : Int) (w : World) (hr0_0 : Kd.C (Kd.int .i64) w A0_0 l0_0.length l0_0) (hc0_0 : l0_0.length ≤ c0_0) (h : spec_l01Sum.f k l0_0 a1 a2 = some r) :
  Calls Try.prog 59 #[.agg #[.slice A0_0 l0_0.length c0_0], .int .i64 a1, .int .i64 a2] w fun e w' => e = .returned (.int .i64 r) ∧ Below w.heap.size w w' := by
 have hu26 := Try.underlying26
 have HR0_0 := Aside0.mk hr0_0
 have HC0_0 := Aside0.mk hc0_0
 clear hr0_0 hc0_0
 have HB := Aside0.mk (Below.refl w.heap.size w)
 have H : ((spec_l01Digits.f k l0_0 a1).bind fun t102 => ((spec_l01Digits.f k l0_0 a2).bind fun t105 => (spec_l01Sum.l0 k t102 t105 (t102.length : Int) 0 l0_0))) = some r := h
 clear h
 replace H := Option.bind_eq_some_iff.mp H
 obtain ⟨t102, A40, H⟩ := H
 replace H : ((spec_l01Digits.f k l0_0 a2).bind fun t105 => (spec_l01Sum.l0 k t102 t105 (t102.length : Int) 0 l0_0)) = some r := H
 have A4 := Aside0.mk A40
 clear A40
 replace H := Option.bind_eq_some_iff.mp H
 obtain ⟨t105, A50, H⟩ := H
 replace H : (spec_l01Sum.l0 k t102 t105 (t102.length : Int) 0 l0_0) = some r := H
 have A5 := Aside0.mk A50
 clear A50
 have H' := Aside0.mk H
 clear H
 go_enter Try.func59, Try.ntmps59
 try go_wp2_with (first | ((with_reducible refine gate_dst (N := 3) rfl ?_); refine bx_ (N := 3) (cs := #[.slice A0_0 l0_0.length c0_0]) (t := 26) rfl rfl ?_; intro gb101 hg w6 hbox hb; have n0_ := b1_ HB hb; have n1_ := Aside0.mk (hbox); have n2_ := ge_ hg HB; have n3_ := ge_ hg HB; clear HB; have HB := n0_; have BK101 := n1_; have GW101 := n2_; have GE101 := n3_; clear n0_ n1_ n2_ n3_ hb hbox hg))
 replace BK101 := Aside0.mk (blk_drew BK101.out)
 replace HB := Aside0.mk (below_drew1 HB.out)
 refine start_ (n := 8) (S := fun w' => w'.cell? ⟨gb101, 0, none⟩ = some (.slice A0_0 l0_0.length c0_0)) (ds := []) #[false, false, false, false, false, false, false, false] (by kernel_rfl) rfl rfl ((blk_cell BK101.out 0).trans rfl) (fun hHeld => ?_); refine with_tabW spec_l01Sum.tab1 spec_l01Sum.bits1 (fun HT_ HW_ => ?_)
 generalize w6.drew = w7 at BK101 HB hHeld ⊢
 refine pu_ (i := 1) (N := some 11) (v := ?_) (a' := ?_) #[false, true, false, false, false, false, false, false] rfl rfl HT_ (Or.inl ⟨by rfl, ?_⟩) ?_ ?_
 rotate_left
 ·exact t7_
 rotate_left
 ·exact t4_
 refine pu_ (i := 4) (N := some 14) (v := ?_) (a' := ?_) #[false, true, false, false, true, false, false, false] rfl rfl HT_ (Or.inl ⟨by rfl, ?_⟩) ?_ ?_
 rotate_left
 ·exact t7_
 rotate_left
 ·exact t4_
 refine tk_ (i := 0) (N := some 10) (v := ?_) (a' := ?_) #[true, true, false, false, true, false, false, false] rfl rfl HT_ HW_ (Or.inl ⟨by rfl, ?_⟩) hHeld ?_ ?_
 rotate_left
 ·intro w' s0
  go_simp
  with_reducible rfl
 rotate_left
 ·exact t4_
 refine tk_ (i := 3) (N := some 13) (v := ?_) (a' := ?_) #[true, true, false, true, true, false, false, false] rfl rfl HT_ HW_ (Or.inl ⟨by rfl, ?_⟩) hHeld ?_ ?_
 rotate_left
 ·intro w' s0
  go_simp
  with_reducible rfl
 rotate_left
 ·exact t4_
 refine on_ (i := 2) (N := some 12) #[true, true, true, true, true, false, false, false] rfl rfl HT_ (fun K hK => ?_)
 refine goes_ Try.func65 (by kernel_rfl) rfl #[.agg #[.slice A0_0 l0_0.length c0_0], .int .i64 a1] (by rfl) rfl rfl t1_ ?_
 with_reducible refine (spec_l01Digits.calls k _ _ l0_0 a1 t102 _ ?side1 ?side2 A4.out).mono ?_
 (case side1 => exact c2_ HR0_0 HB)
 (case side2 => exact HC0_0.out)
 rintro e w8 ⟨v103, rfl, ho0, hb⟩
 refine ⟨_, rfl, ?_⟩
 have HO104 := Aside0.mk (Kd.R_lower ho0 (below_size (gb_ HB.out)))
 replace BK101 := a2_ BK101 hb
 replace HB := b1_ HB hb
 (try clear hb)
 (try clear hb2)
 (try clear hk)
 (try clear hi)
 (try clear ho0)
 refine hK.out _ _ ((blk_cell BK101.out 0).trans rfl) (fun hHeld => ?_)
 clear hK K
 refine norm_ (a' := ?_) ?_ ?_
 rotate_left
 ·show Act.put _ (some 12) _ = _
  simp only [Act.put, List.setIfInBounds_toArray, List.set_cons_zero, List.set_cons_succ, i64_w, i32_w]
  rfl
 refine on_ (i := 5) (N := some 15) #[true, true, true, true, true, true, false, false] rfl rfl HT_ (fun K hK => ?_)
 refine goes_ Try.func65 (by kernel_rfl) rfl #[.agg #[.slice A0_0 l0_0.length c0_0], .int .i64 a2] (by rfl) rfl rfl t1_ ?_
 with_reducible refine (spec_l01Digits.calls k _ _ l0_0 a2 t105 _ ?side1 ?side2 A5.out).mono ?_
 (case side1 => exact c2_ HR0_0 HB)
 (case side2 => exact HC0_0.out)
 rintro e w9 ⟨v106, rfl, ho0, hb⟩
 refine ⟨_, rfl, ?_⟩
 have HO107 := Aside0.mk (Kd.R_lower (Kd.R_new' ho0 (Kd.R_lt (rb_ HO104.out))) (below_size (gb_ HB.out)))
 replace HO104 := a5_ HO104 ho0 hb
 replace BK101 := a2_ BK101 hb
 replace HB := b1_ HB hb
 (try clear hb)
 (try clear hb2)
 (try clear hk)
 (try clear hi)
 (try clear ho0)
 refine hK.out _ _ ((blk_cell BK101.out 0).trans rfl) (fun hHeld => ?_)
 clear hK K
 refine norm_ (a' := ?_) ?_ ?_
 rotate_left
 ·show Act.put _ (some 15) _ = _
  simp only [Act.put, List.setIfInBounds_toArray, List.set_cons_zero, List.set_cons_succ, i64_w, i32_w]
  rfl
 refine pu_ (i := 6) (N := some 7) (v := ?_) (a' := ?_) #[true, true, true, true, true, true, true, false] rfl rfl HT_ (Or.inl ⟨by rfl, ?_⟩) ?_ ?_
 rotate_left
 ·exact t7_
 rotate_left
 ·exact t4_
 refine pu_ (i := 7) (N := some 8) (v := ?_) (a' := ?_) #[true, true, true, true, true, true, true, true] rfl rfl HT_ (Or.inl ⟨by rfl, ?_⟩) ?_ ?_
 rotate_left
 ·exact t7_
 rotate_left
 ·exact t4_
 refine done_ (done_of HT_.out (by kernel_rfl)) ?_
 obtain ⟨Ao10, co10, eo10⟩ := Kd.R_slice HO104.out
 subst eo10
 try go_wp2
 go_loopg [18] k (fun kq v18 w' => ∃ (x7_1 : List Int) (x18_1 : Int), v18 = .int .i64 x18_1 ∧ Aside0 (spec_l01Sum.l0 kq x7_1 t105 (t102.length : Int) x18_1 l0_0 = some r) ∧ Aside0 (kq ≤ k) ∧ Aside0 (Kd.R (Kd.int .i64) 2 w' w.heap.size (fun k_ => OB_ k_ v106) (.slice Ao10 t102.length co10) x7_1) ∧ Aside0 (Kd.R (Kd.int .i64) 2 w' w.heap.size (fun k_ => OB_ k_ (.slice Ao10 t102.length co10)) v106 t105) ∧ Aside0 (w'.heap[gb101]? = some (.cells #[(.slice A0_0 l0_0.length c0_0)] 26 (0, 0))) ∧ Aside0 (Below w.heap.size w w'))
 case atStart => exact ⟨(t102), (0), t2_, H', ⟨Nat.le_refl _⟩, ⟨by (with_reducible repeat (first | apply Kd.R_alloc | apply Kd.R_drewN | apply Kd.R_drew)); exact Kd.R_mono HO104.out (fun _ hk => hk.2)⟩, ⟨by (with_reducible repeat (first | apply Kd.R_alloc | apply Kd.R_drewN | apply Kd.R_drew)); exact Kd.R_mono HO107.out (fun _ hk => hk.2)⟩, ⟨bb_ BK101.out⟩, ⟨gb_ HB.out⟩⟩
 clear H'
 try clear p2
 try clear c5
 try clear c6
 obtain ⟨x7_1, x18_1, rfl, HA, HK1, HO_7, HO_8, BK101, HB⟩ := hrel
 have hl7_1 := (Kd.R_reads' HO_7.out).1
 rw [hl7_1] at HO_7
 (try simp only [hl7_1])
 (try simp only [hl7_1] at BK101)
 (try simp only [hl7_1] at HO_8)
 obtain _ | k1 := gk
 ·exact absurd HA.out (by simp [spec_l01Sum.l0])
 have H := HA.out
 clear HA
 simp only [spec_l01Sum.l0] at H
 by_cases c11 : x18_1 < (t102.length : Int)
 rotate_left
 ·rw [if_neg c11] at H
  have c11b0 : decide (x18_1 < (t102.length : Int)) = false := decide_eq_false c11
  (try (have c11z := c11b0; simp only [hl7_1] at c11z))
  clear c11
  replace H := Option.bind_eq_some_iff.mp H
  obtain ⟨t112, A210, H⟩ := H
  replace H : (some t112) = some r := H
  have A21 := Aside0.mk A210
  clear A210
  obtain rfl := Option.some.inj H
  have hcz22_0 := hz_ BK101
  have hfz22_0 := blk_frozen BK101.out 0
  go_wp2_with (first | ((with_reducible refine gate_callee (f := 66) rfl ?_); refine gl_ (some 42) rfl rfl Try.func66 #[.agg #[.slice A0_0 l0_0.length c0_0], .slice Ao10 x7_1.length co10] rfl ?_; (with_reducible refine (spec_l01Word.calls k1 _ _ l0_0 _ _ x7_1 t112 _ ?side1 ?side2 ?side3 ?side4 A21.out).mono ?_); (case side1 => exact c2_ HR0_0 HB); (case side2 => exact HC0_0.out); (case side3 => exact c1_ HO_7); (case side4 => exact (Kd.R_reads' HO_7.out).2.1); rintro e w23 ⟨rfl, hb⟩; refine ⟨_, rfl, ?_⟩; replace HO_7 := a1_ HO_7 hb; replace HO_8 := a1_ HO_8 hb; replace BK101 := a2_ BK101 hb; replace HB := b1_ HB hb; (try clear hb); (try clear hb2); (try clear hk); (try clear hi)))
  go_ret
  exact ⟨t5_, gb_ HB.out⟩

 rw [if_pos c11] at H
 have c11b0 : decide (x18_1 < (t102.length : Int)) = true := decide_eq_true c11
 (try (have c11z := c11b0; simp only [hl7_1] at c11z))
 clear c11
 by_cases c12 : 0 ≤ x18_1
 rotate_left
 ·rw [if_neg c12] at H
  exact absurd H (by simp)
 rw [if_pos c12] at H
 have c12b0 : decide (0 ≤ x18_1) = true := decide_eq_true c12
 clear c12
 by_cases c13 : x18_1 < (x7_1.length : Int)
 rotate_left
 ·rw [if_neg c13] at H
  exact absurd H (by simp)
 rw [if_pos c13] at H
 have c13b0 : decide (x18_1 < (x7_1.length : Int)) = true := decide_eq_true c13
 (try (have c13z := c13b0; simp only [hl7_1] at c13z))
 clear c13
 by_cases c14 : x18_1 < (t105.length : Int)
 rotate_left
 ·rw [if_neg c14] at H
  exact absurd H (by simp)
 rw [if_pos c14] at H
 have c14b0 : decide (x18_1 < (t105.length : Int)) = true := decide_eq_true c14
 (try (have c14z := c14b0; simp only [hl7_1] at c14z))
 clear c14
 by_cases c15 : x18_1 < (l0_0.length : Int)
 rotate_left
 ·rw [if_neg c15] at H
  exact absurd H (by simp)
 rw [if_pos c15] at H
 have c15b0 : decide (x18_1 < (l0_0.length : Int)) = true := decide_eq_true c15
 (try (have c15z := c15b0; simp only [hl7_1] at c15z))
 clear c15
 by_cases c16 : (rd l0_0 x18_1) = 0
 ·rw [if_pos c16] at H
  exact absurd H (by simp)
 rw [if_neg c16] at H
 have c16b0 : ((rd l0_0 x18_1) == 0) = false := beq_eq_false_iff_ne.mpr c16
 have c16b1 : ((rd l0_0 x18_1) != 0) = true := bne_iff_ne.mpr c16
 obtain ⟨y111, hy111⟩ : ∃ y_ : List Int, y_ = (x7_1.set (x18_1 : Int).toNat (Int.tmod (wrap64 ((rd x7_1 x18_1) + (rd t105 x18_1))) (rd l0_0 x18_1))) := ⟨_, rfl⟩
 replace H : (spec_l01Sum.l0 k1 y111 t105 (t102.length : Int) (wrap64 (x18_1 + 1)) l0_0) = some r := y_ H
 have Ny111 := Aside0.mk hy111
 clear hy111
 have H' := Aside0.mk H
 clear H
 try go_wp2
 replace HO_7 := Aside0.mk (Kd.R_drew HO_7.out)
 replace HO_8 := Aside0.mk (Kd.R_drew HO_8.out)
 replace BK101 := Aside0.mk (blk_drew BK101.out)
 replace HB := Aside0.mk (below_drew1 HB.out)
 have p108 : 0 ≤ (x18_1 : Int) := of_decide_eq_true t6_
 have q108 : x18_1 < (x7_1.length : Int) := of_decide_eq_true t6_
 (try (obtain ⟨Aoz, coz, eoz⟩ := Kd.R_slice HO_7.out; subst eoz))
 obtain ⟨ad108, e108, hx108_0⟩ := Kd.at_int (Kd.R_reads' HO_7.out).2.2 x18_1 p108 q108
 cases e108
 replace p108 := eq_true p108
 replace q108 := eq_true q108
 obtain ⟨Ao19, co19, eo19⟩ := Kd.R_slice HO_8.out
 (first | subst eo19 | (injection eo19 with f1_ f2_ f3_; have f4_ := f1_.symm; have f5_ := f3_.symm; clear f1_ f2_ f3_; subst f4_; subst f5_))
 have p109 : 0 ≤ (x18_1 : Int) := of_decide_eq_true t6_
 have q109 : x18_1 < (t105.length : Int) := of_decide_eq_true t6_
 (try (obtain ⟨Aoz, coz, eoz⟩ := Kd.R_slice HO_8.out; subst eoz))
 obtain ⟨ad109, e109, hx109_0⟩ := Kd.at_int (Kd.R_reads' HO_8.out).2.2 x18_1 p109 q109
 cases e109
 replace p109 := eq_true p109
 replace q109 := eq_true q109
 have p110 : 0 ≤ (x18_1 : Int) := of_decide_eq_true t6_
 have q110 : x18_1 < (l0_0.length : Int) := of_decide_eq_true t6_
 obtain ⟨ad110, e110, hx110_0⟩ := Kd.at_int HR0_0.out x18_1 p110 q110
 have hw110_0 := hx110_0
 cases e110
 replace hx110_0 := (HB.out.cell (World.block_lt_of_cell? _ _ hx110_0)).trans hx110_0
 replace p110 := eq_true p110
 replace q110 := eq_true q110
 have p17 : 0 ≤ (x18_1 : Int) := of_decide_eq_true t6_
 have q17 : (x18_1 : Int) < ((x7_1.length : Int) : Int) := of_decide_eq_true t6_
 obtain ⟨go17, co17, eo17, gb17, gl17, cl17, HG17⟩ := Kd.R_form HO_7.out (by omega)
 (first | cases eo17 | (injection eo17 with ea_ en_ ec_; (first | subst ea_ | (injection ea_ with ea_; subst ea_)); subst ec_; clear en_))
 have GB17 := Aside0.mk gb17
 have GG17 := Aside0.mk HG17
 clear gb17 gl17 HG17
 (first | simp only [add_plain] at hx108_0 | skip)
 obtain ⟨hx17_0, hf17_0⟩ := Kd.R_celln 0 HO_7.out (x18_1 : Int) p17 q17
 replace p17 := eq_true p17
 replace q17 := eq_true q17
 have HP20 := Kd.R_putn HO_7.out (x18_1 : Int) (Int.tmod (wrap64 ((rd x7_1 x18_1) + (rd t105 x18_1))) (rd l0_0 x18_1))
 rw [← Ny111.out] at HP20
 have HQ20 := Aside0.mk HP20
 clear HP20
 refine start_ (n := 19) (S := fun w' => w'.cell? ⟨gb101, 0, none⟩ = some (.slice (some ad110) l0_0.length c0_0) ∧ w'.cell? ⟨go17, (x18_1).toNat, none⟩ = some (.int .i64 (rd x7_1 x18_1)) ∧ w'.cell? (ad109.add (x18_1).toNat) = some (.int .i64 (rd t105 x18_1)) ∧ w'.cell? (ad110.add (x18_1).toNat) = some (.int .i64 (rd l0_0 x18_1))) (ds := [18]) #[false, false, false, false, false, false, false, false, false, false, false, false, false, false, false, false, false, false, false] (by kernel_rfl) rfl rfl ⟨(blk_cell BK101.out 0).trans rfl, hx108_0, hx109_0, ((HB.out.cell (World.block_lt_of_cell? _ _ hw110_0)).trans hw110_0)⟩ (fun hHeld => ?_); refine with_tabW spec_l01Sum.tab5 spec_l01Sum.bits5 (fun HT_ HW_ => ?_)
 generalize wr.drew = w18 at HO_7 HO_8 BK101 HB GG17 HQ20 hf17_0 hx108_0 hx109_0 hx110_0 hx17_0 hHeld ⊢
 refine pu_ (i := 0) (N := some 21) (v := ?_) (a' := ?_) #[true, false, false, false, false, false, false, false, false, false, false, false, false, false, false, false, false, false, false] rfl rfl HT_ (Or.inl ⟨by rfl, ?_⟩) ?_ ?_
 rotate_left
 ·exact t7_
 rotate_left
 ·exact t4_
 refine pu_ (i := 1) (N := some 22) (v := ?_) (a' := ?_) #[true, true, false, false, false, false, false, false, false, false, false, false, false, false, false, false, false, false, false] rfl rfl HT_ (Or.inl ⟨by rfl, ?_⟩) ?_ ?_
 rotate_left
 ·exact t7_
 rotate_left
 ·exact t4_
 refine pu_ (i := 2) (N := some 23) (v := ?_) (a' := ?_) #[true, true, true, false, false, false, false, false, false, false, false, false, false, false, false, false, false, false, false] rfl rfl HT_ (Or.inl ⟨by rfl, ?_⟩) ?_ ?_
 rotate_left
 ·exact t7_
 rotate_left
 ·exact t4_
 refine pu_ (i := 3) (N := some 24) (v := ?_) (a' := ?_) #[true, true, true, true, false, false, false, false, false, false, false, false, false, false, false, false, false, false, false] rfl rfl HT_ (Or.inl ⟨by rfl, ?_⟩) ?_ ?_
 rotate_left
 ·exact t7_
 rotate_left
 ·exact t4_
 refine pu_ (i := 4) (N := some 25) (v := ?_) (a' := ?_) #[true, true, true, true, true, false, false, false, false, false, false, false, false, false, false, false, false, false, false] rfl rfl HT_ (Or.inl ⟨by rfl, ?_⟩) ?_ ?_
 rotate_left
 ·exact t7_
 rotate_left
 ·exact t4_
 refine pu_ (i := 6) (N := some 27) (v := ?_) (a' := ?_) #[true, true, true, true, true, false, true, false, false, false, false, false, false, false, false, false, false, false, false] rfl rfl HT_ (Or.inl ⟨by rfl, ?_⟩) ?_ ?_
 rotate_left
 ·exact t7_
 rotate_left
 ·exact t4_
 refine pu_ (i := 7) (N := some 28) (v := ?_) (a' := ?_) #[true, true, true, true, true, false, true, true, false, false, false, false, false, false, false, false, false, false, false] rfl rfl HT_ (Or.inl ⟨by rfl, ?_⟩) ?_ ?_
 rotate_left
 ·exact t7_
 rotate_left
 ·exact t4_
 refine pu_ (i := 8) (N := some 29) (v := ?_) (a' := ?_) #[true, true, true, true, true, false, true, true, true, false, false, false, false, false, false, false, false, false, false] rfl rfl HT_ (Or.inl ⟨by rfl, ?_⟩) ?_ ?_
 rotate_left
 ·exact t7_
 rotate_left
 ·exact t4_
 refine pu_ (i := 11) (N := some 32) (v := ?_) (a' := ?_) #[true, true, true, true, true, false, true, true, true, false, false, true, false, false, false, false, false, false, false] rfl rfl HT_ (Or.inl ⟨by rfl, ?_⟩) ?_ ?_
 rotate_left
 ·exact t7_
 rotate_left
 ·exact t4_
 refine pu_ (i := 13) (N := some 34) (v := ?_) (a' := ?_) #[true, true, true, true, true, false, true, true, true, false, false, true, false, true, false, false, false, false, false] rfl rfl HT_ (Or.inl ⟨by rfl, ?_⟩) ?_ ?_
 rotate_left
 ·exact t7_
 rotate_left
 ·exact t4_
 refine tk_ (i := 5) (N := some 26) (v := ?_) (a' := ?_) #[true, true, true, true, true, true, true, true, true, false, false, true, false, true, false, false, false, false, false] rfl rfl HT_ HW_ (Or.inl ⟨by rfl, ?_⟩) hHeld ?_ ?_
 rotate_left
 ·rintro w' ⟨s0, s1, s2, s3⟩
  (try simp only [add_plain] at s0 s1 s2 s3)
  go_simp
  with_reducible rfl
 rotate_left
 ·exact t4_
 refine tk_ (i := 9) (N := some 30) (v := ?_) (a' := ?_) #[true, true, true, true, true, true, true, true, true, true, false, true, false, true, false, false, false, false, false] rfl rfl HT_ HW_ (Or.inl ⟨by rfl, ?_⟩) hHeld ?_ ?_
 rotate_left
 ·rintro w' ⟨s0, s1, s2, s3⟩
  (try simp only [add_plain] at s0 s1 s2 s3)
  go_simp
  with_reducible rfl
 rotate_left
 ·exact t4_
 refine pu_ (i := 10) (N := some 31) (v := ?_) (a' := ?_) #[true, true, true, true, true, true, true, true, true, true, true, true, false, true, false, false, false, false, false] rfl rfl HT_ (Or.inl ⟨by rfl, ?_⟩) ?_ ?_
 rotate_left
 ·exact t7_
 rotate_left
 ·exact t4_
 refine tk_ (i := 12) (N := some 33) (v := ?_) (a' := ?_) #[true, true, true, true, true, true, true, true, true, true, true, true, true, true, false, false, false, false, false] rfl rfl HT_ HW_ (Or.inl ⟨by rfl, ?_⟩) hHeld ?_ ?_
 rotate_left
 ·rintro w' ⟨s0, s1, s2, s3⟩
  (try simp only [add_plain] at s0 s1 s2 s3)
  go_simp
  with_reducible rfl
 rotate_left
 ·exact t4_
 refine pu_ (i := 14) (N := some 35) (v := ?_) (a' := ?_) #[true, true, true, true, true, true, true, true, true, true, true, true, true, true, true, false, false, false, false] rfl rfl HT_ (Or.inl ⟨by rfl, ?_⟩) ?_ ?_
 rotate_left
 ·exact t7_
 rotate_left
 ·exact t4_
 refine tk_ (i := 15) (N := some 36) (v := ?_) (a' := ?_) #[true, true, true, true, true, true, true, true, true, true, true, true, true, true, true, true, false, false, false] rfl rfl HT_ HW_ (Or.inl ⟨by rfl, ?_⟩) hHeld ?_ ?_
 rotate_left
 ·rintro w' ⟨s0, s1, s2, s3⟩
  (try simp only [add_plain] at s0 s1 s2 s3)
  go_simp
  with_reducible rfl
 rotate_left
 ·exact t4_
 refine pu_ (i := 16) (N := some 37) (v := ?_) (a' := ?_) #[true, true, true, true, true, true, true, true, true, true, true, true, true, true, true, true, true, false, false] rfl rfl HT_ (Or.inl ⟨by rfl, ?_⟩) ?_ ?_
 rotate_left
 ·exact t7_
 rotate_left
 ·exact t4_
 refine pu_ (i := 17) (N := some 38) (v := ?_) (a' := ?_) #[true, true, true, true, true, true, true, true, true, true, true, true, true, true, true, true, true, true, false] rfl rfl HT_ (Or.inl ⟨by rfl, ?_⟩) ?_ ?_
 rotate_left
 ·exact t7_
 rotate_left
 ·exact t4_
 refine last_ (i := 18) (N := none) #[true, true, true, true, true, true, true, true, true, true, true, true, true, true, true, true, true, true, true] rfl rfl (one_of HT_.out (by kernel_rfl)) (by decide) (fun K hK => ?_)
 refine skip_ (w1 := ?_) (by rfl) rfl ?_ ?_
 rotate_left
 ·go_simp
  rfl
 refine hK.out _ _ ?_
 clear hK K
 refine done_ (done_of HT_.out (by kernel_rfl)) ?_
 try go_wp2
 (try simp only [← hl7_1])
 go_roundg k1
 case measure => have := HK1.out; omega
 case rel => exact ⟨(y111), (wrap64 (x18_1 + 1)), t2_, H', ⟨by have := HK1.out; omega⟩, ⟨by (try simp only [hl7_1]); (with_reducible repeat (first | apply Kd.R_alloc | apply Kd.R_drewN | apply Kd.R_drew)); exact HQ20.out⟩, ⟨by (try simp only [hl7_1]); (with_reducible repeat (first | apply Kd.R_alloc | apply Kd.R_drewN | apply Kd.R_drew)); exact Kd.R_mono (Kd.R_far (p := ⟨go17, (x18_1 : Int).toNat, none⟩) (Kd.R_mono HO_8.out (fun k_ hk => (⟨hk, fun e_ => hk (by rw [e_]; rfl)⟩ : _ ∧ k_ ≠ go17))) (fun _ hk => hk.2) (.int .i64 (Int.tmod (wrap64 ((rd x7_1 x18_1) + (rd t105 x18_1))) (rd l0_0 x18_1)))) (fun _ hk => hk.1)⟩, ⟨by (try simp only [hl7_1]); (with_reducible repeat (first | refine blk_drewN ?_ _ | refine blk_drew ?_ | refine blk_alloc ?_ _)); refine blk_far ?_ (by have h_ := Kd.R_ne HO_7.out BK101.out (by decide); intro e_; exact h_ (by rw [e_]; rfl)) _; (with_reducible repeat (first | refine blk_drewN ?_ _ | refine blk_drew ?_ | refine blk_alloc ?_ _)); exact BK101.out⟩, ⟨gb_ HB.out⟩⟩
def impl_DistanceOf.f (k : Nat) (l0_0 : List Int) (a1 : Int) (a2 : Int) : Option (Int × Int) := (impl_wordCode.f k l0_0 (([a1, a2] : List Int))).bind fun t105 => (if t105 = 0 then ((impl_distance.f l0_0 a1 a2).bind fun t106 => (some (t106, 0))) else (some (0, t105)))
set_option maxHeartbeats 8000000 in
set_option maxRecDepth 100000 in
theorem impl_DistanceOf.calls (k : Nat) (A0_0 : Option Addr) (c0_0 : Nat) (l0_0 : List Int) (a1 : Int) (a2 : Int) (r1 : Int) (r2 : Int) (w : World) (hr0_0 : Kd.C (Kd.int .i64) w A0_0 l0_0.length l0_0) (hc0_0 : l0_0.length ≤ c0_0) (h : impl_DistanceOf.f k l0_0 a1 a2 = some (r1, r2)) :
  Calls Try.prog 10 #[.agg #[.slice A0_0 l0_0.length c0_0], .int .i64 a1, .int .i64 a2] w fun e w' => e = .returned (.tuple #[.int .i64 r1, .int .i64 r2]) ∧ Below w.heap.size w w' := by
 have hu26 := Try.underlying26
 have HR0_0 := Aside0.mk hr0_0
 have HC0_0 := Aside0.mk hc0_0
 clear hr0_0 hc0_0
 have HB := Aside0.mk (Below.refl w.heap.size w)
 have H : ((impl_wordCode.f k l0_0 (([a1, a2] : List Int))).bind fun t105 => (if t105 = 0 then ((impl_distance.f l0_0 a1 a2).bind fun t106 => (some (t106, 0))) else (some (0, t105)))) = some (r1, r2) := h
 clear h
 obtain ⟨y102, hy102⟩ : ∃ y_ : List Int, y_ = (([a1, a2] : List Int)) := ⟨_, rfl⟩
 replace H : ((impl_wordCode.f k l0_0 y102).bind fun t105 => (if t105 = 0 then ((impl_distance.f l0_0 a1 a2).bind fun t106 => (some (t106, 0))) else (some (0, t105)))) = some (r1, r2) := y_ H
 have Ny102 := Aside0.mk hy102
 clear hy102
 replace H := Option.bind_eq_some_iff.mp H
 obtain ⟨t105, A40, H⟩ := H
 replace H : (if t105 = 0 then ((impl_distance.f l0_0 a1 a2).bind fun t106 => (some (t106, 0))) else (some (0, t105))) = some (r1, r2) := H
 have A4 := Aside0.mk A40
 clear A40
 by_cases c5 : t105 = 0
 rotate_left
 ·rw [if_neg c5] at H
  have c5b0 : (t105 == 0) = false := beq_eq_false_iff_ne.mpr c5
  have c5b1 : (t105 != 0) = true := bne_iff_ne.mpr c5
  simp only [Option.some.injEq, Prod.mk.injEq] at H
  obtain ⟨rfl, rfl⟩ := H
  go_enter Try.func10, Try.ntmps10
  go_wp2_with (first | ((with_reducible refine gate_dst (N := 3) rfl ?_); refine bx_ (N := 3) (cs := #[.slice A0_0 l0_0.length c0_0]) (t := 26) rfl rfl ?_; intro gb101 hg w15 hbox hb; have n0_ := b1_ HB hb; have n1_ := Aside0.mk (hbox); have n2_ := ge_ hg HB; have n3_ := ge_ hg HB; clear HB; have HB := n0_; have BK101 := n1_; have GW101 := n2_; have GE101 := n3_; clear n0_ n1_ n2_ n3_ hb hbox hg; have hcz16_0 := hz_ BK101; have hfz16_0 := blk_frozen BK101.out 0) | ((with_reducible refine gate_dst (N := 12) rfl ?_); refine Kd.R_lit (Kd.int .i64) _ 2 ?hg (N := 12) ?hd (xs := ([a1, a2] : List Int)) (inner := [.int .i64 a1, .int .i64 a2]) (ok := fun _ => True) (okp := fun _ => True) ?hr ?hp (fun _ hk => hk) trivial (Below.refl _ _) (Nat.le_refl _) (by simp) ?_; (case hd => rfl); (case hg => rfl); (case hr => exact t3_); (case hp => exact (Reps.one (show Kd.M (Kd.int .i64) _ _ _ a1 [.int .i64 a1] from rfl) (Reps.one (show Kd.M (Kd.int .i64) _ _ _ a2 [.int .i64 a2] from rfl) (Reps.none _ _)))); intro v103 w17 ho18 hb hg_ hnew_; clear hg_ hnew_; (first | rw [← Ny102.out] at ho18 | (simp only [Int.reduceToNat] at ho18; rw [← Ny102.out] at ho18)); have n0_ := Aside0.mk (Kd.R_lower ho18 (below_size (gb_ HB.out))); have n1_ := a2_ BK101 hb; have n2_ := b1_ HB hb; clear BK101 HB; have HO104 := n0_; have BK101 := n1_; have HB := n2_; clear n0_ n1_ n2_ hb ho18; obtain ⟨Ao19, co19, eo19⟩ := Kd.R_slice HO104.out; subst eo19) | ((with_reducible refine gate_callee (f := 56) rfl ?_); refine gl_ (some 13) rfl rfl Try.func56 #[.agg #[.slice A0_0 l0_0.length c0_0], .slice Ao19 y102.length co19] rfl ?_; (with_reducible refine (impl_wordCode.calls k _ _ l0_0 _ _ y102 t105 _ ?side1 ?side2 ?side3 ?side4 A4.out).mono ?_); (case side1 => exact c2_ HR0_0 HB); (case side2 => exact HC0_0.out); (case side3 => exact c1_ HO104); (case side4 => exact (Kd.R_reads' HO104.out).2.1); rintro e w20 ⟨rfl, hb⟩; refine ⟨_, rfl, ?_⟩; replace HO104 := a1_ HO104 hb; replace BK101 := a2_ BK101 hb; replace HB := b1_ HB hb; (try clear hb); (try clear hb2); (try clear hk); (try clear hi)))
  go_ret2
  exact ⟨t5_, gb_ HB.out⟩

 rw [if_pos c5] at H
 have c5b0 : (t105 == 0) = true := beq_iff_eq.mpr c5
 have c5b1 : (t105 != 0) = false := bne_eq_false_iff_eq.mpr c5
 clear c5
 replace H := Option.bind_eq_some_iff.mp H
 obtain ⟨t106, A60, H⟩ := H
 replace H : (some (t106, 0)) = some (r1, r2) := H
 have A6 := Aside0.mk A60
 clear A60
 simp only [Option.some.injEq, Prod.mk.injEq] at H
 obtain ⟨rfl, rfl⟩ := H
 go_enter Try.func10, Try.ntmps10
 go_wp2_with (first | ((with_reducible refine gate_dst (N := 3) rfl ?_); refine bx_ (N := 3) (cs := #[.slice A0_0 l0_0.length c0_0]) (t := 26) rfl rfl ?_; intro gb101 hg w7 hbox hb; have n0_ := b1_ HB hb; have n1_ := Aside0.mk (hbox); have n2_ := ge_ hg HB; have n3_ := ge_ hg HB; clear HB; have HB := n0_; have BK101 := n1_; have GW101 := n2_; have GE101 := n3_; clear n0_ n1_ n2_ n3_ hb hbox hg; have hcz8_0 := hz_ BK101; have hfz8_0 := blk_frozen BK101.out 0) | ((with_reducible refine gate_dst (N := 12) rfl ?_); refine Kd.R_lit (Kd.int .i64) _ 2 ?hg (N := 12) ?hd (xs := ([a1, a2] : List Int)) (inner := [.int .i64 a1, .int .i64 a2]) (ok := fun _ => True) (okp := fun _ => True) ?hr ?hp (fun _ hk => hk) trivial (Below.refl _ _) (Nat.le_refl _) (by simp) ?_; (case hd => rfl); (case hg => rfl); (case hr => exact t3_); (case hp => exact (Reps.one (show Kd.M (Kd.int .i64) _ _ _ a1 [.int .i64 a1] from rfl) (Reps.one (show Kd.M (Kd.int .i64) _ _ _ a2 [.int .i64 a2] from rfl) (Reps.none _ _)))); intro v103 w9 ho10 hb hg_ hnew_; clear hg_ hnew_; (first | rw [← Ny102.out] at ho10 | (simp only [Int.reduceToNat] at ho10; rw [← Ny102.out] at ho10)); have n0_ := Aside0.mk (Kd.R_lower ho10 (below_size (gb_ HB.out))); have n1_ := a2_ BK101 hb; have n2_ := b1_ HB hb; clear BK101 HB; have HO104 := n0_; have BK101 := n1_; have HB := n2_; clear n0_ n1_ n2_ hb ho10; obtain ⟨Ao11, co11, eo11⟩ := Kd.R_slice HO104.out; subst eo11) | ((with_reducible refine gate_callee (f := 56) rfl ?_); refine gl_ (some 13) rfl rfl Try.func56 #[.agg #[.slice A0_0 l0_0.length c0_0], .slice Ao11 y102.length co11] rfl ?_; (with_reducible refine (impl_wordCode.calls k _ _ l0_0 _ _ y102 t105 _ ?side1 ?side2 ?side3 ?side4 A4.out).mono ?_); (case side1 => exact c2_ HR0_0 HB); (case side2 => exact HC0_0.out); (case side3 => exact c1_ HO104); (case side4 => exact (Kd.R_reads' HO104.out).2.1); rintro e w12 ⟨rfl, hb⟩; refine ⟨_, rfl, ?_⟩; replace HO104 := a1_ HO104 hb; replace BK101 := a2_ BK101 hb; replace HB := b1_ HB hb; (try clear hb); (try clear hb2); (try clear hk); (try clear hi); have hcz13_0 := hz_ BK101; have hfz13_0 := blk_frozen BK101.out 0) | ((with_reducible refine gate_callee (f := 60) rfl ?_); refine gl_ (some 20) rfl rfl Try.func60 #[.agg #[.slice A0_0 l0_0.length c0_0], .int .i64 a1, .int .i64 a2] rfl ?_; (with_reducible refine (impl_distance.calls _ _ l0_0 a1 a2 t106 _ ?side1 ?side2 A6.out).mono ?_); (case side1 => exact c2_ HR0_0 HB); (case side2 => exact HC0_0.out); rintro e w14 ⟨rfl, hb⟩; refine ⟨_, rfl, ?_⟩; replace HO104 := a1_ HO104 hb; replace BK101 := a2_ BK101 hb; replace HB := b1_ HB hb; (try clear hb); (try clear hb2); (try clear hk); (try clear hi)))
 go_ret2
 exact ⟨t5_, gb_ HB.out⟩
def spec_DistanceOf.f (k : Nat) (l0_0 : List Int) (a1 : Int) (a2 : Int) : Option (Int × Int) := (spec_l01Words.f k l0_0 (([a1, a2] : List Int))).bind fun t105 => (if t105 = 0 then ((spec_l01Distance.f k l0_0 a1 a2).bind fun t106 => (some (t106, 0))) else (some (0, t105)))
set_option maxHeartbeats 8000000 in
set_option maxRecDepth 100000 in
theorem spec_DistanceOf.calls (k : Nat) (A0_0 : Option Addr) (c0_0 : Nat) (l0_0 : List Int) (a1 : Int) (a2 : Int) (r1 : Int) (r2 : Int) (w : World) (hr0_0 : Kd.C (Kd.int .i64) w A0_0 l0_0.length l0_0) (hc0_0 : l0_0.length ≤ c0_0) (h : spec_DistanceOf.f k l0_0 a1 a2 = some (r1, r2)) :
  Calls Try.prog 11 #[.agg #[.slice A0_0 l0_0.length c0_0], .int .i64 a1, .int .i64 a2] w fun e w' => e = .returned (.tuple #[.int .i64 r1, .int .i64 r2]) ∧ Below w.heap.size w w' := by
 have hu26 := Try.underlying26
 have HR0_0 := Aside0.mk hr0_0
 have HC0_0 := Aside0.mk hc0_0
 clear hr0_0 hc0_0
 have HB := Aside0.mk (Below.refl w.heap.size w)
 have H : ((spec_l01Words.f k l0_0 (([a1, a2] : List Int))).bind fun t105 => (if t105 = 0 then ((spec_l01Distance.f k l0_0 a1 a2).bind fun t106 => (some (t106, 0))) else (some (0, t105)))) = some (r1, r2) := h
 clear h
 obtain ⟨y102, hy102⟩ : ∃ y_ : List Int, y_ = (([a1, a2] : List Int)) := ⟨_, rfl⟩
 replace H : ((spec_l01Words.f k l0_0 y102).bind fun t105 => (if t105 = 0 then ((spec_l01Distance.f k l0_0 a1 a2).bind fun t106 => (some (t106, 0))) else (some (0, t105)))) = some (r1, r2) := y_ H
 have Ny102 := Aside0.mk hy102
 clear hy102
 replace H := Option.bind_eq_some_iff.mp H
 obtain ⟨t105, A40, H⟩ := H
 replace H : (if t105 = 0 then ((spec_l01Distance.f k l0_0 a1 a2).bind fun t106 => (some (t106, 0))) else (some (0, t105))) = some (r1, r2) := H
 have A4 := Aside0.mk A40
 clear A40
 by_cases c5 : t105 = 0
 rotate_left
 ·rw [if_neg c5] at H
  have c5b0 : (t105 == 0) = false := beq_eq_false_iff_ne.mpr c5
  have c5b1 : (t105 != 0) = true := bne_iff_ne.mpr c5
  simp only [Option.some.injEq, Prod.mk.injEq] at H
  obtain ⟨rfl, rfl⟩ := H
  go_enter Try.func11, Try.ntmps11
  go_wp2_with (first | ((with_reducible refine gate_dst (N := 3) rfl ?_); refine bx_ (N := 3) (cs := #[.slice A0_0 l0_0.length c0_0]) (t := 26) rfl rfl ?_; intro gb101 hg w15 hbox hb; have n0_ := b1_ HB hb; have n1_ := Aside0.mk (hbox); have n2_ := ge_ hg HB; have n3_ := ge_ hg HB; clear HB; have HB := n0_; have BK101 := n1_; have GW101 := n2_; have GE101 := n3_; clear n0_ n1_ n2_ n3_ hb hbox hg; have hcz16_0 := hz_ BK101; have hfz16_0 := blk_frozen BK101.out 0) | ((with_reducible refine gate_dst (N := 12) rfl ?_); refine Kd.R_lit (Kd.int .i64) _ 2 ?hg (N := 12) ?hd (xs := ([a1, a2] : List Int)) (inner := [.int .i64 a1, .int .i64 a2]) (ok := fun _ => True) (okp := fun _ => True) ?hr ?hp (fun _ hk => hk) trivial (Below.refl _ _) (Nat.le_refl _) (by simp) ?_; (case hd => rfl); (case hg => rfl); (case hr => exact t3_); (case hp => exact (Reps.one (show Kd.M (Kd.int .i64) _ _ _ a1 [.int .i64 a1] from rfl) (Reps.one (show Kd.M (Kd.int .i64) _ _ _ a2 [.int .i64 a2] from rfl) (Reps.none _ _)))); intro v103 w17 ho18 hb hg_ hnew_; clear hg_ hnew_; (first | rw [← Ny102.out] at ho18 | (simp only [Int.reduceToNat] at ho18; rw [← Ny102.out] at ho18)); have n0_ := Aside0.mk (Kd.R_lower ho18 (below_size (gb_ HB.out))); have n1_ := a2_ BK101 hb; have n2_ := b1_ HB hb; clear BK101 HB; have HO104 := n0_; have BK101 := n1_; have HB := n2_; clear n0_ n1_ n2_ hb ho18; obtain ⟨Ao19, co19, eo19⟩ := Kd.R_slice HO104.out; subst eo19) | ((with_reducible refine gate_callee (f := 58) rfl ?_); refine gl_ (some 13) rfl rfl Try.func58 #[.agg #[.slice A0_0 l0_0.length c0_0], .slice Ao19 y102.length co19] rfl ?_; (with_reducible refine (spec_l01Words.calls k _ _ l0_0 _ _ y102 t105 _ ?side1 ?side2 ?side3 ?side4 A4.out).mono ?_); (case side1 => exact c2_ HR0_0 HB); (case side2 => exact HC0_0.out); (case side3 => exact c1_ HO104); (case side4 => exact (Kd.R_reads' HO104.out).2.1); rintro e w20 ⟨rfl, hb⟩; refine ⟨_, rfl, ?_⟩; replace HO104 := a1_ HO104 hb; replace BK101 := a2_ BK101 hb; replace HB := b1_ HB hb; (try clear hb); (try clear hb2); (try clear hk); (try clear hi)))
  go_ret2
  exact ⟨t5_, gb_ HB.out⟩

 rw [if_pos c5] at H
 have c5b0 : (t105 == 0) = true := beq_iff_eq.mpr c5
 have c5b1 : (t105 != 0) = false := bne_eq_false_iff_eq.mpr c5
 clear c5
 replace H := Option.bind_eq_some_iff.mp H
 obtain ⟨t106, A60, H⟩ := H
 replace H : (some (t106, 0)) = some (r1, r2) := H
 have A6 := Aside0.mk A60
 clear A60
 simp only [Option.some.injEq, Prod.mk.injEq] at H
 obtain ⟨rfl, rfl⟩ := H
 go_enter Try.func11, Try.ntmps11
 go_wp2_with (first | ((with_reducible refine gate_dst (N := 3) rfl ?_); refine bx_ (N := 3) (cs := #[.slice A0_0 l0_0.length c0_0]) (t := 26) rfl rfl ?_; intro gb101 hg w7 hbox hb; have n0_ := b1_ HB hb; have n1_ := Aside0.mk (hbox); have n2_ := ge_ hg HB; have n3_ := ge_ hg HB; clear HB; have HB := n0_; have BK101 := n1_; have GW101 := n2_; have GE101 := n3_; clear n0_ n1_ n2_ n3_ hb hbox hg; have hcz8_0 := hz_ BK101; have hfz8_0 := blk_frozen BK101.out 0) | ((with_reducible refine gate_dst (N := 12) rfl ?_); refine Kd.R_lit (Kd.int .i64) _ 2 ?hg (N := 12) ?hd (xs := ([a1, a2] : List Int)) (inner := [.int .i64 a1, .int .i64 a2]) (ok := fun _ => True) (okp := fun _ => True) ?hr ?hp (fun _ hk => hk) trivial (Below.refl _ _) (Nat.le_refl _) (by simp) ?_; (case hd => rfl); (case hg => rfl); (case hr => exact t3_); (case hp => exact (Reps.one (show Kd.M (Kd.int .i64) _ _ _ a1 [.int .i64 a1] from rfl) (Reps.one (show Kd.M (Kd.int .i64) _ _ _ a2 [.int .i64 a2] from rfl) (Reps.none _ _)))); intro v103 w9 ho10 hb hg_ hnew_; clear hg_ hnew_; (first | rw [← Ny102.out] at ho10 | (simp only [Int.reduceToNat] at ho10; rw [← Ny102.out] at ho10)); have n0_ := Aside0.mk (Kd.R_lower ho10 (below_size (gb_ HB.out))); have n1_ := a2_ BK101 hb; have n2_ := b1_ HB hb; clear BK101 HB; have HO104 := n0_; have BK101 := n1_; have HB := n2_; clear n0_ n1_ n2_ hb ho10; obtain ⟨Ao11, co11, eo11⟩ := Kd.R_slice HO104.out; subst eo11) | ((with_reducible refine gate_callee (f := 58) rfl ?_); refine gl_ (some 13) rfl rfl Try.func58 #[.agg #[.slice A0_0 l0_0.length c0_0], .slice Ao11 y102.length co11] rfl ?_; (with_reducible refine (spec_l01Words.calls k _ _ l0_0 _ _ y102 t105 _ ?side1 ?side2 ?side3 ?side4 A4.out).mono ?_); (case side1 => exact c2_ HR0_0 HB); (case side2 => exact HC0_0.out); (case side3 => exact c1_ HO104); (case side4 => exact (Kd.R_reads' HO104.out).2.1); rintro e w12 ⟨rfl, hb⟩; refine ⟨_, rfl, ?_⟩; replace HO104 := a1_ HO104 hb; replace BK101 := a2_ BK101 hb; replace HB := b1_ HB hb; (try clear hb); (try clear hb2); (try clear hk); (try clear hi); have hcz13_0 := hz_ BK101; have hfz13_0 := blk_frozen BK101.out 0) | ((with_reducible refine gate_callee (f := 61) rfl ?_); refine gl_ (some 20) rfl rfl Try.func61 #[.agg #[.slice A0_0 l0_0.length c0_0], .int .i64 a1, .int .i64 a2] rfl ?_; (with_reducible refine (spec_l01Distance.calls k _ _ l0_0 a1 a2 t106 _ ?side1 ?side2 A6.out).mono ?_); (case side1 => exact c2_ HR0_0 HB); (case side2 => exact HC0_0.out); rintro e w14 ⟨rfl, hb⟩; refine ⟨_, rfl, ?_⟩; replace HO104 := a1_ HO104 hb; replace BK101 := a2_ BK101 hb; replace HB := b1_ HB hb; (try clear hb); (try clear hb2); (try clear hk); (try clear hi)))
 go_ret2
 exact ⟨t5_, gb_ HB.out⟩
def spec_OppositeWord.l0 : Nat → List Int → Int → Int → List Int → Option (Int × Int)
  | 0, _, _, _, _ => none
  | k + 1, x7, x20, x21, x102000 => if x21 < x20 then (if 0 ≤ x21 then (if x21 < (x102000.length : Int) then (if x21 < (x7.length : Int) then (if (rd x102000 x21) = 0 then (none) else (spec_OppositeWord.l0 k (x7.set (x21 : Int).toNat (Int.tmod (wrap64 ((rd x102000 x21) - (rd x7 x21))) (rd x102000 x21))) x20 (wrap64 (x21 + 1)) x102000)) else (none)) else (none)) else (none)) else ((spec_l01Word.f k x102000 x7).bind fun t113 => (some (t113, 0)))
def spec_OppositeWord.f (k : Nat) (l0_0 : List Int) (a1 : Int) : Option (Int × Int) := (spec_l01Words.f k l0_0 (([a1] : List Int))).bind fun t105 => (if t105 = 0 then ((spec_l01Digits.f k l0_0 a1).bind fun t106 => (spec_OppositeWord.l0 k t106 (t106.length : Int) 0 l0_0)) else (some (0, t105)))
def spec_OppositeWord.T8 : Bool × List (List Nat × List Nat) := (true, [([], []), ([], []), ([], []), ([2], [2]), ([], []), ([3, 4], [3, 4]), ([5], [5]), ([], []), ([], []), ([7, 8], [7, 8]), ([9], [9]), ([6, 10], [6, 10]), ([], []), ([12], [12]), ([], []), ([13, 14], [13, 14]), ([15], [15]), ([11, 16], [11, 16]), ([0, 1, 0, 1, 2, 3, 4, 5, 6, 7, 8, 9, 10, 11, 12, 13, 14, 15, 16, 17], [0, 1]), ([18, 17, 0, 1, 2, 3, 4, 5, 6, 7, 8, 9, 10, 11, 12, 13, 14, 15, 16, 17], [17, 18])])
def spec_OppositeWord.B8 : List Nat := [0, 0, 0, 4, 0, 28, 60, 0, 0, 384, 896, 2044, 0, 4096, 0, 28672, 61440, 131068, 262143, 524287]
theorem spec_OppositeWord.tab8 : rtab .any (opsOf Try.f13 8) = spec_OppositeWord.T8 := by kernel_rfl
theorem spec_OppositeWord.bits8 : waitsOk spec_OppositeWord.T8.2 spec_OppositeWord.B8 = true := by kernel_rfl
set_option maxHeartbeats 8000000 in
set_option maxRecDepth 100000 in
theorem spec_OppositeWord.calls (k : Nat) (A0_0 : Option Addr) (c0_0 : Nat) (l0_0 : List Int) (a1 : Int) (r1 : Int) (r2 : Int) (w : World) (hr0_0 : Kd.C (Kd.int .i64) w A0_0 l0_0.length l0_0) (hc0_0 : l0_0.length ≤ c0_0) (h : spec_OppositeWord.f k l0_0 a1 = some (r1, r2)) :
  Calls Try.prog 13 #[.agg #[.slice A0_0 l0_0.length c0_0], .int .i64 a1] w fun e w' => e = .returned (.tuple #[.int .i64 r1, .int .i64 r2]) ∧ Below w.heap.size w w' := by
 have hu26 := Try.underlying26
 have HR0_0 := Aside0.mk hr0_0
 have HC0_0 := Aside0.mk hc0_0
 clear hr0_0 hc0_0
 have HB := Aside0.mk (Below.refl w.heap.size w)
 have H : ((spec_l01Words.f k l0_0 (([a1] : List Int))).bind fun t105 => (if t105 = 0 then ((spec_l01Digits.f k l0_0 a1).bind fun t106 => (spec_OppositeWord.l0 k t106 (t106.length : Int) 0 l0_0)) else (some (0, t105)))) = some (r1, r2) := h
 clear h
 obtain ⟨y102, hy102⟩ : ∃ y_ : List Int, y_ = (([a1] : List Int)) := ⟨_, rfl⟩
 replace H : ((spec_l01Words.f k l0_0 y102).bind fun t105 => (if t105 = 0 then ((spec_l01Digits.f k l0_0 a1).bind fun t106 => (spec_OppositeWord.l0 k t106 (t106.length : Int) 0 l0_0)) else (some (0, t105)))) = some (r1, r2) := y_ H
 have Ny102 := Aside0.mk hy102
 clear hy102
 replace H := Option.bind_eq_some_iff.mp H
 obtain ⟨t105, A30, H⟩ := H
 replace H : (if t105 = 0 then ((spec_l01Digits.f k l0_0 a1).bind fun t106 => (spec_OppositeWord.l0 k t106 (t106.length : Int) 0 l0_0)) else (some (0, t105))) = some (r1, r2) := H
 have A3 := Aside0.mk A30
 clear A30
 by_cases c4 : t105 = 0
 rotate_left
 ·rw [if_neg c4] at H
  have c4b0 : (t105 == 0) = false := beq_eq_false_iff_ne.mpr c4
  have c4b1 : (t105 != 0) = true := bne_iff_ne.mpr c4
  simp only [Option.some.injEq, Prod.mk.injEq] at H
  obtain ⟨rfl, rfl⟩ := H
  go_enter Try.func13, Try.ntmps13
  go_wp2_with (first | ((with_reducible refine gate_dst (N := 2) rfl ?_); refine bx_ (N := 2) (cs := #[.slice A0_0 l0_0.length c0_0]) (t := 26) rfl rfl ?_; intro gb101 hg w26 hbox hb; have n0_ := b1_ HB hb; have n1_ := Aside0.mk (hbox); have n2_ := ge_ hg HB; have n3_ := ge_ hg HB; clear HB; have HB := n0_; have BK101 := n1_; have GW101 := n2_; have GE101 := n3_; clear n0_ n1_ n2_ n3_ hb hbox hg; have hcz27_0 := hz_ BK101; have hfz27_0 := blk_frozen BK101.out 0) | ((with_reducible refine gate_dst (N := 11) rfl ?_); refine Kd.R_lit (Kd.int .i64) _ 2 ?hg (N := 11) ?hd (xs := ([a1] : List Int)) (inner := [.int .i64 a1]) (ok := fun _ => True) (okp := fun _ => True) ?hr ?hp (fun _ hk => hk) trivial (Below.refl _ _) (Nat.le_refl _) (by simp) ?_; (case hd => rfl); (case hg => rfl); (case hr => exact t3_); (case hp => exact (Reps.one (show Kd.M (Kd.int .i64) _ _ _ a1 [.int .i64 a1] from rfl) (Reps.none _ _))); intro v103 w28 ho29 hb hg_ hnew_; clear hg_ hnew_; (first | rw [← Ny102.out] at ho29 | (simp only [Int.reduceToNat] at ho29; rw [← Ny102.out] at ho29)); have n0_ := Aside0.mk (Kd.R_lower ho29 (below_size (gb_ HB.out))); have n1_ := a2_ BK101 hb; have n2_ := b1_ HB hb; clear BK101 HB; have HO104 := n0_; have BK101 := n1_; have HB := n2_; clear n0_ n1_ n2_ hb ho29; obtain ⟨Ao30, co30, eo30⟩ := Kd.R_slice HO104.out; subst eo30) | ((with_reducible refine gate_callee (f := 58) rfl ?_); refine gl_ (some 12) rfl rfl Try.func58 #[.agg #[.slice A0_0 l0_0.length c0_0], .slice Ao30 y102.length co30] rfl ?_; (with_reducible refine (spec_l01Words.calls k _ _ l0_0 _ _ y102 t105 _ ?side1 ?side2 ?side3 ?side4 A3.out).mono ?_); (case side1 => exact c2_ HR0_0 HB); (case side2 => exact HC0_0.out); (case side3 => exact c1_ HO104); (case side4 => exact (Kd.R_reads' HO104.out).2.1); rintro e w31 ⟨rfl, hb⟩; refine ⟨_, rfl, ?_⟩; replace HO104 := a1_ HO104 hb; replace BK101 := a2_ BK101 hb; replace HB := b1_ HB hb; (try clear hb); (try clear hb2); (try clear hk); (try clear hi)))
  go_ret2
  exact ⟨t5_, gb_ HB.out⟩

 rw [if_pos c4] at H
 have c4b0 : (t105 == 0) = true := beq_iff_eq.mpr c4
 have c4b1 : (t105 != 0) = false := bne_eq_false_iff_eq.mpr c4
 clear c4
 replace H := Option.bind_eq_some_iff.mp H
 obtain ⟨t106, A50, H⟩ := H
 replace H : (spec_OppositeWord.l0 k t106 (t106.length : Int) 0 l0_0) = some (r1, r2) := H
 have A5 := Aside0.mk A50
 clear A50
 have H' := Aside0.mk H
 clear H
 go_enter Try.func13, Try.ntmps13
 go_wp2_with (first | ((with_reducible refine gate_dst (N := 2) rfl ?_); refine bx_ (N := 2) (cs := #[.slice A0_0 l0_0.length c0_0]) (t := 26) rfl rfl ?_; intro gb101 hg w6 hbox hb; have n0_ := b1_ HB hb; have n1_ := Aside0.mk (hbox); have n2_ := ge_ hg HB; have n3_ := ge_ hg HB; clear HB; have HB := n0_; have BK101 := n1_; have GW101 := n2_; have GE101 := n3_; clear n0_ n1_ n2_ n3_ hb hbox hg; have hcz7_0 := hz_ BK101; have hfz7_0 := blk_frozen BK101.out 0) | ((with_reducible refine gate_dst (N := 11) rfl ?_); refine Kd.R_lit (Kd.int .i64) _ 2 ?hg (N := 11) ?hd (xs := ([a1] : List Int)) (inner := [.int .i64 a1]) (ok := fun _ => True) (okp := fun _ => True) ?hr ?hp (fun _ hk => hk) trivial (Below.refl _ _) (Nat.le_refl _) (by simp) ?_; (case hd => rfl); (case hg => rfl); (case hr => exact t3_); (case hp => exact (Reps.one (show Kd.M (Kd.int .i64) _ _ _ a1 [.int .i64 a1] from rfl) (Reps.none _ _))); intro v103 w8 ho9 hb hg_ hnew_; clear hg_ hnew_; (first | rw [← Ny102.out] at ho9 | (simp only [Int.reduceToNat] at ho9; rw [← Ny102.out] at ho9)); have n0_ := Aside0.mk (Kd.R_lower ho9 (below_size (gb_ HB.out))); have n1_ := a2_ BK101 hb; have n2_ := b1_ HB hb; clear BK101 HB; have HO104 := n0_; have BK101 := n1_; have HB := n2_; clear n0_ n1_ n2_ hb ho9; obtain ⟨Ao10, co10, eo10⟩ := Kd.R_slice HO104.out; subst eo10) | ((with_reducible refine gate_callee (f := 58) rfl ?_); refine gl_ (some 12) rfl rfl Try.func58 #[.agg #[.slice A0_0 l0_0.length c0_0], .slice Ao10 y102.length co10] rfl ?_; (with_reducible refine (spec_l01Words.calls k _ _ l0_0 _ _ y102 t105 _ ?side1 ?side2 ?side3 ?side4 A3.out).mono ?_); (case side1 => exact c2_ HR0_0 HB); (case side2 => exact HC0_0.out); (case side3 => exact c1_ HO104); (case side4 => exact (Kd.R_reads' HO104.out).2.1); rintro e w11 ⟨rfl, hb⟩; refine ⟨_, rfl, ?_⟩; replace HO104 := a1_ HO104 hb; replace BK101 := a2_ BK101 hb; replace HB := b1_ HB hb; (try clear hb); (try clear hb2); (try clear hk); (try clear hi); have hcz12_0 := hz_ BK101; have hfz12_0 := blk_frozen BK101.out 0) | ((with_reducible refine gate_callee (f := 65) rfl ?_); refine gl_ (some 18) rfl rfl Try.func65 #[.agg #[.slice A0_0 l0_0.length c0_0], .int .i64 a1] rfl ?_; (with_reducible refine (spec_l01Digits.calls k _ _ l0_0 a1 t106 _ ?side1 ?side2 A5.out).mono ?_); (case side1 => exact c2_ HR0_0 HB); (case side2 => exact HC0_0.out); rintro e w13 ⟨v107, rfl, ho0, hb⟩; refine ⟨_, rfl, ?_⟩; have HO108 := Aside0.mk (Kd.R_lower (Kd.R_new' ho0 (Kd.R_lt (rb_ HO104.out))) (below_size (gb_ HB.out))); replace HO104 := a5_ HO104 ho0 hb; replace BK101 := a2_ BK101 hb; replace HB := b1_ HB hb; (try clear hb); (try clear hb2); (try clear hk); (try clear hi); (try clear ho0); obtain ⟨Ao14, co14, eo14⟩ := Kd.R_slice HO108.out; subst eo14))
 go_loopg [21] k (fun kq v21 w' => ∃ (x7_1 : List Int) (x21_1 : Int), v21 = .int .i64 x21_1 ∧ Aside0 (spec_OppositeWord.l0 kq x7_1 (t106.length : Int) x21_1 l0_0 = some (r1, r2)) ∧ Aside0 (kq ≤ k) ∧ Aside0 (Kd.R (Kd.int .i64) 2 w' w.heap.size (fun _ => True) (.slice Ao14 t106.length co14) x7_1) ∧ Aside0 (w'.heap[gb101]? = some (.cells #[(.slice A0_0 l0_0.length c0_0)] 26 (0, 0))) ∧ Aside0 (Below w.heap.size w w'))
 case atStart => exact ⟨(t106), (0), t2_, H', ⟨Nat.le_refl _⟩, ⟨by (with_reducible repeat (first | apply Kd.R_alloc | apply Kd.R_drewN | apply Kd.R_drew)); exact Kd.R_mono HO108.out (fun _ hk => trivial)⟩, ⟨bb_ BK101.out⟩, ⟨gb_ HB.out⟩⟩
 clear H'
 try clear c1
 try clear p2
 try clear c4
 try clear c4b0
 try clear c4b1
 try clear c5
 try clear c6
 try clear c13
 try clear hcz12_0
 try clear hcz7_0
 try clear hfz12_0
 try clear hfz7_0
 obtain ⟨x7_1, x21_1, rfl, HA, HK1, HO_7, BK101, HB⟩ := hrel
 have hl7_1 := (Kd.R_reads' HO_7.out).1
 rw [hl7_1] at HO_7
 (try simp only [hl7_1])
 (try simp only [hl7_1] at BK101)
 obtain _ | k1 := gk
 ·exact absurd HA.out (by simp [spec_OppositeWord.l0])
 have H := HA.out
 clear HA
 simp only [spec_OppositeWord.l0] at H
 by_cases c15 : x21_1 < (t106.length : Int)
 rotate_left
 ·rw [if_neg c15] at H
  have c15b0 : decide (x21_1 < (t106.length : Int)) = false := decide_eq_false c15
  (try (have c15z := c15b0; simp only [hl7_1] at c15z))
  clear c15
  replace H := Option.bind_eq_some_iff.mp H
  obtain ⟨t113, A230, H⟩ := H
  replace H : (some (t113, 0)) = some (r1, r2) := H
  have A23 := Aside0.mk A230
  clear A230
  simp only [Option.some.injEq, Prod.mk.injEq] at H
  obtain ⟨rfl, rfl⟩ := H
  have hcz24_0 := hz_ BK101
  have hfz24_0 := blk_frozen BK101.out 0
  go_wp2_with (first | ((with_reducible refine gate_callee (f := 66) rfl ?_); refine gl_ (some 46) rfl rfl Try.func66 #[.agg #[.slice A0_0 l0_0.length c0_0], .slice Ao14 x7_1.length co14] rfl ?_; (with_reducible refine (spec_l01Word.calls k1 _ _ l0_0 _ _ x7_1 t113 _ ?side1 ?side2 ?side3 ?side4 A23.out).mono ?_); (case side1 => exact c2_ HR0_0 HB); (case side2 => exact HC0_0.out); (case side3 => exact c1_ HO_7); (case side4 => exact (Kd.R_reads' HO_7.out).2.1); rintro e w25 ⟨rfl, hb⟩; refine ⟨_, rfl, ?_⟩; replace HO_7 := a1_ HO_7 hb; replace BK101 := a2_ BK101 hb; replace HB := b1_ HB hb; (try clear hb); (try clear hb2); (try clear hk); (try clear hi)))
  go_ret2
  exact ⟨t5_, gb_ HB.out⟩
 rw [if_pos c15] at H
 have c15b0 : decide (x21_1 < (t106.length : Int)) = true := decide_eq_true c15
 (try (have c15z := c15b0; simp only [hl7_1] at c15z))
 clear c15
 by_cases c16 : 0 ≤ x21_1
 rotate_left
 ·rw [if_neg c16] at H
  exact absurd H (by simp)
 rw [if_pos c16] at H
 have c16b0 : decide (0 ≤ x21_1) = true := decide_eq_true c16
 clear c16
 by_cases c17 : x21_1 < (l0_0.length : Int)
 rotate_left
 ·rw [if_neg c17] at H
  exact absurd H (by simp)
 rw [if_pos c17] at H
 have c17b0 : decide (x21_1 < (l0_0.length : Int)) = true := decide_eq_true c17
 (try (have c17z := c17b0; simp only [hl7_1] at c17z))
 clear c17
 by_cases c18 : x21_1 < (x7_1.length : Int)
 rotate_left
 ·rw [if_neg c18] at H
  exact absurd H (by simp)
 rw [if_pos c18] at H
 have c18b0 : decide (x21_1 < (x7_1.length : Int)) = true := decide_eq_true c18
 (try (have c18z := c18b0; simp only [hl7_1] at c18z))
 clear c18
 by_cases c19 : (rd l0_0 x21_1) = 0
 ·rw [if_pos c19] at H
  exact absurd H (by simp)
 rw [if_neg c19] at H
 have c19b0 : ((rd l0_0 x21_1) == 0) = false := beq_eq_false_iff_ne.mpr c19
 have c19b1 : ((rd l0_0 x21_1) != 0) = true := bne_iff_ne.mpr c19
 obtain ⟨y112, hy112⟩ : ∃ y_ : List Int, y_ = (x7_1.set (x21_1 : Int).toNat (Int.tmod (wrap64 ((rd l0_0 x21_1) - (rd x7_1 x21_1))) (rd l0_0 x21_1))) := ⟨_, rfl⟩
 replace H : (spec_OppositeWord.l0 k1 y112 (t106.length : Int) (wrap64 (x21_1 + 1)) l0_0) = some (r1, r2) := y_ H
 have Ny112 := Aside0.mk hy112
 clear hy112
 have H' := Aside0.mk H
 clear H
 try go_wp2
 replace HO_7 := Aside0.mk (Kd.R_drew HO_7.out)
 replace BK101 := Aside0.mk (blk_drew BK101.out)
 replace HB := Aside0.mk (below_drew1 HB.out)
 have p109 : 0 ≤ (x21_1 : Int) := of_decide_eq_true t6_
 have q109 : x21_1 < (l0_0.length : Int) := of_decide_eq_true t6_
 obtain ⟨ad109, e109, hx109_0⟩ := Kd.at_int HR0_0.out x21_1 p109 q109
 have hw109_0 := hx109_0
 cases e109
 replace hx109_0 := (HB.out.cell (World.block_lt_of_cell? _ _ hx109_0)).trans hx109_0
 replace p109 := eq_true p109
 replace q109 := eq_true q109
 have p110 : 0 ≤ (x21_1 : Int) := of_decide_eq_true t6_
 have q110 : x21_1 < (x7_1.length : Int) := of_decide_eq_true t6_
 (try (obtain ⟨Aoz, coz, eoz⟩ := Kd.R_slice HO_7.out; subst eoz))
 obtain ⟨ad110, e110, hx110_0⟩ := Kd.at_int (Kd.R_reads' HO_7.out).2.2 x21_1 p110 q110
 cases e110
 replace p110 := eq_true p110
 replace q110 := eq_true q110
 have p111 : 0 ≤ (x21_1 : Int) := of_decide_eq_true t6_
 have q111 : x21_1 < (l0_0.length : Int) := of_decide_eq_true t6_
 obtain ⟨ad111, e111, hx111_0⟩ := Kd.at_int HR0_0.out x21_1 p111 q111
 have hw111_0 := hx111_0
 obtain rfl : ad109 = ad111 := (by injection e111)
 replace hx111_0 := (HB.out.cell (World.block_lt_of_cell? _ _ hx111_0)).trans hx111_0
 replace p111 := eq_true p111
 replace q111 := eq_true q111
 have p20 : 0 ≤ (x21_1 : Int) := of_decide_eq_true t6_
 have q20 : (x21_1 : Int) < ((x7_1.length : Int) : Int) := of_decide_eq_true t6_
 obtain ⟨go20, co20, eo20, gb20, gl20, cl20, HG20⟩ := Kd.R_form HO_7.out (by omega)
 (first | cases eo20 | (injection eo20 with ea_ en_ ec_; (first | subst ea_ | (injection ea_ with ea_; subst ea_)); subst ec_; clear en_))
 have GB20 := Aside0.mk gb20
 have GG20 := Aside0.mk HG20
 clear gb20 gl20 HG20
 (first | simp only [add_plain] at hx110_0 | skip)
 obtain ⟨hx20_0, hf20_0⟩ := Kd.R_celln 0 HO_7.out (x21_1 : Int) p20 q20
 replace p20 := eq_true p20
 replace q20 := eq_true q20
 have HP22 := Kd.R_putn HO_7.out (x21_1 : Int) (Int.tmod (wrap64 ((rd l0_0 x21_1) - (rd x7_1 x21_1))) (rd l0_0 x21_1))
 rw [← Ny112.out] at HP22
 have HQ22 := Aside0.mk HP22
 clear HP22
 refine start_ (n := 20) (S := fun w' => w'.cell? ⟨gb101, 0, none⟩ = some (.slice (some ad109) l0_0.length c0_0) ∧ w'.cell? (ad109.add (x21_1).toNat) = some (.int .i64 (rd l0_0 x21_1)) ∧ w'.cell? ⟨go20, (x21_1).toNat, none⟩ = some (.int .i64 (rd x7_1 x21_1)) ∧ w'.cell? (ad109.add (x21_1).toNat) = some (.int .i64 (rd l0_0 x21_1))) (ds := [19]) #[false, false, false, false, false, false, false, false, false, false, false, false, false, false, false, false, false, false, false, false] (by kernel_rfl) rfl rfl ⟨(blk_cell BK101.out 0).trans rfl, ((HB.out.cell (World.block_lt_of_cell? _ _ hw109_0)).trans hw109_0), hx110_0, ((HB.out.cell (World.block_lt_of_cell? _ _ hw111_0)).trans hw111_0)⟩ (fun hHeld => ?_); refine with_tabW spec_OppositeWord.tab8 spec_OppositeWord.bits8 (fun HT_ HW_ => ?_)
 generalize wr.drew = w21 at HO_7 BK101 HB GG20 HQ22 hf20_0 hx109_0 hx110_0 hx111_0 hx20_0 hHeld ⊢
 refine pu_ (i := 0) (N := some 24) (v := ?_) (a' := ?_) #[true, false, false, false, false, false, false, false, false, false, false, false, false, false, false, false, false, false, false, false] rfl rfl HT_ (Or.inl ⟨by rfl, ?_⟩) ?_ ?_
 rotate_left
 ·exact t7_
 rotate_left
 ·exact t4_
 refine pu_ (i := 1) (N := some 25) (v := ?_) (a' := ?_) #[true, true, false, false, false, false, false, false, false, false, false, false, false, false, false, false, false, false, false, false] rfl rfl HT_ (Or.inl ⟨by rfl, ?_⟩) ?_ ?_
 rotate_left
 ·exact t7_
 rotate_left
 ·exact t4_
 refine pu_ (i := 2) (N := some 26) (v := ?_) (a' := ?_) #[true, true, true, false, false, false, false, false, false, false, false, false, false, false, false, false, false, false, false, false] rfl rfl HT_ (Or.inl ⟨by rfl, ?_⟩) ?_ ?_
 rotate_left
 ·exact t7_
 rotate_left
 ·exact t4_
 refine pu_ (i := 4) (N := some 28) (v := ?_) (a' := ?_) #[true, true, true, false, true, false, false, false, false, false, false, false, false, false, false, false, false, false, false, false] rfl rfl HT_ (Or.inl ⟨by rfl, ?_⟩) ?_ ?_
 rotate_left
 ·exact t7_
 rotate_left
 ·exact t4_
 refine pu_ (i := 7) (N := some 31) (v := ?_) (a' := ?_) #[true, true, true, false, true, false, false, true, false, false, false, false, false, false, false, false, false, false, false, false] rfl rfl HT_ (Or.inl ⟨by rfl, ?_⟩) ?_ ?_
 rotate_left
 ·exact t7_
 rotate_left
 ·exact t4_
 refine pu_ (i := 8) (N := some 32) (v := ?_) (a' := ?_) #[true, true, true, false, true, false, false, true, true, false, false, false, false, false, false, false, false, false, false, false] rfl rfl HT_ (Or.inl ⟨by rfl, ?_⟩) ?_ ?_
 rotate_left
 ·exact t7_
 rotate_left
 ·exact t4_
 refine pu_ (i := 9) (N := some 33) (v := ?_) (a' := ?_) #[true, true, true, false, true, false, false, true, true, true, false, false, false, false, false, false, false, false, false, false] rfl rfl HT_ (Or.inl ⟨by rfl, ?_⟩) ?_ ?_
 rotate_left
 ·exact t7_
 rotate_left
 ·exact t4_
 refine pu_ (i := 12) (N := some 36) (v := ?_) (a' := ?_) #[true, true, true, false, true, false, false, true, true, true, false, false, true, false, false, false, false, false, false, false] rfl rfl HT_ (Or.inl ⟨by rfl, ?_⟩) ?_ ?_
 rotate_left
 ·exact t7_
 rotate_left
 ·exact t4_
 refine pu_ (i := 14) (N := some 38) (v := ?_) (a' := ?_) #[true, true, true, false, true, false, false, true, true, true, false, false, true, false, true, false, false, false, false, false] rfl rfl HT_ (Or.inl ⟨by rfl, ?_⟩) ?_ ?_
 rotate_left
 ·exact t7_
 rotate_left
 ·exact t4_
 refine tk_ (i := 3) (N := some 27) (v := ?_) (a' := ?_) #[true, true, true, true, true, false, false, true, true, true, false, false, true, false, true, false, false, false, false, false] rfl rfl HT_ HW_ (Or.inl ⟨by rfl, ?_⟩) hHeld ?_ ?_
 rotate_left
 ·rintro w' ⟨s0, s1, s2, s3⟩
  (try simp only [add_plain] at s0 s1 s2 s3)
  go_simp
  with_reducible rfl
 rotate_left
 ·exact t4_
 refine pu_ (i := 5) (N := some 29) (v := ?_) (a' := ?_) #[true, true, true, true, true, true, false, true, true, true, false, false, true, false, true, false, false, false, false, false] rfl rfl HT_ (Or.inl ⟨by rfl, ?_⟩) ?_ ?_
 rotate_left
 ·exact t7_
 rotate_left
 ·exact t4_
 refine tk_ (i := 6) (N := some 30) (v := ?_) (a' := ?_) #[true, true, true, true, true, true, true, true, true, true, false, false, true, false, true, false, false, false, false, false] rfl rfl HT_ HW_ (Or.inl ⟨by rfl, ?_⟩) hHeld ?_ ?_
 rotate_left
 ·rintro w' ⟨s0, s1, s2, s3⟩
  (try simp only [add_plain] at s0 s1 s2 s3)
  go_simp
  with_reducible rfl
 rotate_left
 ·exact t4_
 refine tk_ (i := 10) (N := some 34) (v := ?_) (a' := ?_) #[true, true, true, true, true, true, true, true, true, true, true, false, true, false, true, false, false, false, false, false] rfl rfl HT_ HW_ (Or.inl ⟨by rfl, ?_⟩) hHeld ?_ ?_
 rotate_left
 ·rintro w' ⟨s0, s1, s2, s3⟩
  (try simp only [add_plain] at s0 s1 s2 s3)
  go_simp
  with_reducible rfl
 rotate_left
 ·exact t4_
 refine pu_ (i := 11) (N := some 35) (v := ?_) (a' := ?_) #[true, true, true, true, true, true, true, true, true, true, true, true, true, false, true, false, false, false, false, false] rfl rfl HT_ (Or.inl ⟨by rfl, ?_⟩) ?_ ?_
 rotate_left
 ·exact t7_
 rotate_left
 ·exact t4_
 refine tk_ (i := 13) (N := some 37) (v := ?_) (a' := ?_) #[true, true, true, true, true, true, true, true, true, true, true, true, true, true, true, false, false, false, false, false] rfl rfl HT_ HW_ (Or.inl ⟨by rfl, ?_⟩) hHeld ?_ ?_
 rotate_left
 ·rintro w' ⟨s0, s1, s2, s3⟩
  (try simp only [add_plain] at s0 s1 s2 s3)
  go_simp
  with_reducible rfl
 rotate_left
 ·exact t4_
 refine pu_ (i := 15) (N := some 39) (v := ?_) (a' := ?_) #[true, true, true, true, true, true, true, true, true, true, true, true, true, true, true, true, false, false, false, false] rfl rfl HT_ (Or.inl ⟨by rfl, ?_⟩) ?_ ?_
 rotate_left
 ·exact t7_
 rotate_left
 ·exact t4_
 refine tk_ (i := 16) (N := some 40) (v := ?_) (a' := ?_) #[true, true, true, true, true, true, true, true, true, true, true, true, true, true, true, true, true, false, false, false] rfl rfl HT_ HW_ (Or.inl ⟨by rfl, ?_⟩) hHeld ?_ ?_
 rotate_left
 ·rintro w' ⟨s0, s1, s2, s3⟩
  (try simp only [add_plain] at s0 s1 s2 s3)
  go_simp
  with_reducible rfl
 rotate_left
 ·exact t4_
 refine pu_ (i := 17) (N := some 41) (v := ?_) (a' := ?_) #[true, true, true, true, true, true, true, true, true, true, true, true, true, true, true, true, true, true, false, false] rfl rfl HT_ (Or.inl ⟨by rfl, ?_⟩) ?_ ?_
 rotate_left
 ·exact t7_
 rotate_left
 ·exact t4_
 refine pu_ (i := 18) (N := some 42) (v := ?_) (a' := ?_) #[true, true, true, true, true, true, true, true, true, true, true, true, true, true, true, true, true, true, true, false] rfl rfl HT_ (Or.inl ⟨by rfl, ?_⟩) ?_ ?_
 rotate_left
 ·exact t7_
 rotate_left
 ·exact t4_
 refine last_ (i := 19) (N := none) #[true, true, true, true, true, true, true, true, true, true, true, true, true, true, true, true, true, true, true, true] rfl rfl (one_of HT_.out (by kernel_rfl)) (by decide) (fun K hK => ?_)
 refine skip_ (w1 := ?_) (by rfl) rfl ?_ ?_
 rotate_left
 ·go_simp
  rfl
 refine hK.out _ _ ?_
 clear hK K
 refine done_ (done_of HT_.out (by kernel_rfl)) ?_
 try go_wp2
 (try simp only [← hl7_1])
 go_roundg k1
 case measure => have := HK1.out; omega
 case rel => exact ⟨(y112), (wrap64 (x21_1 + 1)), t2_, H', ⟨by have := HK1.out; omega⟩, ⟨by (try simp only [hl7_1]); (with_reducible repeat (first | apply Kd.R_alloc | apply Kd.R_drewN | apply Kd.R_drew)); exact HQ22.out⟩, ⟨by (try simp only [hl7_1]); (with_reducible repeat (first | refine blk_drewN ?_ _ | refine blk_drew ?_ | refine blk_alloc ?_ _)); refine blk_far ?_ (by have h_ := Kd.R_ne HO_7.out BK101.out (by decide); intro e_; exact h_ (by rw [e_]; rfl)) _; (with_reducible repeat (first | refine blk_drewN ?_ _ | refine blk_drew ?_ | refine blk_alloc ?_ _)); exact BK101.out⟩, ⟨gb_ HB.out⟩⟩
def spec_WeightOf.f (k : Nat) (l0_0 : List Int) (a1 : Int) : Option (Int × Int) := (spec_l01Words.f k l0_0 (([a1] : List Int))).bind fun t105 => (if t105 = 0 then ((spec_l01Distance.f k l0_0 0 a1).bind fun t106 => (some (t106, 0))) else (some (0, t105)))
set_option maxHeartbeats 8000000 in
set_option maxRecDepth 100000 in
theorem spec_WeightOf.calls (k : Nat) (A0_0 : Option Addr) (c0_0 : Nat) (l0_0 : List Int) (a1 : Int) (r1 : Int) (r2 : Int) (w : World) (hr0_0 : Kd.C (Kd.int .i64) w A0_0 l0_0.length l0_0) (hc0_0 : l0_0.length ≤ c0_0) (h : spec_WeightOf.f k l0_0 a1 = some (r1, r2)) :
  Calls Try.prog 15 #[.agg #[.slice A0_0 l0_0.length c0_0], .int .i64 a1] w fun e w' => e = .returned (.tuple #[.int .i64 r1, .int .i64 r2]) ∧ Below w.heap.size w w' := by
 have hu26 := Try.underlying26
 have HR0_0 := Aside0.mk hr0_0
 have HC0_0 := Aside0.mk hc0_0
 clear hr0_0 hc0_0
 have HB := Aside0.mk (Below.refl w.heap.size w)
 have H : ((spec_l01Words.f k l0_0 (([a1] : List Int))).bind fun t105 => (if t105 = 0 then ((spec_l01Distance.f k l0_0 0 a1).bind fun t106 => (some (t106, 0))) else (some (0, t105)))) = some (r1, r2) := h
 clear h
 obtain ⟨y102, hy102⟩ : ∃ y_ : List Int, y_ = (([a1] : List Int)) := ⟨_, rfl⟩
 replace H : ((spec_l01Words.f k l0_0 y102).bind fun t105 => (if t105 = 0 then ((spec_l01Distance.f k l0_0 0 a1).bind fun t106 => (some (t106, 0))) else (some (0, t105)))) = some (r1, r2) := y_ H
 have Ny102 := Aside0.mk hy102
 clear hy102
 replace H := Option.bind_eq_some_iff.mp H
 obtain ⟨t105, A30, H⟩ := H
 replace H : (if t105 = 0 then ((spec_l01Distance.f k l0_0 0 a1).bind fun t106 => (some (t106, 0))) else (some (0, t105))) = some (r1, r2) := H
 have A3 := Aside0.mk A30
 clear A30
 by_cases c4 : t105 = 0
 rotate_left
 ·rw [if_neg c4] at H
  have c4b0 : (t105 == 0) = false := beq_eq_false_iff_ne.mpr c4
  have c4b1 : (t105 != 0) = true := bne_iff_ne.mpr c4
  simp only [Option.some.injEq, Prod.mk.injEq] at H
  obtain ⟨rfl, rfl⟩ := H
  go_enter Try.func15, Try.ntmps15
  go_wp2_with (first | ((with_reducible refine gate_dst (N := 2) rfl ?_); refine bx_ (N := 2) (cs := #[.slice A0_0 l0_0.length c0_0]) (t := 26) rfl rfl ?_; intro gb101 hg w14 hbox hb; have n0_ := b1_ HB hb; have n1_ := Aside0.mk (hbox); have n2_ := ge_ hg HB; have n3_ := ge_ hg HB; clear HB; have HB := n0_; have BK101 := n1_; have GW101 := n2_; have GE101 := n3_; clear n0_ n1_ n2_ n3_ hb hbox hg; have hcz15_0 := hz_ BK101; have hfz15_0 := blk_frozen BK101.out 0) | ((with_reducible refine gate_dst (N := 9) rfl ?_); refine Kd.R_lit (Kd.int .i64) _ 2 ?hg (N := 9) ?hd (xs := ([a1] : List Int)) (inner := [.int .i64 a1]) (ok := fun _ => True) (okp := fun _ => True) ?hr ?hp (fun _ hk => hk) trivial (Below.refl _ _) (Nat.le_refl _) (by simp) ?_; (case hd => rfl); (case hg => rfl); (case hr => exact t3_); (case hp => exact (Reps.one (show Kd.M (Kd.int .i64) _ _ _ a1 [.int .i64 a1] from rfl) (Reps.none _ _))); intro v103 w16 ho17 hb hg_ hnew_; clear hg_ hnew_; (first | rw [← Ny102.out] at ho17 | (simp only [Int.reduceToNat] at ho17; rw [← Ny102.out] at ho17)); have n0_ := Aside0.mk (Kd.R_lower ho17 (below_size (gb_ HB.out))); have n1_ := a2_ BK101 hb; have n2_ := b1_ HB hb; clear BK101 HB; have HO104 := n0_; have BK101 := n1_; have HB := n2_; clear n0_ n1_ n2_ hb ho17; obtain ⟨Ao18, co18, eo18⟩ := Kd.R_slice HO104.out; subst eo18) | ((with_reducible refine gate_callee (f := 58) rfl ?_); refine gl_ (some 10) rfl rfl Try.func58 #[.agg #[.slice A0_0 l0_0.length c0_0], .slice Ao18 y102.length co18] rfl ?_; (with_reducible refine (spec_l01Words.calls k _ _ l0_0 _ _ y102 t105 _ ?side1 ?side2 ?side3 ?side4 A3.out).mono ?_); (case side1 => exact c2_ HR0_0 HB); (case side2 => exact HC0_0.out); (case side3 => exact c1_ HO104); (case side4 => exact (Kd.R_reads' HO104.out).2.1); rintro e w19 ⟨rfl, hb⟩; refine ⟨_, rfl, ?_⟩; replace HO104 := a1_ HO104 hb; replace BK101 := a2_ BK101 hb; replace HB := b1_ HB hb; (try clear hb); (try clear hb2); (try clear hk); (try clear hi)))
  go_ret2
  exact ⟨t5_, gb_ HB.out⟩

 rw [if_pos c4] at H
 have c4b0 : (t105 == 0) = true := beq_iff_eq.mpr c4
 have c4b1 : (t105 != 0) = false := bne_eq_false_iff_eq.mpr c4
 clear c4
 replace H := Option.bind_eq_some_iff.mp H
 obtain ⟨t106, A50, H⟩ := H
 replace H : (some (t106, 0)) = some (r1, r2) := H
 have A5 := Aside0.mk A50
 clear A50
 simp only [Option.some.injEq, Prod.mk.injEq] at H
 obtain ⟨rfl, rfl⟩ := H
 go_enter Try.func15, Try.ntmps15
 go_wp2_with (first | ((with_reducible refine gate_dst (N := 2) rfl ?_); refine bx_ (N := 2) (cs := #[.slice A0_0 l0_0.length c0_0]) (t := 26) rfl rfl ?_; intro gb101 hg w6 hbox hb; have n0_ := b1_ HB hb; have n1_ := Aside0.mk (hbox); have n2_ := ge_ hg HB; have n3_ := ge_ hg HB; clear HB; have HB := n0_; have BK101 := n1_; have GW101 := n2_; have GE101 := n3_; clear n0_ n1_ n2_ n3_ hb hbox hg; have hcz7_0 := hz_ BK101; have hfz7_0 := blk_frozen BK101.out 0) | ((with_reducible refine gate_dst (N := 9) rfl ?_); refine Kd.R_lit (Kd.int .i64) _ 2 ?hg (N := 9) ?hd (xs := ([a1] : List Int)) (inner := [.int .i64 a1]) (ok := fun _ => True) (okp := fun _ => True) ?hr ?hp (fun _ hk => hk) trivial (Below.refl _ _) (Nat.le_refl _) (by simp) ?_; (case hd => rfl); (case hg => rfl); (case hr => exact t3_); (case hp => exact (Reps.one (show Kd.M (Kd.int .i64) _ _ _ a1 [.int .i64 a1] from rfl) (Reps.none _ _))); intro v103 w8 ho9 hb hg_ hnew_; clear hg_ hnew_; (first | rw [← Ny102.out] at ho9 | (simp only [Int.reduceToNat] at ho9; rw [← Ny102.out] at ho9)); have n0_ := Aside0.mk (Kd.R_lower ho9 (below_size (gb_ HB.out))); have n1_ := a2_ BK101 hb; have n2_ := b1_ HB hb; clear BK101 HB; have HO104 := n0_; have BK101 := n1_; have HB := n2_; clear n0_ n1_ n2_ hb ho9; obtain ⟨Ao10, co10, eo10⟩ := Kd.R_slice HO104.out; subst eo10) | ((with_reducible refine gate_callee (f := 58) rfl ?_); refine gl_ (some 10) rfl rfl Try.func58 #[.agg #[.slice A0_0 l0_0.length c0_0], .slice Ao10 y102.length co10] rfl ?_; (with_reducible refine (spec_l01Words.calls k _ _ l0_0 _ _ y102 t105 _ ?side1 ?side2 ?side3 ?side4 A3.out).mono ?_); (case side1 => exact c2_ HR0_0 HB); (case side2 => exact HC0_0.out); (case side3 => exact c1_ HO104); (case side4 => exact (Kd.R_reads' HO104.out).2.1); rintro e w11 ⟨rfl, hb⟩; refine ⟨_, rfl, ?_⟩; replace HO104 := a1_ HO104 hb; replace BK101 := a2_ BK101 hb; replace HB := b1_ HB hb; (try clear hb); (try clear hb2); (try clear hk); (try clear hi); have hcz12_0 := hz_ BK101; have hfz12_0 := blk_frozen BK101.out 0) | ((with_reducible refine gate_callee (f := 61) rfl ?_); refine gl_ (some 16) rfl rfl Try.func61 #[.agg #[.slice A0_0 l0_0.length c0_0], .int .i64 0, .int .i64 a1] rfl ?_; (with_reducible refine (spec_l01Distance.calls k _ _ l0_0 0 a1 t106 _ ?side1 ?side2 A5.out).mono ?_); (case side1 => exact c2_ HR0_0 HB); (case side2 => exact HC0_0.out); rintro e w13 ⟨rfl, hb⟩; refine ⟨_, rfl, ?_⟩; replace HO104 := a1_ HO104 hb; replace BK101 := a2_ BK101 hb; replace HB := b1_ HB hb; (try clear hb); (try clear hb2); (try clear hk); (try clear hi)))
 go_ret2
 exact ⟨t5_, gb_ HB.out⟩
def spec_DigitsOf.f (k : Nat) (l0_0 : List Int) (a1 : Int) : Option (List Int × Int) := (spec_l01Words.f k l0_0 (([a1] : List Int))).bind fun t105 => (if t105 = 0 then ((spec_l01Digits.f k l0_0 a1).bind fun t106 => (some (t106, 0))) else (some (([] : List Int), t105)))
set_option maxHeartbeats 8000000 in
set_option maxRecDepth 100000 in
theorem spec_DigitsOf.calls (k : Nat) (A0_0 : Option Addr) (c0_0 : Nat) (l0_0 : List Int) (a1 : Int) (r1 : List Int) (r2 : Int) (w : World) (hr0_0 : Kd.C (Kd.int .i64) w A0_0 l0_0.length l0_0) (hc0_0 : l0_0.length ≤ c0_0) (h : spec_DigitsOf.f k l0_0 a1 = some (r1, r2)) :
  Calls Try.prog 17 #[.agg #[.slice A0_0 l0_0.length c0_0], .int .i64 a1] w fun e w' => ∃ v0_ : Value, e = .returned (.tuple #[v0_, .int .i64 r2]) ∧ Kd.R (Kd.int .i64) 2 w' w.heap.size (fun _ => True) v0_ r1 ∧ Below w.heap.size w w' := by
 have hu26 := Try.underlying26
 have HR0_0 := Aside0.mk hr0_0
 have HC0_0 := Aside0.mk hc0_0
 clear hr0_0 hc0_0
 have HB := Aside0.mk (Below.refl w.heap.size w)
 have H : ((spec_l01Words.f k l0_0 (([a1] : List Int))).bind fun t105 => (if t105 = 0 then ((spec_l01Digits.f k l0_0 a1).bind fun t106 => (some (t106, 0))) else (some (([] : List Int), t105)))) = some (r1, r2) := h
 clear h
 obtain ⟨y102, hy102⟩ : ∃ y_ : List Int, y_ = (([a1] : List Int)) := ⟨_, rfl⟩
 replace H : ((spec_l01Words.f k l0_0 y102).bind fun t105 => (if t105 = 0 then ((spec_l01Digits.f k l0_0 a1).bind fun t106 => (some (t106, 0))) else (some (([] : List Int), t105)))) = some (r1, r2) := y_ H
 have Ny102 := Aside0.mk hy102
 clear hy102
 replace H := Option.bind_eq_some_iff.mp H
 obtain ⟨t105, A30, H⟩ := H
 replace H : (if t105 = 0 then ((spec_l01Digits.f k l0_0 a1).bind fun t106 => (some (t106, 0))) else (some (([] : List Int), t105))) = some (r1, r2) := H
 have A3 := Aside0.mk A30
 clear A30
 by_cases c4 : t105 = 0
 rotate_left
 ·rw [if_neg c4] at H
  have c4b0 : (t105 == 0) = false := beq_eq_false_iff_ne.mpr c4
  have c4b1 : (t105 != 0) = true := bne_iff_ne.mpr c4
  simp only [Option.some.injEq, Prod.mk.injEq] at H
  obtain ⟨rfl, rfl⟩ := H
  go_enter Try.func17, Try.ntmps17
  go_wp2_with (first | ((with_reducible refine gate_dst (N := 2) rfl ?_); refine bx_ (N := 2) (cs := #[.slice A0_0 l0_0.length c0_0]) (t := 26) rfl rfl ?_; intro gb101 hg w14 hbox hb; have n0_ := b1_ HB hb; have n1_ := Aside0.mk (hbox); have n2_ := ge_ hg HB; have n3_ := ge_ hg HB; clear HB; have HB := n0_; have BK101 := n1_; have GW101 := n2_; have GE101 := n3_; clear n0_ n1_ n2_ n3_ hb hbox hg; have hcz15_0 := hz_ BK101; have hfz15_0 := blk_frozen BK101.out 0) | ((with_reducible refine gate_dst (N := 9) rfl ?_); refine Kd.R_lit (Kd.int .i64) _ 2 ?hg (N := 9) ?hd (xs := ([a1] : List Int)) (inner := [.int .i64 a1]) (ok := fun _ => True) (okp := fun _ => True) ?hr ?hp (fun _ hk => hk) trivial (Below.refl _ _) (Nat.le_refl _) (by simp) ?_; (case hd => rfl); (case hg => rfl); (case hr => exact t3_); (case hp => exact (Reps.one (show Kd.M (Kd.int .i64) _ _ _ a1 [.int .i64 a1] from rfl) (Reps.none _ _))); intro v103 w16 ho17 hb hg_ hnew_; clear hg_ hnew_; (first | rw [← Ny102.out] at ho17 | (simp only [Int.reduceToNat] at ho17; rw [← Ny102.out] at ho17)); have n0_ := Aside0.mk (Kd.R_lower ho17 (below_size (gb_ HB.out))); have n1_ := a2_ BK101 hb; have n2_ := b1_ HB hb; clear BK101 HB; have HO104 := n0_; have BK101 := n1_; have HB := n2_; clear n0_ n1_ n2_ hb ho17; obtain ⟨Ao18, co18, eo18⟩ := Kd.R_slice HO104.out; subst eo18) | ((with_reducible refine gate_callee (f := 58) rfl ?_); refine gl_ (some 10) rfl rfl Try.func58 #[.agg #[.slice A0_0 l0_0.length c0_0], .slice Ao18 y102.length co18] rfl ?_; (with_reducible refine (spec_l01Words.calls k _ _ l0_0 _ _ y102 t105 _ ?side1 ?side2 ?side3 ?side4 A3.out).mono ?_); (case side1 => exact c2_ HR0_0 HB); (case side2 => exact HC0_0.out); (case side3 => exact c1_ HO104); (case side4 => exact (Kd.R_reads' HO104.out).2.1); rintro e w19 ⟨rfl, hb⟩; refine ⟨_, rfl, ?_⟩; replace HO104 := a1_ HO104 hb; replace BK101 := a2_ BK101 hb; replace HB := b1_ HB hb; (try clear hb); (try clear hb2); (try clear hk); (try clear hi)))
  go_ret2
  exact ⟨_, t5_, by first | exact Kd.R_nil _ _ _ _ _ | exact Kd.N_nil _ _ _ _ _ | exact Kd.V_nil _ _ _ _ _ | exact Kd.Q_nil _ _ _ _ _ | exact Kd.S_nil _ _ _ _ _, gb_ HB.out⟩

 rw [if_pos c4] at H
 have c4b0 : (t105 == 0) = true := beq_iff_eq.mpr c4
 have c4b1 : (t105 != 0) = false := bne_eq_false_iff_eq.mpr c4
 clear c4
 replace H := Option.bind_eq_some_iff.mp H
 obtain ⟨t106, A50, H⟩ := H
 replace H : (some (t106, 0)) = some (r1, r2) := H
 have A5 := Aside0.mk A50
 clear A50
 simp only [Option.some.injEq, Prod.mk.injEq] at H
 obtain ⟨rfl, rfl⟩ := H
 go_enter Try.func17, Try.ntmps17
 go_wp2_with (first | ((with_reducible refine gate_dst (N := 2) rfl ?_); refine bx_ (N := 2) (cs := #[.slice A0_0 l0_0.length c0_0]) (t := 26) rfl rfl ?_; intro gb101 hg w6 hbox hb; have n0_ := b1_ HB hb; have n1_ := Aside0.mk (hbox); have n2_ := ge_ hg HB; have n3_ := ge_ hg HB; clear HB; have HB := n0_; have BK101 := n1_; have GW101 := n2_; have GE101 := n3_; clear n0_ n1_ n2_ n3_ hb hbox hg; have hcz7_0 := hz_ BK101; have hfz7_0 := blk_frozen BK101.out 0) | ((with_reducible refine gate_dst (N := 9) rfl ?_); refine Kd.R_lit (Kd.int .i64) _ 2 ?hg (N := 9) ?hd (xs := ([a1] : List Int)) (inner := [.int .i64 a1]) (ok := fun _ => True) (okp := fun _ => True) ?hr ?hp (fun _ hk => hk) trivial (Below.refl _ _) (Nat.le_refl _) (by simp) ?_; (case hd => rfl); (case hg => rfl); (case hr => exact t3_); (case hp => exact (Reps.one (show Kd.M (Kd.int .i64) _ _ _ a1 [.int .i64 a1] from rfl) (Reps.none _ _))); intro v103 w8 ho9 hb hg_ hnew_; clear hg_ hnew_; (first | rw [← Ny102.out] at ho9 | (simp only [Int.reduceToNat] at ho9; rw [← Ny102.out] at ho9)); have n0_ := Aside0.mk (Kd.R_lower ho9 (below_size (gb_ HB.out))); have n1_ := a2_ BK101 hb; have n2_ := b1_ HB hb; clear BK101 HB; have HO104 := n0_; have BK101 := n1_; have HB := n2_; clear n0_ n1_ n2_ hb ho9; obtain ⟨Ao10, co10, eo10⟩ := Kd.R_slice HO104.out; subst eo10) | ((with_reducible refine gate_callee (f := 58) rfl ?_); refine gl_ (some 10) rfl rfl Try.func58 #[.agg #[.slice A0_0 l0_0.length c0_0], .slice Ao10 y102.length co10] rfl ?_; (with_reducible refine (spec_l01Words.calls k _ _ l0_0 _ _ y102 t105 _ ?side1 ?side2 ?side3 ?side4 A3.out).mono ?_); (case side1 => exact c2_ HR0_0 HB); (case side2 => exact HC0_0.out); (case side3 => exact c1_ HO104); (case side4 => exact (Kd.R_reads' HO104.out).2.1); rintro e w11 ⟨rfl, hb⟩; refine ⟨_, rfl, ?_⟩; replace HO104 := a1_ HO104 hb; replace BK101 := a2_ BK101 hb; replace HB := b1_ HB hb; (try clear hb); (try clear hb2); (try clear hk); (try clear hi); have hcz12_0 := hz_ BK101; have hfz12_0 := blk_frozen BK101.out 0) | ((with_reducible refine gate_callee (f := 65) rfl ?_); refine gl_ (some 16) rfl rfl Try.func65 #[.agg #[.slice A0_0 l0_0.length c0_0], .int .i64 a1] rfl ?_; (with_reducible refine (spec_l01Digits.calls k _ _ l0_0 a1 t106 _ ?side1 ?side2 A5.out).mono ?_); (case side1 => exact c2_ HR0_0 HB); (case side2 => exact HC0_0.out); rintro e w13 ⟨v107, rfl, ho0, hb⟩; refine ⟨_, rfl, ?_⟩; have HO108 := Aside0.mk (Kd.R_lower (Kd.R_new' ho0 (Kd.R_lt (rb_ HO104.out))) (below_size (gb_ HB.out))); replace HO104 := a5_ HO104 ho0 hb; replace BK101 := a2_ BK101 hb; replace HB := b1_ HB hb; (try clear hb); (try clear hb2); (try clear hk); (try clear hi); (try clear ho0)))
 go_ret2
 exact ⟨_, t5_, by (with_reducible repeat (first | apply Kd.R_alloc | apply Kd.R_drewN | apply Kd.R_drew)); exact Kd.R_mono HO108.out (fun _ hk => trivial), gb_ HB.out⟩
def spec_WordOf.l0 : Nat → List Int → Int → List Int → Option (Int × Int)
  | 0, _, _, _ => none
  | k + 1, x1, x6, x102000 => if x6 < (x1.length : Int) then (if 0 ≤ x6 then (if x6 < (x102000.length : Int) then ((spec_l01In.f (rd x1 x6) 0 (wrap64 ((rd x102000 x6) - 1))).bind fun t105 => (if t105 = true then (spec_WordOf.l0 k x1 (wrap64 (x6 + 1)) x102000) else (some (0, 2)))) else (none)) else (none)) else ((spec_l01Word.f k x102000 x1).bind fun t106 => (some (t106, 0)))
def spec_WordOf.f (k : Nat) (l0_0 : List Int) (l1 : List Int) : Option (Int × Int) := (spec_l01Is.f k l0_0).bind fun t102 => (if t102 = true then (if (l1.length : Int) = (l0_0.length : Int) then (spec_WordOf.l0 k l1 0 l0_0) else (some (0, 2))) else (some (0, 1)))
set_option maxHeartbeats 8000000 in
set_option maxRecDepth 100000 in
theorem spec_WordOf.calls (k : Nat) (A0_0 : Option Addr) (c0_0 : Nat) (l0_0 : List Int) (A1 : Option Addr) (c1 : Nat) (l1 : List Int) (r1 : Int) (r2 : Int) (w : World) (hr0_0 : Kd.C (Kd.int .i64) w A0_0 l0_0.length l0_0) (hc0_0 : l0_0.length ≤ c0_0) (hr1 : Kd.C (Kd.int .i64) w A1 l1.length l1) (hc1 : l1.length ≤ c1) (h : spec_WordOf.f k l0_0 l1 = some (r1, r2)) :
  Calls Try.prog 34 #[.agg #[.slice A0_0 l0_0.length c0_0], .slice A1 l1.length c1] w fun e w' => e = .returned (.tuple #[.int .i64 r1, .int .i64 r2]) ∧ Below w.heap.size w w' := by
 have hu26 := Try.underlying26
 have HR0_0 := Aside0.mk hr0_0
 have HC0_0 := Aside0.mk hc0_0
 clear hr0_0 hc0_0
 have HR1 := Aside0.mk hr1
 have HC1 := Aside0.mk hc1
 clear hr1 hc1
 have HB := Aside0.mk (Below.refl w.heap.size w)
 have H : ((spec_l01Is.f k l0_0).bind fun t102 => (if t102 = true then (if (l1.length : Int) = (l0_0.length : Int) then (spec_WordOf.l0 k l1 0 l0_0) else (some (0, 2))) else (some (0, 1)))) = some (r1, r2) := h
 clear h
 replace H := Option.bind_eq_some_iff.mp H
 obtain ⟨t102, A30, H⟩ := H
 replace H : (if t102 = true then (if (l1.length : Int) = (l0_0.length : Int) then (spec_WordOf.l0 k l1 0 l0_0) else (some (0, 2))) else (some (0, 1))) = some (r1, r2) := H
 have A3 := Aside0.mk A30
 clear A30
 by_cases c4 : t102 = true
 rotate_left
 ·replace c4 := Bool.eq_false_iff.mpr c4
  subst c4
  have H1 : (some (0, 1)) = some (r1, r2) := by rw [if_neg (show ¬ (false = true) by decide)] at H; exact H
  clear H
  have H := H1
  clear H1
  simp only [Option.some.injEq, Prod.mk.injEq] at H
  obtain ⟨rfl, rfl⟩ := H
  go_enter Try.func34, Try.ntmps34
  go_wp2_with (first | ((with_reducible refine gate_dst (N := 2) rfl ?_); refine bx_ (N := 2) (cs := #[.slice A0_0 l0_0.length c0_0]) (t := 26) rfl rfl ?_; intro gb101 hg w24 hbox hb; have n0_ := b1_ HB hb; have n1_ := Aside0.mk (hbox); have n2_ := ge_ hg HB; have n3_ := ge_ hg HB; clear HB; have HB := n0_; have BK101 := n1_; have GW101 := n2_; have GE101 := n3_; clear n0_ n1_ n2_ n3_ hb hbox hg; have hcz25_0 := hz_ BK101; have hfz25_0 := blk_frozen BK101.out 0) | (go_at_call 67; (with_reducible refine (spec_l01Is.calls k _ _ l0_0 false _ ?side1 ?side2 A3.out).mono ?_); (case side1 => exact c2_ HR0_0 HB); (case side2 => exact HC0_0.out); rintro e w26 ⟨rfl, hb⟩; replace BK101 := a2_ BK101 hb; replace HB := b1_ HB hb; (try clear hb); (try clear hb2); (try clear hk); (try clear hi)))
  repeat (go_quiet (first | ((with_reducible refine gate_dst (N := 2) rfl ?_); refine bx_ (N := 2) (cs := #[.slice A0_0 l0_0.length c0_0]) (t := 26) rfl rfl ?_; intro gb101 hg w24 hbox hb; have n0_ := b1_ HB hb; have n1_ := Aside0.mk (hbox); have n2_ := ge_ hg HB; have n3_ := ge_ hg HB; clear HB; have HB := n0_; have BK101 := n1_; have GW101 := n2_; have GE101 := n3_; clear n0_ n1_ n2_ n3_ hb hbox hg; have hcz25_0 := hz_ BK101; have hfz25_0 := blk_frozen BK101.out 0) | (go_at_call 67; (with_reducible refine (spec_l01Is.calls k _ _ l0_0 false _ ?side1 ?side2 A3.out).mono ?_); (case side1 => exact c2_ HR0_0 HB); (case side2 => exact HC0_0.out); rintro e w26 ⟨rfl, hb⟩; replace BK101 := a2_ BK101 hb; replace HB := b1_ HB hb; (try clear hb); (try clear hb2); (try clear hk); (try clear hi))); try go_wp2_with (first | ((with_reducible refine gate_dst (N := 2) rfl ?_); refine bx_ (N := 2) (cs := #[.slice A0_0 l0_0.length c0_0]) (t := 26) rfl rfl ?_; intro gb101 hg w24 hbox hb; have n0_ := b1_ HB hb; have n1_ := Aside0.mk (hbox); have n2_ := ge_ hg HB; have n3_ := ge_ hg HB; clear HB; have HB := n0_; have BK101 := n1_; have GW101 := n2_; have GE101 := n3_; clear n0_ n1_ n2_ n3_ hb hbox hg; have hcz25_0 := hz_ BK101; have hfz25_0 := blk_frozen BK101.out 0) | (go_at_call 67; (with_reducible refine (spec_l01Is.calls k _ _ l0_0 false _ ?side1 ?side2 A3.out).mono ?_); (case side1 => exact c2_ HR0_0 HB); (case side2 => exact HC0_0.out); rintro e w26 ⟨rfl, hb⟩; replace BK101 := a2_ BK101 hb; replace HB := b1_ HB hb; (try clear hb); (try clear hb2); (try clear hk); (try clear hi))))
  go_ret2
  exact ⟨t5_, gb_ HB.out⟩

 subst c4
 have H1 : (if (l1.length : Int) = (l0_0.length : Int) then (spec_WordOf.l0 k l1 0 l0_0) else (some (0, 2))) = some (r1, r2) := by rw [if_pos rfl] at H; exact H
 clear H
 have H := H1
 clear H1
 by_cases c5 : (l1.length : Int) = (l0_0.length : Int)
 rotate_left
 ·rw [if_neg c5] at H
  have c5b0 : ((l1.length : Int) == (l0_0.length : Int)) = false := beq_eq_false_iff_ne.mpr c5
  have c5b1 : ((l1.length : Int) != (l0_0.length : Int)) = true := bne_iff_ne.mpr c5
  have c5b2 : (l1.length == l0_0.length) = false := by first | simpa using c5 | (simp at c5 ⊢; omega)
  simp only [Option.some.injEq, Prod.mk.injEq] at H
  obtain ⟨rfl, rfl⟩ := H
  go_enter Try.func34, Try.ntmps34
  go_wp2_with (first | ((with_reducible refine gate_dst (N := 2) rfl ?_); refine bx_ (N := 2) (cs := #[.slice A0_0 l0_0.length c0_0]) (t := 26) rfl rfl ?_; intro gb101 hg w20 hbox hb; have n0_ := b1_ HB hb; have n1_ := Aside0.mk (hbox); have n2_ := ge_ hg HB; have n3_ := ge_ hg HB; clear HB; have HB := n0_; have BK101 := n1_; have GW101 := n2_; have GE101 := n3_; clear n0_ n1_ n2_ n3_ hb hbox hg; have hcz21_0 := hz_ BK101; have hfz21_0 := blk_frozen BK101.out 0) | (go_at_call 67; (with_reducible refine (spec_l01Is.calls k _ _ l0_0 true _ ?side1 ?side2 A3.out).mono ?_); (case side1 => exact c2_ HR0_0 HB); (case side2 => exact HC0_0.out); rintro e w22 ⟨rfl, hb⟩; replace BK101 := a2_ BK101 hb; replace HB := b1_ HB hb; (try clear hb); (try clear hb2); (try clear hk); (try clear hi); have hcz23_0 := hz_ BK101; have hfz23_0 := blk_frozen BK101.out 0))
  repeat (go_quiet (first | ((with_reducible refine gate_dst (N := 2) rfl ?_); refine bx_ (N := 2) (cs := #[.slice A0_0 l0_0.length c0_0]) (t := 26) rfl rfl ?_; intro gb101 hg w20 hbox hb; have n0_ := b1_ HB hb; have n1_ := Aside0.mk (hbox); have n2_ := ge_ hg HB; have n3_ := ge_ hg HB; clear HB; have HB := n0_; have BK101 := n1_; have GW101 := n2_; have GE101 := n3_; clear n0_ n1_ n2_ n3_ hb hbox hg; have hcz21_0 := hz_ BK101; have hfz21_0 := blk_frozen BK101.out 0) | (go_at_call 67; (with_reducible refine (spec_l01Is.calls k _ _ l0_0 true _ ?side1 ?side2 A3.out).mono ?_); (case side1 => exact c2_ HR0_0 HB); (case side2 => exact HC0_0.out); rintro e w22 ⟨rfl, hb⟩; replace BK101 := a2_ BK101 hb; replace HB := b1_ HB hb; (try clear hb); (try clear hb2); (try clear hk); (try clear hi); have hcz23_0 := hz_ BK101; have hfz23_0 := blk_frozen BK101.out 0)); try go_wp2_with (first | ((with_reducible refine gate_dst (N := 2) rfl ?_); refine bx_ (N := 2) (cs := #[.slice A0_0 l0_0.length c0_0]) (t := 26) rfl rfl ?_; intro gb101 hg w20 hbox hb; have n0_ := b1_ HB hb; have n1_ := Aside0.mk (hbox); have n2_ := ge_ hg HB; have n3_ := ge_ hg HB; clear HB; have HB := n0_; have BK101 := n1_; have GW101 := n2_; have GE101 := n3_; clear n0_ n1_ n2_ n3_ hb hbox hg; have hcz21_0 := hz_ BK101; have hfz21_0 := blk_frozen BK101.out 0) | (go_at_call 67; (with_reducible refine (spec_l01Is.calls k _ _ l0_0 true _ ?side1 ?side2 A3.out).mono ?_); (case side1 => exact c2_ HR0_0 HB); (case side2 => exact HC0_0.out); rintro e w22 ⟨rfl, hb⟩; replace BK101 := a2_ BK101 hb; replace HB := b1_ HB hb; (try clear hb); (try clear hb2); (try clear hk); (try clear hi); have hcz23_0 := hz_ BK101; have hfz23_0 := blk_frozen BK101.out 0)))
  go_ret2
  exact ⟨t5_, gb_ HB.out⟩
 rw [if_pos c5] at H
 have c5b0 : ((l1.length : Int) == (l0_0.length : Int)) = true := beq_iff_eq.mpr c5
 have c5b1 : ((l1.length : Int) != (l0_0.length : Int)) = false := bne_eq_false_iff_eq.mpr c5
 have c5b2 : (l1.length == l0_0.length) = true := by first | simpa using c5 | (simp at c5 ⊢; omega)
 clear c5
 have H' := Aside0.mk H
 clear H
 go_enter Try.func34, Try.ntmps34
 go_wp2_with (first | ((with_reducible refine gate_dst (N := 2) rfl ?_); refine bx_ (N := 2) (cs := #[.slice A0_0 l0_0.length c0_0]) (t := 26) rfl rfl ?_; intro gb101 hg w6 hbox hb; have n0_ := b1_ HB hb; have n1_ := Aside0.mk (hbox); have n2_ := ge_ hg HB; have n3_ := ge_ hg HB; clear HB; have HB := n0_; have BK101 := n1_; have GW101 := n2_; have GE101 := n3_; clear n0_ n1_ n2_ n3_ hb hbox hg; have hcz7_0 := hz_ BK101; have hfz7_0 := blk_frozen BK101.out 0) | (go_at_call 67; (with_reducible refine (spec_l01Is.calls k _ _ l0_0 true _ ?side1 ?side2 A3.out).mono ?_); (case side1 => exact c2_ HR0_0 HB); (case side2 => exact HC0_0.out); rintro e w8 ⟨rfl, hb⟩; replace BK101 := a2_ BK101 hb; replace HB := b1_ HB hb; (try clear hb); (try clear hb2); (try clear hk); (try clear hi); have hcz9_0 := hz_ BK101; have hfz9_0 := blk_frozen BK101.out 0))
 repeat (go_quiet (first | ((with_reducible refine gate_dst (N := 2) rfl ?_); refine bx_ (N := 2) (cs := #[.slice A0_0 l0_0.length c0_0]) (t := 26) rfl rfl ?_; intro gb101 hg w6 hbox hb; have n0_ := b1_ HB hb; have n1_ := Aside0.mk (hbox); have n2_ := ge_ hg HB; have n3_ := ge_ hg HB; clear HB; have HB := n0_; have BK101 := n1_; have GW101 := n2_; have GE101 := n3_; clear n0_ n1_ n2_ n3_ hb hbox hg; have hcz7_0 := hz_ BK101; have hfz7_0 := blk_frozen BK101.out 0) | (go_at_call 67; (with_reducible refine (spec_l01Is.calls k _ _ l0_0 true _ ?side1 ?side2 A3.out).mono ?_); (case side1 => exact c2_ HR0_0 HB); (case side2 => exact HC0_0.out); rintro e w8 ⟨rfl, hb⟩; replace BK101 := a2_ BK101 hb; replace HB := b1_ HB hb; (try clear hb); (try clear hb2); (try clear hk); (try clear hi); have hcz9_0 := hz_ BK101; have hfz9_0 := blk_frozen BK101.out 0)); try go_wp2_with (first | ((with_reducible refine gate_dst (N := 2) rfl ?_); refine bx_ (N := 2) (cs := #[.slice A0_0 l0_0.length c0_0]) (t := 26) rfl rfl ?_; intro gb101 hg w6 hbox hb; have n0_ := b1_ HB hb; have n1_ := Aside0.mk (hbox); have n2_ := ge_ hg HB; have n3_ := ge_ hg HB; clear HB; have HB := n0_; have BK101 := n1_; have GW101 := n2_; have GE101 := n3_; clear n0_ n1_ n2_ n3_ hb hbox hg; have hcz7_0 := hz_ BK101; have hfz7_0 := blk_frozen BK101.out 0) | (go_at_call 67; (with_reducible refine (spec_l01Is.calls k _ _ l0_0 true _ ?side1 ?side2 A3.out).mono ?_); (case side1 => exact c2_ HR0_0 HB); (case side2 => exact HC0_0.out); rintro e w8 ⟨rfl, hb⟩; replace BK101 := a2_ BK101 hb; replace HB := b1_ HB hb; (try clear hb); (try clear hb2); (try clear hk); (try clear hi); have hcz9_0 := hz_ BK101; have hfz9_0 := blk_frozen BK101.out 0)))
 go_loopg [6] k (fun kq v6 w' => ∃ (x6_1 : Int), v6 = .int .i64 x6_1 ∧ Aside0 (spec_WordOf.l0 kq l1 x6_1 l0_0 = some (r1, r2)) ∧ Aside0 (kq ≤ k) ∧ Aside0 (w'.heap[gb101]? = some (.cells #[(.slice A0_0 l0_0.length c0_0)] 26 (0, 0))) ∧ Aside0 (Below w.heap.size w w'))
 case atStart => exact ⟨(0), t2_, H', ⟨Nat.le_refl _⟩, ⟨bb_ BK101.out⟩, ⟨gb_ HB.out⟩⟩
 clear H'
 try clear c1
 try clear p2
 try clear c3
 try clear c4
 try clear c5
 try clear c5b0
 try clear c5b1
 try clear c5b2
 try clear hcz7_0
 try clear hcz9_0
 try clear hfz7_0
 try clear hfz9_0
 obtain ⟨x6_1, rfl, HA, HK1, BK101, HB⟩ := hrel
 obtain _ | k1 := gk
 ·exact absurd HA.out (by simp [spec_WordOf.l0])
 have H := HA.out
 clear HA
 simp only [spec_WordOf.l0] at H
 by_cases c10 : x6_1 < (l1.length : Int)
 rotate_left
 ·rw [if_neg c10] at H
  have c10b0 : decide (x6_1 < (l1.length : Int)) = false := decide_eq_false c10
  clear c10
  replace H := Option.bind_eq_some_iff.mp H
  obtain ⟨t106, A170, H⟩ := H
  replace H : (some (t106, 0)) = some (r1, r2) := H
  have A17 := Aside0.mk A170
  clear A170
  simp only [Option.some.injEq, Prod.mk.injEq] at H
  obtain ⟨rfl, rfl⟩ := H
  have hcz18_0 := hz_ BK101
  have hfz18_0 := blk_frozen BK101.out 0
  go_wp2_with (first | (go_at_call 66; (with_reducible refine (spec_l01Word.calls k1 _ _ l0_0 _ _ l1 t106 _ ?side1 ?side2 ?side3 ?side4 A17.out).mono ?_); (case side1 => exact c2_ HR0_0 HB); (case side2 => exact HC0_0.out); (case side3 => exact c2_ HR1 HB); (case side4 => exact HC1.out); rintro e w19 ⟨rfl, hb⟩; replace BK101 := a2_ BK101 hb; replace HB := b1_ HB hb; (try clear hb); (try clear hb2); (try clear hk); (try clear hi)))
  repeat (go_quiet (first | (go_at_call 66; (with_reducible refine (spec_l01Word.calls k1 _ _ l0_0 _ _ l1 t106 _ ?side1 ?side2 ?side3 ?side4 A17.out).mono ?_); (case side1 => exact c2_ HR0_0 HB); (case side2 => exact HC0_0.out); (case side3 => exact c2_ HR1 HB); (case side4 => exact HC1.out); rintro e w19 ⟨rfl, hb⟩; replace BK101 := a2_ BK101 hb; replace HB := b1_ HB hb; (try clear hb); (try clear hb2); (try clear hk); (try clear hi))); try go_wp2_with (first | (go_at_call 66; (with_reducible refine (spec_l01Word.calls k1 _ _ l0_0 _ _ l1 t106 _ ?side1 ?side2 ?side3 ?side4 A17.out).mono ?_); (case side1 => exact c2_ HR0_0 HB); (case side2 => exact HC0_0.out); (case side3 => exact c2_ HR1 HB); (case side4 => exact HC1.out); rintro e w19 ⟨rfl, hb⟩; replace BK101 := a2_ BK101 hb; replace HB := b1_ HB hb; (try clear hb); (try clear hb2); (try clear hk); (try clear hi))))
  go_ret2
  exact ⟨t5_, gb_ HB.out⟩
 rw [if_pos c10] at H
 have c10b0 : decide (x6_1 < (l1.length : Int)) = true := decide_eq_true c10
 clear c10
 by_cases c11 : 0 ≤ x6_1
 rotate_left
 ·rw [if_neg c11] at H
  exact absurd H (by simp)
 rw [if_pos c11] at H
 have c11b0 : decide (0 ≤ x6_1) = true := decide_eq_true c11
 clear c11
 by_cases c12 : x6_1 < (l0_0.length : Int)
 rotate_left
 ·rw [if_neg c12] at H
  exact absurd H (by simp)
 rw [if_pos c12] at H
 have c12b0 : decide (x6_1 < (l0_0.length : Int)) = true := decide_eq_true c12
 clear c12
 replace H := Option.bind_eq_some_iff.mp H
 obtain ⟨t105, A130, H⟩ := H
 replace H : (if t105 = true then (spec_WordOf.l0 k1 l1 (wrap64 (x6_1 + 1)) l0_0) else (some (0, 2))) = some (r1, r2) := H
 have A13 := Aside0.mk A130
 clear A130
 by_cases c14 : t105 = true
 ·subst c14
  have H1 : (spec_WordOf.l0 k1 l1 (wrap64 (x6_1 + 1)) l0_0) = some (r1, r2) := by rw [if_pos rfl] at H; exact H
  clear H
  have H := H1
  clear H1
  have H' := Aside0.mk H
  clear H
  have p103 : 0 ≤ (x6_1 : Int) := of_decide_eq_true t6_
  have q103 : x6_1 < (l1.length : Int) := of_decide_eq_true t6_
  obtain ⟨ad103, e103, hx103_0⟩ := Kd.at_int HR1.out x6_1 p103 q103
  cases e103
  replace hx103_0 := (HB.out.cell (World.block_lt_of_cell? _ _ hx103_0)).trans hx103_0
  replace p103 := eq_true p103
  replace q103 := eq_true q103
  have hcz15_0 := hz_ BK101
  have hfz15_0 := blk_frozen BK101.out 0
  have p104 : 0 ≤ (x6_1 : Int) := of_decide_eq_true t6_
  have q104 : x6_1 < (l0_0.length : Int) := of_decide_eq_true t6_
  obtain ⟨ad104, e104, hx104_0⟩ := Kd.at_int HR0_0.out x6_1 p104 q104
  cases e104
  replace hx104_0 := (HB.out.cell (World.block_lt_of_cell? _ _ hx104_0)).trans hx104_0
  replace p104 := eq_true p104
  replace q104 := eq_true q104
  go_wp2_with (first | (go_at_call 84; (with_reducible refine (spec_l01In.calls (rd l1 x6_1) 0 (wrap64 ((rd l0_0 x6_1) - 1)) true _ A13.out).mono ?_); rintro e w' ⟨rfl, ⟨nd, rfl⟩⟩; (try first | exact ⟨rfl, _, World.drewN_drewN _ _ _⟩ | exact ⟨rfl, _, Eq.trans (World.drewN_drewN _ _ _) (congrArg (World.drewN _) (Nat.add_assoc _ _ _))⟩)))
  repeat (go_quiet (first | (go_at_call 84; (with_reducible refine (spec_l01In.calls (rd l1 x6_1) 0 (wrap64 ((rd l0_0 x6_1) - 1)) true _ A13.out).mono ?_); rintro e w' ⟨rfl, ⟨nd, rfl⟩⟩; (try first | exact ⟨rfl, _, World.drewN_drewN _ _ _⟩ | exact ⟨rfl, _, Eq.trans (World.drewN_drewN _ _ _) (congrArg (World.drewN _) (Nat.add_assoc _ _ _))⟩))); try go_wp2_with (first | (go_at_call 84; (with_reducible refine (spec_l01In.calls (rd l1 x6_1) 0 (wrap64 ((rd l0_0 x6_1) - 1)) true _ A13.out).mono ?_); rintro e w' ⟨rfl, ⟨nd, rfl⟩⟩; (try first | exact ⟨rfl, _, World.drewN_drewN _ _ _⟩ | exact ⟨rfl, _, Eq.trans (World.drewN_drewN _ _ _) (congrArg (World.drewN _) (Nat.add_assoc _ _ _))⟩))))
  go_roundg k1
  case measure => have := HK1.out; omega
  case rel => exact ⟨(wrap64 (x6_1 + 1)), t2_, H', ⟨by have := HK1.out; omega⟩, ⟨bb_ BK101.out⟩, ⟨gb_ HB.out⟩⟩
 replace c14 := Bool.eq_false_iff.mpr c14
 subst c14
 have H1 : (some (0, 2)) = some (r1, r2) := by rw [if_neg (show ¬ (false = true) by decide)] at H; exact H
 clear H
 have H := H1
 clear H1
 simp only [Option.some.injEq, Prod.mk.injEq] at H
 obtain ⟨rfl, rfl⟩ := H
 have p103 : 0 ≤ (x6_1 : Int) := of_decide_eq_true t6_
 have q103 : x6_1 < (l1.length : Int) := of_decide_eq_true t6_
 obtain ⟨ad103, e103, hx103_0⟩ := Kd.at_int HR1.out x6_1 p103 q103
 cases e103
 replace hx103_0 := (HB.out.cell (World.block_lt_of_cell? _ _ hx103_0)).trans hx103_0
 replace p103 := eq_true p103
 replace q103 := eq_true q103
 have hcz16_0 := hz_ BK101
 have hfz16_0 := blk_frozen BK101.out 0
 have p104 : 0 ≤ (x6_1 : Int) := of_decide_eq_true t6_
 have q104 : x6_1 < (l0_0.length : Int) := of_decide_eq_true t6_
 obtain ⟨ad104, e104, hx104_0⟩ := Kd.at_int HR0_0.out x6_1 p104 q104
 cases e104
 replace hx104_0 := (HB.out.cell (World.block_lt_of_cell? _ _ hx104_0)).trans hx104_0
 replace p104 := eq_true p104
 replace q104 := eq_true q104
 go_wp2_with (first | (go_at_call 84; (with_reducible refine (spec_l01In.calls (rd l1 x6_1) 0 (wrap64 ((rd l0_0 x6_1) - 1)) false _ A13.out).mono ?_); rintro e w' ⟨rfl, ⟨nd, rfl⟩⟩; (try first | exact ⟨rfl, _, World.drewN_drewN _ _ _⟩ | exact ⟨rfl, _, Eq.trans (World.drewN_drewN _ _ _) (congrArg (World.drewN _) (Nat.add_assoc _ _ _))⟩)))
 repeat (go_quiet (first | (go_at_call 84; (with_reducible refine (spec_l01In.calls (rd l1 x6_1) 0 (wrap64 ((rd l0_0 x6_1) - 1)) false _ A13.out).mono ?_); rintro e w' ⟨rfl, ⟨nd, rfl⟩⟩; (try first | exact ⟨rfl, _, World.drewN_drewN _ _ _⟩ | exact ⟨rfl, _, Eq.trans (World.drewN_drewN _ _ _) (congrArg (World.drewN _) (Nat.add_assoc _ _ _))⟩))); try go_wp2_with (first | (go_at_call 84; (with_reducible refine (spec_l01In.calls (rd l1 x6_1) 0 (wrap64 ((rd l0_0 x6_1) - 1)) false _ A13.out).mono ?_); rintro e w' ⟨rfl, ⟨nd, rfl⟩⟩; (try first | exact ⟨rfl, _, World.drewN_drewN _ _ _⟩ | exact ⟨rfl, _, Eq.trans (World.drewN_drewN _ _ _) (congrArg (World.drewN _) (Nat.add_assoc _ _ _))⟩))))
 go_ret2
 exact ⟨t5_, gb_ HB.out⟩
def spec_l01Radius.f (k : Nat) (l0_0 : List Int) (a1 : Int) (a2 : Int) : Option (Int) := (spec_l01Words.f k l0_0 (([a1] : List Int))).bind fun t105 => (if t105 = 0 then ((spec_l01In.f a2 0 8).bind fun t106 => (if t106 = true then (some t105) else (some 2))) else (some t105))
set_option maxHeartbeats 8000000 in
set_option maxRecDepth 100000 in
theorem spec_l01Radius.calls (k : Nat) (A0_0 : Option Addr) (c0_0 : Nat) (l0_0 : List Int) (a1 : Int) (a2 : Int) (r : Int) (w : World) (hr0_0 : Kd.C (Kd.int .i64) w A0_0 l0_0.length l0_0) (hc0_0 : l0_0.length ≤ c0_0) (h : spec_l01Radius.f k l0_0 a1 a2 = some r) :
  Calls Try.prog 71 #[.agg #[.slice A0_0 l0_0.length c0_0], .int .i64 a1, .int .i64 a2] w fun e w' => e = .returned (.int .i64 r) ∧ Below w.heap.size w w' := by
 have hu26 := Try.underlying26
 have HR0_0 := Aside0.mk hr0_0
 have HC0_0 := Aside0.mk hc0_0
 clear hr0_0 hc0_0
 have HB := Aside0.mk (Below.refl w.heap.size w)
 have H : ((spec_l01Words.f k l0_0 (([a1] : List Int))).bind fun t105 => (if t105 = 0 then ((spec_l01In.f a2 0 8).bind fun t106 => (if t106 = true then (some t105) else (some 2))) else (some t105))) = some r := h
 clear h
 obtain ⟨y102, hy102⟩ : ∃ y_ : List Int, y_ = (([a1] : List Int)) := ⟨_, rfl⟩
 replace H : ((spec_l01Words.f k l0_0 y102).bind fun t105 => (if t105 = 0 then ((spec_l01In.f a2 0 8).bind fun t106 => (if t106 = true then (some t105) else (some 2))) else (some t105))) = some r := y_ H
 have Ny102 := Aside0.mk hy102
 clear hy102
 replace H := Option.bind_eq_some_iff.mp H
 obtain ⟨t105, A40, H⟩ := H
 replace H : (if t105 = 0 then ((spec_l01In.f a2 0 8).bind fun t106 => (if t106 = true then (some t105) else (some 2))) else (some t105)) = some r := H
 have A4 := Aside0.mk A40
 clear A40
 by_cases c5 : t105 = 0
 rotate_left
 ·rw [if_neg c5] at H
  have c5b0 : (t105 == 0) = false := beq_eq_false_iff_ne.mpr c5
  have c5b1 : (t105 != 0) = true := bne_iff_ne.mpr c5
  obtain rfl := Option.some.inj H
  go_enter Try.func71, Try.ntmps71
  go_wp2_with (first | ((with_reducible refine gate_dst (N := 3) rfl ?_); refine bx_ (N := 3) (cs := #[.slice A0_0 l0_0.length c0_0]) (t := 26) rfl rfl ?_; intro gb101 hg w20 hbox hb; have n0_ := b1_ HB hb; have n1_ := Aside0.mk (hbox); have n2_ := ge_ hg HB; have n3_ := ge_ hg HB; clear HB; have HB := n0_; have BK101 := n1_; have GW101 := n2_; have GE101 := n3_; clear n0_ n1_ n2_ n3_ hb hbox hg; have hcz21_0 := hz_ BK101; have hfz21_0 := blk_frozen BK101.out 0) | ((with_reducible refine gate_dst (N := 10) rfl ?_); refine Kd.R_lit (Kd.int .i64) _ 2 ?hg (N := 10) ?hd (xs := ([a1] : List Int)) (inner := [.int .i64 a1]) (ok := fun _ => True) (okp := fun _ => True) ?hr ?hp (fun _ hk => hk) trivial (Below.refl _ _) (Nat.le_refl _) (by simp) ?_; (case hd => rfl); (case hg => rfl); (case hr => exact t3_); (case hp => exact (Reps.one (show Kd.M (Kd.int .i64) _ _ _ a1 [.int .i64 a1] from rfl) (Reps.none _ _))); intro v103 w22 ho23 hb hg_ hnew_; clear hg_ hnew_; (first | rw [← Ny102.out] at ho23 | (simp only [Int.reduceToNat] at ho23; rw [← Ny102.out] at ho23)); have n0_ := Aside0.mk (Kd.R_lower ho23 (below_size (gb_ HB.out))); have n1_ := a2_ BK101 hb; have n2_ := b1_ HB hb; clear BK101 HB; have HO104 := n0_; have BK101 := n1_; have HB := n2_; clear n0_ n1_ n2_ hb ho23; obtain ⟨Ao24, co24, eo24⟩ := Kd.R_slice HO104.out; subst eo24) | ((with_reducible refine gate_callee (f := 58) rfl ?_); refine gl_ (some 11) rfl rfl Try.func58 #[.agg #[.slice A0_0 l0_0.length c0_0], .slice Ao24 y102.length co24] rfl ?_; (with_reducible refine (spec_l01Words.calls k _ _ l0_0 _ _ y102 t105 _ ?side1 ?side2 ?side3 ?side4 A4.out).mono ?_); (case side1 => exact c2_ HR0_0 HB); (case side2 => exact HC0_0.out); (case side3 => exact c1_ HO104); (case side4 => exact (Kd.R_reads' HO104.out).2.1); rintro e w25 ⟨rfl, hb⟩; refine ⟨_, rfl, ?_⟩; replace HO104 := a1_ HO104 hb; replace BK101 := a2_ BK101 hb; replace HB := b1_ HB hb; (try clear hb); (try clear hb2); (try clear hk); (try clear hi)))
  go_ret
  exact ⟨t5_, gb_ HB.out⟩

 rw [if_pos c5] at H
 have c5b0 : (t105 == 0) = true := beq_iff_eq.mpr c5
 have c5b1 : (t105 != 0) = false := bne_eq_false_iff_eq.mpr c5
 clear c5
 replace H := Option.bind_eq_some_iff.mp H
 obtain ⟨t106, A60, H⟩ := H
 replace H : (if t106 = true then (some t105) else (some 2)) = some r := H
 have A6 := Aside0.mk A60
 clear A60
 by_cases c7 : t106 = true
 ·subst c7
  have H1 : (some t105) = some r := by rw [if_pos rfl] at H; exact H
  clear H
  have H := H1
  clear H1
  obtain rfl := Option.some.inj H
  go_enter Try.func71, Try.ntmps71
  go_wp2_with (first | ((with_reducible refine gate_dst (N := 3) rfl ?_); refine bx_ (N := 3) (cs := #[.slice A0_0 l0_0.length c0_0]) (t := 26) rfl rfl ?_; intro gb101 hg w8 hbox hb; have n0_ := b1_ HB hb; have n1_ := Aside0.mk (hbox); have n2_ := ge_ hg HB; have n3_ := ge_ hg HB; clear HB; have HB := n0_; have BK101 := n1_; have GW101 := n2_; have GE101 := n3_; clear n0_ n1_ n2_ n3_ hb hbox hg; have hcz9_0 := hz_ BK101; have hfz9_0 := blk_frozen BK101.out 0) | ((with_reducible refine gate_dst (N := 10) rfl ?_); refine Kd.R_lit (Kd.int .i64) _ 2 ?hg (N := 10) ?hd (xs := ([a1] : List Int)) (inner := [.int .i64 a1]) (ok := fun _ => True) (okp := fun _ => True) ?hr ?hp (fun _ hk => hk) trivial (Below.refl _ _) (Nat.le_refl _) (by simp) ?_; (case hd => rfl); (case hg => rfl); (case hr => exact t3_); (case hp => exact (Reps.one (show Kd.M (Kd.int .i64) _ _ _ a1 [.int .i64 a1] from rfl) (Reps.none _ _))); intro v103 w10 ho11 hb hg_ hnew_; clear hg_ hnew_; (first | rw [← Ny102.out] at ho11 | (simp only [Int.reduceToNat] at ho11; rw [← Ny102.out] at ho11)); have n0_ := Aside0.mk (Kd.R_lower ho11 (below_size (gb_ HB.out))); have n1_ := a2_ BK101 hb; have n2_ := b1_ HB hb; clear BK101 HB; have HO104 := n0_; have BK101 := n1_; have HB := n2_; clear n0_ n1_ n2_ hb ho11; obtain ⟨Ao12, co12, eo12⟩ := Kd.R_slice HO104.out; subst eo12) | ((with_reducible refine gate_callee (f := 58) rfl ?_); refine gl_ (some 11) rfl rfl Try.func58 #[.agg #[.slice A0_0 l0_0.length c0_0], .slice Ao12 y102.length co12] rfl ?_; (with_reducible refine (spec_l01Words.calls k _ _ l0_0 _ _ y102 t105 _ ?side1 ?side2 ?side3 ?side4 A4.out).mono ?_); (case side1 => exact c2_ HR0_0 HB); (case side2 => exact HC0_0.out); (case side3 => exact c1_ HO104); (case side4 => exact (Kd.R_reads' HO104.out).2.1); rintro e w13 ⟨rfl, hb⟩; refine ⟨_, rfl, ?_⟩; replace HO104 := a1_ HO104 hb; replace BK101 := a2_ BK101 hb; replace HB := b1_ HB hb; (try clear hb); (try clear hb2); (try clear hk); (try clear hi)) | (go_at_call 84; (with_reducible refine (spec_l01In.calls a2 0 8 true _ A6.out).mono ?_); rintro e w' ⟨rfl, ⟨nd, rfl⟩⟩))
  go_ret
  exact ⟨t5_, gb_ HB.out⟩
 replace c7 := Bool.eq_false_iff.mpr c7
 subst c7
 have H1 : (some 2) = some r := by rw [if_neg (show ¬ (false = true) by decide)] at H; exact H
 clear H
 have H := H1
 clear H1
 obtain rfl := Option.some.inj H
 go_enter Try.func71, Try.ntmps71
 go_wp2_with (first | ((with_reducible refine gate_dst (N := 3) rfl ?_); refine bx_ (N := 3) (cs := #[.slice A0_0 l0_0.length c0_0]) (t := 26) rfl rfl ?_; intro gb101 hg w14 hbox hb; have n0_ := b1_ HB hb; have n1_ := Aside0.mk (hbox); have n2_ := ge_ hg HB; have n3_ := ge_ hg HB; clear HB; have HB := n0_; have BK101 := n1_; have GW101 := n2_; have GE101 := n3_; clear n0_ n1_ n2_ n3_ hb hbox hg; have hcz15_0 := hz_ BK101; have hfz15_0 := blk_frozen BK101.out 0) | ((with_reducible refine gate_dst (N := 10) rfl ?_); refine Kd.R_lit (Kd.int .i64) _ 2 ?hg (N := 10) ?hd (xs := ([a1] : List Int)) (inner := [.int .i64 a1]) (ok := fun _ => True) (okp := fun _ => True) ?hr ?hp (fun _ hk => hk) trivial (Below.refl _ _) (Nat.le_refl _) (by simp) ?_; (case hd => rfl); (case hg => rfl); (case hr => exact t3_); (case hp => exact (Reps.one (show Kd.M (Kd.int .i64) _ _ _ a1 [.int .i64 a1] from rfl) (Reps.none _ _))); intro v103 w16 ho17 hb hg_ hnew_; clear hg_ hnew_; (first | rw [← Ny102.out] at ho17 | (simp only [Int.reduceToNat] at ho17; rw [← Ny102.out] at ho17)); have n0_ := Aside0.mk (Kd.R_lower ho17 (below_size (gb_ HB.out))); have n1_ := a2_ BK101 hb; have n2_ := b1_ HB hb; clear BK101 HB; have HO104 := n0_; have BK101 := n1_; have HB := n2_; clear n0_ n1_ n2_ hb ho17; obtain ⟨Ao18, co18, eo18⟩ := Kd.R_slice HO104.out; subst eo18) | ((with_reducible refine gate_callee (f := 58) rfl ?_); refine gl_ (some 11) rfl rfl Try.func58 #[.agg #[.slice A0_0 l0_0.length c0_0], .slice Ao18 y102.length co18] rfl ?_; (with_reducible refine (spec_l01Words.calls k _ _ l0_0 _ _ y102 t105 _ ?side1 ?side2 ?side3 ?side4 A4.out).mono ?_); (case side1 => exact c2_ HR0_0 HB); (case side2 => exact HC0_0.out); (case side3 => exact c1_ HO104); (case side4 => exact (Kd.R_reads' HO104.out).2.1); rintro e w19 ⟨rfl, hb⟩; refine ⟨_, rfl, ?_⟩; replace HO104 := a1_ HO104 hb; replace BK101 := a2_ BK101 hb; replace HB := b1_ HB hb; (try clear hb); (try clear hb2); (try clear hk); (try clear hi)) | (go_at_call 84; (with_reducible refine (spec_l01In.calls a2 0 8 false _ A6.out).mono ?_); rintro e w' ⟨rfl, ⟨nd, rfl⟩⟩))
 go_ret
 exact ⟨t5_, gb_ HB.out⟩
def impl_ballCode.f (k : Nat) (l0_0 : List Int) (a1 : Int) (a2 : Int) : Option (Int) := (impl_wordCode.f k l0_0 (([a1] : List Int))).bind fun t105 => (if t105 = 0 then ((impl_isRadius.f a2).bind fun t106 => (if t106 = true then (some 0) else (some 2))) else (some t105))
set_option maxHeartbeats 8000000 in
set_option maxRecDepth 100000 in
theorem impl_ballCode.calls (k : Nat) (A0_0 : Option Addr) (c0_0 : Nat) (l0_0 : List Int) (a1 : Int) (a2 : Int) (r : Int) (w : World) (hr0_0 : Kd.C (Kd.int .i64) w A0_0 l0_0.length l0_0) (hc0_0 : l0_0.length ≤ c0_0) (h : impl_ballCode.f k l0_0 a1 a2 = some r) :
  Calls Try.prog 69 #[.agg #[.slice A0_0 l0_0.length c0_0], .int .i64 a1, .int .i64 a2] w fun e w' => e = .returned (.int .i64 r) ∧ Below w.heap.size w w' := by
 have hu26 := Try.underlying26
 have HR0_0 := Aside0.mk hr0_0
 have HC0_0 := Aside0.mk hc0_0
 clear hr0_0 hc0_0
 have HB := Aside0.mk (Below.refl w.heap.size w)
 have H : ((impl_wordCode.f k l0_0 (([a1] : List Int))).bind fun t105 => (if t105 = 0 then ((impl_isRadius.f a2).bind fun t106 => (if t106 = true then (some 0) else (some 2))) else (some t105))) = some r := h
 clear h
 obtain ⟨y102, hy102⟩ : ∃ y_ : List Int, y_ = (([a1] : List Int)) := ⟨_, rfl⟩
 replace H : ((impl_wordCode.f k l0_0 y102).bind fun t105 => (if t105 = 0 then ((impl_isRadius.f a2).bind fun t106 => (if t106 = true then (some 0) else (some 2))) else (some t105))) = some r := y_ H
 have Ny102 := Aside0.mk hy102
 clear hy102
 replace H := Option.bind_eq_some_iff.mp H
 obtain ⟨t105, A40, H⟩ := H
 replace H : (if t105 = 0 then ((impl_isRadius.f a2).bind fun t106 => (if t106 = true then (some 0) else (some 2))) else (some t105)) = some r := H
 have A4 := Aside0.mk A40
 clear A40
 by_cases c5 : t105 = 0
 rotate_left
 ·rw [if_neg c5] at H
  have c5b0 : (t105 == 0) = false := beq_eq_false_iff_ne.mpr c5
  have c5b1 : (t105 != 0) = true := bne_iff_ne.mpr c5
  obtain rfl := Option.some.inj H
  go_enter Try.func69, Try.ntmps69
  go_wp2_with (first | ((with_reducible refine gate_dst (N := 3) rfl ?_); refine bx_ (N := 3) (cs := #[.slice A0_0 l0_0.length c0_0]) (t := 26) rfl rfl ?_; intro gb101 hg w20 hbox hb; have n0_ := b1_ HB hb; have n1_ := Aside0.mk (hbox); have n2_ := ge_ hg HB; have n3_ := ge_ hg HB; clear HB; have HB := n0_; have BK101 := n1_; have GW101 := n2_; have GE101 := n3_; clear n0_ n1_ n2_ n3_ hb hbox hg; have hcz21_0 := hz_ BK101; have hfz21_0 := blk_frozen BK101.out 0) | ((with_reducible refine gate_dst (N := 10) rfl ?_); refine Kd.R_lit (Kd.int .i64) _ 2 ?hg (N := 10) ?hd (xs := ([a1] : List Int)) (inner := [.int .i64 a1]) (ok := fun _ => True) (okp := fun _ => True) ?hr ?hp (fun _ hk => hk) trivial (Below.refl _ _) (Nat.le_refl _) (by simp) ?_; (case hd => rfl); (case hg => rfl); (case hr => exact t3_); (case hp => exact (Reps.one (show Kd.M (Kd.int .i64) _ _ _ a1 [.int .i64 a1] from rfl) (Reps.none _ _))); intro v103 w22 ho23 hb hg_ hnew_; clear hg_ hnew_; (first | rw [← Ny102.out] at ho23 | (simp only [Int.reduceToNat] at ho23; rw [← Ny102.out] at ho23)); have n0_ := Aside0.mk (Kd.R_lower ho23 (below_size (gb_ HB.out))); have n1_ := a2_ BK101 hb; have n2_ := b1_ HB hb; clear BK101 HB; have HO104 := n0_; have BK101 := n1_; have HB := n2_; clear n0_ n1_ n2_ hb ho23; obtain ⟨Ao24, co24, eo24⟩ := Kd.R_slice HO104.out; subst eo24) | ((with_reducible refine gate_callee (f := 56) rfl ?_); refine gl_ (some 11) rfl rfl Try.func56 #[.agg #[.slice A0_0 l0_0.length c0_0], .slice Ao24 y102.length co24] rfl ?_; (with_reducible refine (impl_wordCode.calls k _ _ l0_0 _ _ y102 t105 _ ?side1 ?side2 ?side3 ?side4 A4.out).mono ?_); (case side1 => exact c2_ HR0_0 HB); (case side2 => exact HC0_0.out); (case side3 => exact c1_ HO104); (case side4 => exact (Kd.R_reads' HO104.out).2.1); rintro e w25 ⟨rfl, hb⟩; refine ⟨_, rfl, ?_⟩; replace HO104 := a1_ HO104 hb; replace BK101 := a2_ BK101 hb; replace HB := b1_ HB hb; (try clear hb); (try clear hb2); (try clear hk); (try clear hi)))
  go_ret
  exact ⟨t5_, gb_ HB.out⟩

 rw [if_pos c5] at H
 have c5b0 : (t105 == 0) = true := beq_iff_eq.mpr c5
 have c5b1 : (t105 != 0) = false := bne_eq_false_iff_eq.mpr c5
 clear c5
 replace H := Option.bind_eq_some_iff.mp H
 obtain ⟨t106, A60, H⟩ := H
 replace H : (if t106 = true then (some 0) else (some 2)) = some r := H
 have A6 := Aside0.mk A60
 clear A60
 by_cases c7 : t106 = true
 ·subst c7
  have H1 : (some 0) = some r := by rw [if_pos rfl] at H; exact H
  clear H
  have H := H1
  clear H1
  obtain rfl := Option.some.inj H
  go_enter Try.func69, Try.ntmps69
  go_wp2_with (first | ((with_reducible refine gate_dst (N := 3) rfl ?_); refine bx_ (N := 3) (cs := #[.slice A0_0 l0_0.length c0_0]) (t := 26) rfl rfl ?_; intro gb101 hg w8 hbox hb; have n0_ := b1_ HB hb; have n1_ := Aside0.mk (hbox); have n2_ := ge_ hg HB; have n3_ := ge_ hg HB; clear HB; have HB := n0_; have BK101 := n1_; have GW101 := n2_; have GE101 := n3_; clear n0_ n1_ n2_ n3_ hb hbox hg; have hcz9_0 := hz_ BK101; have hfz9_0 := blk_frozen BK101.out 0) | ((with_reducible refine gate_dst (N := 10) rfl ?_); refine Kd.R_lit (Kd.int .i64) _ 2 ?hg (N := 10) ?hd (xs := ([a1] : List Int)) (inner := [.int .i64 a1]) (ok := fun _ => True) (okp := fun _ => True) ?hr ?hp (fun _ hk => hk) trivial (Below.refl _ _) (Nat.le_refl _) (by simp) ?_; (case hd => rfl); (case hg => rfl); (case hr => exact t3_); (case hp => exact (Reps.one (show Kd.M (Kd.int .i64) _ _ _ a1 [.int .i64 a1] from rfl) (Reps.none _ _))); intro v103 w10 ho11 hb hg_ hnew_; clear hg_ hnew_; (first | rw [← Ny102.out] at ho11 | (simp only [Int.reduceToNat] at ho11; rw [← Ny102.out] at ho11)); have n0_ := Aside0.mk (Kd.R_lower ho11 (below_size (gb_ HB.out))); have n1_ := a2_ BK101 hb; have n2_ := b1_ HB hb; clear BK101 HB; have HO104 := n0_; have BK101 := n1_; have HB := n2_; clear n0_ n1_ n2_ hb ho11; obtain ⟨Ao12, co12, eo12⟩ := Kd.R_slice HO104.out; subst eo12) | ((with_reducible refine gate_callee (f := 56) rfl ?_); refine gl_ (some 11) rfl rfl Try.func56 #[.agg #[.slice A0_0 l0_0.length c0_0], .slice Ao12 y102.length co12] rfl ?_; (with_reducible refine (impl_wordCode.calls k _ _ l0_0 _ _ y102 t105 _ ?side1 ?side2 ?side3 ?side4 A4.out).mono ?_); (case side1 => exact c2_ HR0_0 HB); (case side2 => exact HC0_0.out); (case side3 => exact c1_ HO104); (case side4 => exact (Kd.R_reads' HO104.out).2.1); rintro e w13 ⟨rfl, hb⟩; refine ⟨_, rfl, ?_⟩; replace HO104 := a1_ HO104 hb; replace BK101 := a2_ BK101 hb; replace HB := b1_ HB hb; (try clear hb); (try clear hb2); (try clear hk); (try clear hi)) | ((with_reducible refine gate_callee (f := 112) rfl ?_); refine gl_ (some 16) rfl rfl Try.func112 #[.int .i64 a2] rfl ?_; (with_reducible refine (impl_isRadius.calls a2 true _ A6.out).mono ?_); rintro e w' ⟨rfl, ⟨nd, rfl⟩⟩; refine ⟨_, rfl, ?_⟩))
  go_ret
  exact ⟨t5_, gb_ HB.out⟩
 replace c7 := Bool.eq_false_iff.mpr c7
 subst c7
 have H1 : (some 2) = some r := by rw [if_neg (show ¬ (false = true) by decide)] at H; exact H
 clear H
 have H := H1
 clear H1
 obtain rfl := Option.some.inj H
 go_enter Try.func69, Try.ntmps69
 go_wp2_with (first | ((with_reducible refine gate_dst (N := 3) rfl ?_); refine bx_ (N := 3) (cs := #[.slice A0_0 l0_0.length c0_0]) (t := 26) rfl rfl ?_; intro gb101 hg w14 hbox hb; have n0_ := b1_ HB hb; have n1_ := Aside0.mk (hbox); have n2_ := ge_ hg HB; have n3_ := ge_ hg HB; clear HB; have HB := n0_; have BK101 := n1_; have GW101 := n2_; have GE101 := n3_; clear n0_ n1_ n2_ n3_ hb hbox hg; have hcz15_0 := hz_ BK101; have hfz15_0 := blk_frozen BK101.out 0) | ((with_reducible refine gate_dst (N := 10) rfl ?_); refine Kd.R_lit (Kd.int .i64) _ 2 ?hg (N := 10) ?hd (xs := ([a1] : List Int)) (inner := [.int .i64 a1]) (ok := fun _ => True) (okp := fun _ => True) ?hr ?hp (fun _ hk => hk) trivial (Below.refl _ _) (Nat.le_refl _) (by simp) ?_; (case hd => rfl); (case hg => rfl); (case hr => exact t3_); (case hp => exact (Reps.one (show Kd.M (Kd.int .i64) _ _ _ a1 [.int .i64 a1] from rfl) (Reps.none _ _))); intro v103 w16 ho17 hb hg_ hnew_; clear hg_ hnew_; (first | rw [← Ny102.out] at ho17 | (simp only [Int.reduceToNat] at ho17; rw [← Ny102.out] at ho17)); have n0_ := Aside0.mk (Kd.R_lower ho17 (below_size (gb_ HB.out))); have n1_ := a2_ BK101 hb; have n2_ := b1_ HB hb; clear BK101 HB; have HO104 := n0_; have BK101 := n1_; have HB := n2_; clear n0_ n1_ n2_ hb ho17; obtain ⟨Ao18, co18, eo18⟩ := Kd.R_slice HO104.out; subst eo18) | ((with_reducible refine gate_callee (f := 56) rfl ?_); refine gl_ (some 11) rfl rfl Try.func56 #[.agg #[.slice A0_0 l0_0.length c0_0], .slice Ao18 y102.length co18] rfl ?_; (with_reducible refine (impl_wordCode.calls k _ _ l0_0 _ _ y102 t105 _ ?side1 ?side2 ?side3 ?side4 A4.out).mono ?_); (case side1 => exact c2_ HR0_0 HB); (case side2 => exact HC0_0.out); (case side3 => exact c1_ HO104); (case side4 => exact (Kd.R_reads' HO104.out).2.1); rintro e w19 ⟨rfl, hb⟩; refine ⟨_, rfl, ?_⟩; replace HO104 := a1_ HO104 hb; replace BK101 := a2_ BK101 hb; replace HB := b1_ HB hb; (try clear hb); (try clear hb2); (try clear hk); (try clear hi)) | ((with_reducible refine gate_callee (f := 112) rfl ?_); refine gl_ (some 16) rfl rfl Try.func112 #[.int .i64 a2] rfl ?_; (with_reducible refine (impl_isRadius.calls a2 false _ A6.out).mono ?_); rintro e w' ⟨rfl, ⟨nd, rfl⟩⟩; refine ⟨_, rfl, ?_⟩))
 go_ret
 exact ⟨t5_, gb_ HB.out⟩
def spec_ChangeDigit.j0 : Nat → Int → Int → Int → Bool → List Int → Option (Int × Int)
  | 0, _, _, _, _, _ => none
  | k + 1, x1, x2, x3, x36, x102000 => if x36 = true then (some (0, 2)) else ((spec_l01Digits.f k x102000 x1).bind fun t109 => (if 0 ≤ x2 then (if x2 < (t109.length : Int) then ((spec_l01Word.f k x102000 (t109.set (x2 : Int).toNat x3)).bind fun t113 => (some (t113, 0))) else (none)) else (none)))
def spec_ChangeDigit.f (k : Nat) (l0_0 : List Int) (a1 : Int) (a2 : Int) (a3 : Int) : Option (Int × Int) := (spec_l01Words.f k l0_0 (([a1] : List Int))).bind fun t105 => (if t105 = 0 then ((spec_l01In.f a2 0 (wrap64 ((l0_0.length : Int) - 1))).bind fun t106 => (if t106 = true then (if 0 ≤ a2 then (if a2 < (l0_0.length : Int) then ((spec_l01In.f a3 0 (wrap64 ((rd l0_0 a2) - 1))).bind fun t108 => (spec_ChangeDigit.j0 k a1 a2 a3 (!t108) l0_0)) else (none)) else (none)) else (spec_ChangeDigit.j0 k a1 a2 a3 true l0_0))) else (some (0, t105)))
set_option maxHeartbeats 8000000 in
set_option maxRecDepth 100000 in
theorem spec_ChangeDigit.calls (k : Nat) (A0_0 : Option Addr) (c0_0 : Nat) (l0_0 : List Int) (a1 : Int) (a2 : Int) (a3 : Int) (r1 : Int) (r2 : Int) (w : World) (hr0_0 : Kd.C (Kd.int .i64) w A0_0 l0_0.length l0_0) (hc0_0 : l0_0.length ≤ c0_0) (h : spec_ChangeDigit.f k l0_0 a1 a2 a3 = some (r1, r2)) :
  Calls Try.prog 32 #[.agg #[.slice A0_0 l0_0.length c0_0], .int .i64 a1, .int .i64 a2, .int .i64 a3] w fun e w' => e = .returned (.tuple #[.int .i64 r1, .int .i64 r2]) ∧ Below w.heap.size w w' := by
 have hu26 := Try.underlying26
 have HR0_0 := Aside0.mk hr0_0
 have HC0_0 := Aside0.mk hc0_0
 clear hr0_0 hc0_0
 have HB := Aside0.mk (Below.refl w.heap.size w)
 have H : ((spec_l01Words.f k l0_0 (([a1] : List Int))).bind fun t105 => (if t105 = 0 then ((spec_l01In.f a2 0 (wrap64 ((l0_0.length : Int) - 1))).bind fun t106 => (if t106 = true then (if 0 ≤ a2 then (if a2 < (l0_0.length : Int) then ((spec_l01In.f a3 0 (wrap64 ((rd l0_0 a2) - 1))).bind fun t108 => (spec_ChangeDigit.j0 k a1 a2 a3 (!t108) l0_0)) else (none)) else (none)) else (spec_ChangeDigit.j0 k a1 a2 a3 true l0_0))) else (some (0, t105)))) = some (r1, r2) := h
 clear h
 obtain ⟨y102, hy102⟩ : ∃ y_ : List Int, y_ = (([a1] : List Int)) := ⟨_, rfl⟩
 replace H : ((spec_l01Words.f k l0_0 y102).bind fun t105 => (if t105 = 0 then ((spec_l01In.f a2 0 (wrap64 ((l0_0.length : Int) - 1))).bind fun t106 => (if t106 = true then (if 0 ≤ a2 then (if a2 < (l0_0.length : Int) then ((spec_l01In.f a3 0 (wrap64 ((rd l0_0 a2) - 1))).bind fun t108 => (spec_ChangeDigit.j0 k a1 a2 a3 (!t108) l0_0)) else (none)) else (none)) else (spec_ChangeDigit.j0 k a1 a2 a3 true l0_0))) else (some (0, t105)))) = some (r1, r2) := y_ H
 have Ny102 := Aside0.mk hy102
 clear hy102
 replace H := Option.bind_eq_some_iff.mp H
 obtain ⟨t105, A50, H⟩ := H
 replace H : (if t105 = 0 then ((spec_l01In.f a2 0 (wrap64 ((l0_0.length : Int) - 1))).bind fun t106 => (if t106 = true then (if 0 ≤ a2 then (if a2 < (l0_0.length : Int) then ((spec_l01In.f a3 0 (wrap64 ((rd l0_0 a2) - 1))).bind fun t108 => (spec_ChangeDigit.j0 k a1 a2 a3 (!t108) l0_0)) else (none)) else (none)) else (spec_ChangeDigit.j0 k a1 a2 a3 true l0_0))) else (some (0, t105))) = some (r1, r2) := H
 have A5 := Aside0.mk A50
 clear A50
 by_cases c6 : t105 = 0
 rotate_left
 ·rw [if_neg c6] at H
  have c6b0 : (t105 == 0) = false := beq_eq_false_iff_ne.mpr c6
  have c6b1 : (t105 != 0) = true := bne_iff_ne.mpr c6
  simp only [Option.some.injEq, Prod.mk.injEq] at H
  obtain ⟨rfl, rfl⟩ := H
  go_enter Try.func32, Try.ntmps32
  go_wp2_with (first | ((with_reducible refine gate_dst (N := 4) rfl ?_); refine bx_ (N := 4) (cs := #[.slice A0_0 l0_0.length c0_0]) (t := 26) rfl rfl ?_; intro gb101 hg w33 hbox hb; have n0_ := b1_ HB hb; have n1_ := Aside0.mk (hbox); have n2_ := ge_ hg HB; have n3_ := ge_ hg HB; clear HB; have HB := n0_; have BK101 := n1_; have GW101 := n2_; have GE101 := n3_; clear n0_ n1_ n2_ n3_ hb hbox hg; have hcz34_0 := hz_ BK101; have hfz34_0 := blk_frozen BK101.out 0) | ((with_reducible refine gate_dst (N := 14) rfl ?_); refine Kd.R_lit (Kd.int .i64) _ 2 ?hg (N := 14) ?hd (xs := ([a1] : List Int)) (inner := [.int .i64 a1]) (ok := fun _ => True) (okp := fun _ => True) ?hr ?hp (fun _ hk => hk) trivial (Below.refl _ _) (Nat.le_refl _) (by simp) ?_; (case hd => rfl); (case hg => rfl); (case hr => exact t3_); (case hp => exact (Reps.one (show Kd.M (Kd.int .i64) _ _ _ a1 [.int .i64 a1] from rfl) (Reps.none _ _))); intro v103 w35 ho36 hb hg_ hnew_; clear hg_ hnew_; (first | rw [← Ny102.out] at ho36 | (simp only [Int.reduceToNat] at ho36; rw [← Ny102.out] at ho36)); have n0_ := Aside0.mk (Kd.R_lower ho36 (below_size (gb_ HB.out))); have n1_ := a2_ BK101 hb; have n2_ := b1_ HB hb; clear BK101 HB; have HO104 := n0_; have BK101 := n1_; have HB := n2_; clear n0_ n1_ n2_ hb ho36; obtain ⟨Ao37, co37, eo37⟩ := Kd.R_slice HO104.out; subst eo37) | ((with_reducible refine gate_callee (f := 58) rfl ?_); refine gl_ (some 15) rfl rfl Try.func58 #[.agg #[.slice A0_0 l0_0.length c0_0], .slice Ao37 y102.length co37] rfl ?_; (with_reducible refine (spec_l01Words.calls k _ _ l0_0 _ _ y102 t105 _ ?side1 ?side2 ?side3 ?side4 A5.out).mono ?_); (case side1 => exact c2_ HR0_0 HB); (case side2 => exact HC0_0.out); (case side3 => exact c1_ HO104); (case side4 => exact (Kd.R_reads' HO104.out).2.1); rintro e w38 ⟨rfl, hb⟩; refine ⟨_, rfl, ?_⟩; replace HO104 := a1_ HO104 hb; replace BK101 := a2_ BK101 hb; replace HB := b1_ HB hb; (try clear hb); (try clear hb2); (try clear hk); (try clear hi)))
  go_ret2
  exact ⟨t5_, gb_ HB.out⟩

 rw [if_pos c6] at H
 have c6b0 : (t105 == 0) = true := beq_iff_eq.mpr c6
 have c6b1 : (t105 != 0) = false := bne_eq_false_iff_eq.mpr c6
 clear c6
 have HC7 := Aside0.mk H
 clear H
 go_enter Try.func32, Try.ntmps32
 go_upto_region 4 with (first | ((with_reducible refine gate_dst (N := 4) rfl ?_); refine bx_ (N := 4) (cs := #[.slice A0_0 l0_0.length c0_0]) (t := 26) rfl rfl ?_; intro gb101 hg w8 hbox hb; have n0_ := b1_ HB hb; have n1_ := Aside0.mk (hbox); have n2_ := ge_ hg HB; have n3_ := ge_ hg HB; clear HB; have HB := n0_; have BK101 := n1_; have GW101 := n2_; have GE101 := n3_; clear n0_ n1_ n2_ n3_ hb hbox hg; have hcz9_0 := hz_ BK101; have hfz9_0 := blk_frozen BK101.out 0) | ((with_reducible refine gate_dst (N := 14) rfl ?_); refine Kd.R_lit (Kd.int .i64) _ 2 ?hg (N := 14) ?hd (xs := ([a1] : List Int)) (inner := [.int .i64 a1]) (ok := fun _ => True) (okp := fun _ => True) ?hr ?hp (fun _ hk => hk) trivial (Below.refl _ _) (Nat.le_refl _) (by simp) ?_; (case hd => rfl); (case hg => rfl); (case hr => exact t3_); (case hp => exact (Reps.one (show Kd.M (Kd.int .i64) _ _ _ a1 [.int .i64 a1] from rfl) (Reps.none _ _))); intro v103 w10 ho11 hb hg_ hnew_; clear hg_ hnew_; (first | rw [← Ny102.out] at ho11 | (simp only [Int.reduceToNat] at ho11; rw [← Ny102.out] at ho11)); have n0_ := Aside0.mk (Kd.R_lower ho11 (below_size (gb_ HB.out))); have n1_ := a2_ BK101 hb; have n2_ := b1_ HB hb; clear BK101 HB; have HO104 := n0_; have BK101 := n1_; have HB := n2_; clear n0_ n1_ n2_ hb ho11; obtain ⟨Ao12, co12, eo12⟩ := Kd.R_slice HO104.out; subst eo12) | ((with_reducible refine gate_callee (f := 58) rfl ?_); refine gl_ (some 15) rfl rfl Try.func58 #[.agg #[.slice A0_0 l0_0.length c0_0], .slice Ao12 y102.length co12] rfl ?_; (with_reducible refine (spec_l01Words.calls k _ _ l0_0 _ _ y102 t105 _ ?side1 ?side2 ?side3 ?side4 A5.out).mono ?_); (case side1 => exact c2_ HR0_0 HB); (case side2 => exact HC0_0.out); (case side3 => exact c1_ HO104); (case side4 => exact (Kd.R_reads' HO104.out).2.1); rintro e w13 ⟨rfl, hb⟩; refine ⟨_, rfl, ?_⟩; replace HO104 := a1_ HO104 hb; replace BK101 := a2_ BK101 hb; replace HB := b1_ HB hb; (try clear hb); (try clear hb2); (try clear hk); (try clear hi)))
 (try simp only [Act.put, List.setIfInBounds_toArray, List.set_cons_zero, List.set_cons_succ])
 go_cut [36] (fun cs_36 wc => ∃ (kq : Nat) (x36_6 : Bool), cs_36 = .bool x36_6 ∧ Aside0 (spec_ChangeDigit.j0 kq a1 a2 a3 x36_6 l0_0 = some (r1, r2)) ∧ Aside0 (kq ≤ k) ∧ Aside0 (wc.heap[gb101]? = some (.cells #[(.slice A0_0 l0_0.length c0_0)] 26 (0, 0))) ∧ Aside0 (Below w.heap.size w wc))
 case first =>
  have H := HC7.out
  clear HC7
  replace H := Option.bind_eq_some_iff.mp H
  obtain ⟨t106, A140, H⟩ := H
  replace H : (if t106 = true then (if 0 ≤ a2 then (if a2 < (l0_0.length : Int) then ((spec_l01In.f a3 0 (wrap64 ((rd l0_0 a2) - 1))).bind fun t108 => (spec_ChangeDigit.j0 k a1 a2 a3 (!t108) l0_0)) else (none)) else (none)) else (spec_ChangeDigit.j0 k a1 a2 a3 true l0_0)) = some (r1, r2) := H
  have A14 := Aside0.mk A140
  clear A140
  by_cases c15 : t106 = true
  rotate_left
  ·replace c15 := Bool.eq_false_iff.mpr c15
   subst c15
   have H1 : (spec_ChangeDigit.j0 k a1 a2 a3 true l0_0) = some (r1, r2) := by rw [if_neg (show ¬ (false = true) by decide)] at H; exact H
   clear H
   have H := H1
   clear H1
   have H' := Aside0.mk H
   clear H
   have hcz20_0 := hz_ BK101
   have hfz20_0 := blk_frozen BK101.out 0
   go_wp2_with (first | ((with_reducible refine gate_callee (f := 84) rfl ?_); refine gl_ (some 24) rfl rfl Try.func84 #[.int .i64 a2, .int .i64 0, .int .i64 (wrap64 ((l0_0.length : Int) - 1))] rfl ?_; (with_reducible refine (spec_l01In.calls a2 0 (wrap64 ((l0_0.length : Int) - 1)) false _ A14.out).mono ?_); rintro e w' ⟨rfl, ⟨nd, rfl⟩⟩; refine ⟨_, rfl, ?_⟩))
   go_meet
   case rel => exact ⟨_, (true), t2_, H', ⟨by first | omega | exact Nat.le_refl _⟩, ⟨bb_ BK101.out⟩, ⟨gb_ HB.out⟩⟩
  subst c15
  have H1 : (if 0 ≤ a2 then (if a2 < (l0_0.length : Int) then ((spec_l01In.f a3 0 (wrap64 ((rd l0_0 a2) - 1))).bind fun t108 => (spec_ChangeDigit.j0 k a1 a2 a3 (!t108) l0_0)) else (none)) else (none)) = some (r1, r2) := by rw [if_pos rfl] at H; exact H
  clear H
  have H := H1
  clear H1
  by_cases c16 : 0 ≤ a2
  rotate_left
  ·rw [if_neg c16] at H
   exact absurd H (by simp)
  rw [if_pos c16] at H
  have c16b0 : decide (0 ≤ a2) = true := decide_eq_true c16
  clear c16
  (first | rw [c16b0] | (simp only [i64_w, i32_w]; rw [c16b0]) | skip)
  by_cases c17 : a2 < (l0_0.length : Int)
  rotate_left
  ·rw [if_neg c17] at H
   exact absurd H (by simp)
  rw [if_pos c17] at H
  have c17b0 : decide (a2 < (l0_0.length : Int)) = true := decide_eq_true c17
  clear c17
  replace H := Option.bind_eq_some_iff.mp H
  obtain ⟨t108, A180, H⟩ := H
  replace H : (spec_ChangeDigit.j0 k a1 a2 a3 (!t108) l0_0) = some (r1, r2) := H
  have A18 := Aside0.mk A180
  clear A180
  have H' := Aside0.mk H
  clear H
  have hcz19_0 := hz_ BK101
  have hfz19_0 := blk_frozen BK101.out 0
  go_wp2_with (first | ((with_reducible refine gate_callee (f := 84) rfl ?_); refine gl_ (some 24) rfl rfl Try.func84 #[.int .i64 a2, .int .i64 0, .int .i64 (wrap64 ((l0_0.length : Int) - 1))] rfl ?_; (with_reducible refine (spec_l01In.calls a2 0 (wrap64 ((l0_0.length : Int) - 1)) true _ A14.out).mono ?_); rintro e w' ⟨rfl, ⟨nd, rfl⟩⟩; refine ⟨_, rfl, ?_⟩; have p107 : 0 ≤ (a2 : Int) := of_decide_eq_true t6_; have q107 : a2 < (l0_0.length : Int) := of_decide_eq_true t6_; obtain ⟨ad107, e107, hx107_0⟩ := Kd.at_int HR0_0.out a2 p107 q107; cases e107; replace hx107_0 := (HB.out.cell (World.block_lt_of_cell? _ _ hx107_0)).trans hx107_0; replace p107 := eq_true p107; replace q107 := eq_true q107) | (go_at_call 84; (with_reducible refine (spec_l01In.calls a3 0 (wrap64 ((rd l0_0 a2) - 1)) t108 _ A18.out).mono ?_); rintro e w' ⟨rfl, ⟨nd, rfl⟩⟩))
  go_meet
  case rel => exact ⟨_, (!t108), t2_, H', ⟨by first | omega | exact Nat.le_refl _⟩, ⟨bb_ BK101.out⟩, ⟨gb_ HB.out⟩⟩
 clear HC7
 try clear c1
 try clear p1
 try clear q1
 try clear hx1
 try clear p2
 try clear c3
 try clear c5
 try clear c6
 try clear c6b0
 try clear c6b1
 try clear p6
 try clear c8
 try clear p10
 try clear q10
 try clear hx10
 try clear c15
 try clear c16
 try clear c16b0
 try clear c17
 try clear c17b0
 try clear hcz19_0
 try clear hcz20_0
 try clear hcz9_0
 try clear hfz19_0
 try clear hfz20_0
 try clear hfz9_0
 try clear hx107_0
 try clear p107
 try clear q107
 obtain ⟨kq, x36_6, rfl, HA, HJ6, BK101, HB⟩ := hcut
 cases kq with
 | zero => exact absurd HA.out (by simp [spec_ChangeDigit.j0])
 | succ kj6 =>
  have H := HA.out
  clear HA
  simp only [spec_ChangeDigit.j0] at H
  by_cases c21 : x36_6 = true
  ·subst c21
   have H1 : (some (0, 2)) = some (r1, r2) := by rw [if_pos rfl] at H; exact H
   clear H
   have H := H1
   clear H1
   simp only [Option.some.injEq, Prod.mk.injEq] at H
   obtain ⟨rfl, rfl⟩ := H
   go_wp2
   go_ret2
   exact ⟨t5_, gb_ HB.out⟩
  replace c21 := Bool.eq_false_iff.mpr c21
  subst c21
  have H1 : ((spec_l01Digits.f kj6 l0_0 a1).bind fun t109 => (if 0 ≤ a2 then (if a2 < (t109.length : Int) then ((spec_l01Word.f kj6 l0_0 (t109.set (a2 : Int).toNat a3)).bind fun t113 => (some (t113, 0))) else (none)) else (none))) = some (r1, r2) := by rw [if_neg (show ¬ (false = true) by decide)] at H; exact H
  clear H
  have H := H1
  clear H1
  replace H := Option.bind_eq_some_iff.mp H
  obtain ⟨t109, A220, H⟩ := H
  replace H : (if 0 ≤ a2 then (if a2 < (t109.length : Int) then ((spec_l01Word.f kj6 l0_0 (t109.set (a2 : Int).toNat a3)).bind fun t113 => (some (t113, 0))) else (none)) else (none)) = some (r1, r2) := H
  have A22 := Aside0.mk A220
  clear A220
  by_cases c23 : 0 ≤ a2
  rotate_left
  ·rw [if_neg c23] at H
   exact absurd H (by simp)
  rw [if_pos c23] at H
  have c23b0 : decide (0 ≤ a2) = true := decide_eq_true c23
  clear c23
  by_cases c24 : a2 < (t109.length : Int)
  rotate_left
  ·rw [if_neg c24] at H
   exact absurd H (by simp)
  rw [if_pos c24] at H
  have c24b0 : decide (a2 < (t109.length : Int)) = true := decide_eq_true c24
  clear c24
  obtain ⟨y112, hy112⟩ : ∃ y_ : List Int, y_ = (t109.set (a2 : Int).toNat a3) := ⟨_, rfl⟩
  replace H : ((spec_l01Word.f kj6 l0_0 y112).bind fun t113 => (some (t113, 0))) = some (r1, r2) := y_ H
  have Ny112 := Aside0.mk hy112
  clear hy112
  replace H := Option.bind_eq_some_iff.mp H
  obtain ⟨t113, A260, H⟩ := H
  replace H : (some (t113, 0)) = some (r1, r2) := H
  have A26 := Aside0.mk A260
  clear A260
  simp only [Option.some.injEq, Prod.mk.injEq] at H
  obtain ⟨rfl, rfl⟩ := H
  have hcz27_0 := hz_ BK101
  have hfz27_0 := blk_frozen BK101.out 0
  go_wp2_with (first | ((with_reducible refine gate_callee (f := 65) rfl ?_); refine gl_ (some 39) rfl rfl Try.func65 #[.agg #[.slice A0_0 l0_0.length c0_0], .int .i64 a1] rfl ?_; (with_reducible refine (spec_l01Digits.calls kj6 _ _ l0_0 a1 t109 _ ?side1 ?side2 A22.out).mono ?_); (case side1 => exact c2_ HR0_0 HB); (case side2 => exact HC0_0.out); rintro e w28 ⟨v110, rfl, ho0, hb⟩; refine ⟨_, rfl, ?_⟩; have HO111 := Aside0.mk (Kd.R_lower ho0 (below_size (gb_ HB.out))); replace BK101 := a2_ BK101 hb; replace HB := b1_ HB hb; (try clear hb); (try clear hb2); (try clear hk); (try clear hi); (try clear ho0); have p25 : 0 ≤ (a2 : Int) := of_decide_eq_true t6_; have q25 : (a2 : Int) < ((t109.length : Int) : Int) := of_decide_eq_true t6_; obtain ⟨go25, co25, eo25, gb25, gl25, cl25, HG25⟩ := Kd.R_form HO111.out (by omega); (first | cases eo25 | (injection eo25 with ea_ en_ ec_; (first | subst ea_ | (injection ea_ with ea_; subst ea_)); subst ec_; clear en_)); have GB25 := Aside0.mk gb25; have GG25 := Aside0.mk HG25; clear gb25 gl25 HG25; obtain ⟨hx25_0, hf25_0⟩ := Kd.R_celln 0 HO111.out (a2 : Int) p25 q25; replace p25 := eq_true p25; replace q25 := eq_true q25; obtain ⟨hy29_, hz29_⟩ := Kd.R_celln 0 HO111.out (a2 : Int) (of_decide_eq_true t6_) (of_decide_eq_true t6_); have HP29 := Kd.R_putg HO111.out (a2 : Int) a3) | ((with_reducible refine gate_store (t := 2) (p := 43) rfl ?_); refine store_event (t := 2) (p := 43) (v := ?vo_w30) (w1 := (w28.setCell ⟨go25, (a2 : Int).toNat, none⟩ (.int .i64 a3))) ?hg ?ho ?hn ?hr ?_; (case ho => rfl); (case hg => rfl); (case hn => rfl); (case hr => exact t3_); intro w30 hw; have hg : w28.grownBy w30 (some go25) := (by rw [hw]; exact HP29.2); have hp_ : Kd.R (Kd.int .i64) 2 w30 w.heap.size (fun _ => True) (.slice (some ⟨go25, 0, none⟩) t109.length co25) y112 := (by rw [hw, Ny112.out]; exact HP29.1); clear HP29; have n0_ := Aside0.mk (blk_grown (g := gb101) (o := .cells #[.slice A0_0 l0_0.length c0_0] 26 (0, 0)) (bb_ BK101.out) hg (Kd.R_ne HO111.out BK101.out (by decide))); have n1_ := Aside0.mk (hp_); have n2_ := Aside0.mk ((by rw [hw]; exact below_set (HB.out) GB25.out : Below w.heap.size w w30)); clear BK101 HO111 HB; have BK101 := n0_; have HO111 := n1_; have HB := n2_; clear n0_ n1_ n2_ hg hw hp_; have hcz31_0 := hz_ BK101; have hfz31_0 := blk_frozen BK101.out 0) | ((with_reducible refine gate_callee (f := 66) rfl ?_); refine goesL_ (some 46) rfl rfl Try.func66 (by kernel_rfl) rfl #[.agg #[.slice A0_0 l0_0.length c0_0], .slice (some ⟨go25, 0, none⟩) y112.length co25] rfl (by (try simp only [List.map_toArray, List.map_cons, List.map_nil]); first | done | (rw [show y112.length = t109.length from (Kd.R_reads' HO111.out).1.symm] <;> rfl) | rfl | (simp only [List.length_drop, List.length_take]; rfl)) ?_; (with_reducible refine (spec_l01Word.calls kj6 _ _ l0_0 _ _ y112 t113 _ ?side1 ?side2 ?side3 ?side4 A26.out).mono ?_); (case side1 => exact c2_ HR0_0 HB); (case side2 => exact HC0_0.out); (case side3 => exact c1_ HO111); (case side4 => rw [show y112.length = t109.length from (Kd.R_reads' HO111.out).1.symm]; exact (Kd.R_reads' HO111.out).2.1); rintro e w32 ⟨rfl, hb⟩; refine ⟨_, rfl, ?_⟩; replace HO111 := a1_ HO111 hb; replace BK101 := a2_ BK101 hb; replace HB := b1_ HB hb; (try clear hb); (try clear hb2); (try clear hk); (try clear hi)))
  go_ret2
  exact ⟨t5_, gb_ HB.out⟩
def spec_l01Near.f (s0_0 : List Int) (s0_1 : Int) (s0_2 : Int) (a1 : Int) : Option (Int × Int × Int) := (spec_l01Next.f s0_0 s0_1 s0_2 14).bind fun bt101 => (if bt101.1 = 0 then ((spec_l01Pick.f s0_0 bt101.2.1 bt101.2.2 (([(-1), wrap64 (a1 + 1), 1099511627776, (-4611686018427387904)] : List Int))).bind fun bt107 => (some (bt107.1, bt107.2.1, bt107.2.2))) else ((spec_l01Next.f s0_0 bt101.2.1 bt101.2.2 (wrap64 (a1 + 1))).bind fun bt110 => (some (bt110.1, bt110.2.1, bt110.2.2))))
set_option maxHeartbeats 8000000 in
set_option maxRecDepth 100000 in
theorem spec_l01Near.calls (g : Nat) (s0_0 : List Int) (s0_1 : Int) (s0_2 : Int) (a1 : Int) (r1 : Int) (r2 : Int) (r3 : Int) (w0 w : World) (hI : IsS91 w0 w g s0_0 s0_1 s0_2) (hB : Below w0.heap.size w0 w) (h : spec_l01Near.f s0_0 s0_1 s0_2 a1 = some (r1, r2, r3)) :
  Calls Try.prog 80 #[.pointer (some ⟨g, 0, none⟩), .int .i64 a1] w fun e w' => e = .returned (.int .i64 r1) ∧ IsS91 w0 w' g s0_0 r2 r3 ∧ Below w0.heap.size w0 w' ∧ KeepBut w w' g none := by
 have HI0 := Aside0.mk hI
 have HK := Aside0.mk (KeepBut.refl w g none)
 have HL := Aside0.mk hB.size
 clear hI
 have HW0 := Aside0.mk hB.size
 have HB := Aside0.mk hB
 clear hB
 have H : ((spec_l01Next.f s0_0 s0_1 s0_2 14).bind fun bt101 => (if bt101.1 = 0 then ((spec_l01Pick.f s0_0 bt101.2.1 bt101.2.2 (([(-1), wrap64 (a1 + 1), 1099511627776, (-4611686018427387904)] : List Int))).bind fun bt107 => (some (bt107.1, bt107.2.1, bt107.2.2))) else ((spec_l01Next.f s0_0 bt101.2.1 bt101.2.2 (wrap64 (a1 + 1))).bind fun bt110 => (some (bt110.1, bt110.2.1, bt110.2.2))))) = some (r1, r2, r3) := h
 clear h
 replace H := Option.bind_eq_some_iff.mp H
 obtain ⟨⟨t101, t102, t103⟩, A30, H⟩ := H
 replace H : (if t101 = 0 then ((spec_l01Pick.f s0_0 t102 t103 (([(-1), wrap64 (a1 + 1), 1099511627776, (-4611686018427387904)] : List Int))).bind fun bt107 => (some (bt107.1, bt107.2.1, bt107.2.2))) else ((spec_l01Next.f s0_0 t102 t103 (wrap64 (a1 + 1))).bind fun bt110 => (some (bt110.1, bt110.2.1, bt110.2.2)))) = some (r1, r2, r3) := H
 have A3 := Aside0.mk A30
 clear A30
 by_cases c4 : t101 = 0
 rotate_left
 ·rw [if_neg c4] at H
  have c4b0 : (t101 == 0) = false := beq_eq_false_iff_ne.mpr c4
  have c4b1 : (t101 != 0) = true := bne_iff_ne.mpr c4
  replace H := Option.bind_eq_some_iff.mp H
  obtain ⟨⟨t110, t111, t112⟩, A110, H⟩ := H
  replace H : (some (t110, t111, t112)) = some (r1, r2, r3) := H
  have A11 := Aside0.mk A110
  clear A110
  simp only [Option.some.injEq, Prod.mk.injEq] at H
  obtain ⟨rfl, rfl, rfl⟩ := H
  go_enter Try.func80, Try.ntmps80
  go_wp2_with (first | ((with_reducible refine gate_callee (f := 85) rfl ?_); refine gl_ (some 6) rfl rfl Try.func85 #[.pointer (some ⟨g, 0, none⟩), .int .i64 14] rfl ?_; (with_reducible refine (spec_l01Next.calls g s0_0 s0_1 s0_2 14 t101 t102 t103 w0 _ ?side1 ?side2 A3.out).mono ?_); (case side1 => exact i_ HI0); (case side2 => exact gb_ HB.out); rintro e w12 ⟨rfl, hi, hb, hk⟩; refine ⟨_, rfl, ?_⟩; replace HK := Aside0.mk (KeepBut.trans (kb_ HK) hk (.inl rfl)); replace HB := Aside0.mk (hb); replace HI0 := Aside0.mk (hi); (try clear hb); (try clear hb2); (try clear hk); (try clear hi)) | ((with_reducible refine gate_callee (f := 85) rfl ?_); refine gl_ (some 16) rfl rfl Try.func85 #[.pointer (some ⟨g, 0, none⟩), .int .i64 (wrap64 (a1 + 1))] rfl ?_; (with_reducible refine (spec_l01Next.calls g s0_0 t102 t103 (wrap64 (a1 + 1)) t110 t111 t112 w0 _ ?side1 ?side2 A11.out).mono ?_); (case side1 => exact i_ HI0); (case side2 => exact gb_ HB.out); rintro e w13 ⟨rfl, hi, hb, hk⟩; refine ⟨_, rfl, ?_⟩; replace HK := Aside0.mk (KeepBut.trans (kb_ HK) hk (.inl rfl)); replace HB := Aside0.mk (hb); replace HI0 := Aside0.mk (hi); (try clear hb); (try clear hb2); (try clear hk); (try clear hi)))
  go_ret
  exact ⟨t5_, i_ HI0, gb_ HB.out, kb_ HK⟩

 rw [if_pos c4] at H
 have c4b0 : (t101 == 0) = true := beq_iff_eq.mpr c4
 have c4b1 : (t101 != 0) = false := bne_eq_false_iff_eq.mpr c4
 clear c4
 obtain ⟨y104, hy104⟩ : ∃ y_ : List Int, y_ = (([(-1), wrap64 (a1 + 1), 1099511627776, (-4611686018427387904)] : List Int)) := ⟨_, rfl⟩
 replace H : ((spec_l01Pick.f s0_0 t102 t103 y104).bind fun bt107 => (some (bt107.1, bt107.2.1, bt107.2.2))) = some (r1, r2, r3) := y_ H
 have Ny104 := Aside0.mk hy104
 clear hy104
 replace H := Option.bind_eq_some_iff.mp H
 obtain ⟨⟨t107, t108, t109⟩, A50, H⟩ := H
 replace H : (some (t107, t108, t109)) = some (r1, r2, r3) := H
 have A5 := Aside0.mk A50
 clear A50
 simp only [Option.some.injEq, Prod.mk.injEq] at H
 obtain ⟨rfl, rfl, rfl⟩ := H
 go_enter Try.func80, Try.ntmps80
 go_wp2_with (first | ((with_reducible refine gate_callee (f := 85) rfl ?_); refine gl_ (some 6) rfl rfl Try.func85 #[.pointer (some ⟨g, 0, none⟩), .int .i64 14] rfl ?_; (with_reducible refine (spec_l01Next.calls g s0_0 s0_1 s0_2 14 t101 t102 t103 w0 _ ?side1 ?side2 A3.out).mono ?_); (case side1 => exact i_ HI0); (case side2 => exact gb_ HB.out); rintro e w6 ⟨rfl, hi, hb, hk⟩; refine ⟨_, rfl, ?_⟩; replace HK := Aside0.mk (KeepBut.trans (kb_ HK) hk (.inl rfl)); replace HB := Aside0.mk (hb); replace HI0 := Aside0.mk (hi); (try clear hb); (try clear hb2); (try clear hk); (try clear hi)) | ((with_reducible refine gate_dst (N := 11) rfl ?_); refine Kd.R_lit (Kd.int .i64) _ 2 ?hg (N := 11) ?hd (xs := ([(-1), wrap64 (a1 + 1), 1099511627776, (-4611686018427387904)] : List Int)) (inner := [.int .i64 (-1), .int .i64 (wrap64 (a1 + 1)), .int .i64 1099511627776, .int .i64 (-4611686018427387904)]) (ok := fun _ => True) (okp := fun _ => True) ?hr ?hp (fun _ hk => hk) trivial (Below.refl _ _) (Nat.le_refl _) (by simp) ?_; (case hd => rfl); (case hg => rfl); (case hr => exact t3_); (case hp => exact (Reps.one (show Kd.M (Kd.int .i64) _ _ _ (-1) [.int .i64 (-1)] from rfl) (Reps.one (show Kd.M (Kd.int .i64) _ _ _ (wrap64 (a1 + 1)) [.int .i64 (wrap64 (a1 + 1))] from rfl) (Reps.one (show Kd.M (Kd.int .i64) _ _ _ 1099511627776 [.int .i64 1099511627776] from rfl) (Reps.one (show Kd.M (Kd.int .i64) _ _ _ (-4611686018427387904) [.int .i64 (-4611686018427387904)] from rfl) (Reps.none _ _)))))); intro v105 w7 ho8 hb hg_ hnew_; clear hg_ hnew_; (first | rw [← Ny104.out] at ho8 | (simp only [Int.reduceToNat] at ho8; rw [← Ny104.out] at ho8)); have n0_ := Aside0.mk (Kd.R_lower ho8 (keep_size (w := w) (g := g) (row := none) (kb_ HK))); have n1_ := i1_ HI0 hb; have n2_ := k1_ HK hb; have n3_ := b1_ HB hb; clear HI0 HK HB; have HO106 := n0_; have HI0 := n1_; have HK := n2_; have HB := n3_; clear n0_ n1_ n2_ n3_ hb ho8; obtain ⟨Ao9, co9, eo9⟩ := Kd.R_slice HO106.out; subst eo9) | ((with_reducible refine gate_callee (f := 82) rfl ?_); refine gl_ (some 12) rfl rfl Try.func82 #[.pointer (some ⟨g, 0, none⟩), .slice Ao9 y104.length co9] rfl ?_; (with_reducible refine (spec_l01Pick.calls g s0_0 t102 t103 _ _ y104 t107 t108 t109 w0 _ ?side1 ?side2 ?side3 ?side4 ?side5 A5.out).mono ?_); (case side1 => exact i_ HI0); (case side2 => exact gb_ HB.out); (case side3 => exact c1_ HO106); (case side4 => exact (Kd.R_reads' HO106.out).2.1); (case side5 => exact far_slice (IsS91.own_ne HI0.out HO106.out (by decide))); rintro e w10 ⟨rfl, hi, hb, hk⟩; refine ⟨_, rfl, ?_⟩; replace HO106 := kr_ HI0 HO106 hk; replace HK := Aside0.mk (KeepBut.trans (kb_ HK) hk (.inl rfl)); replace HB := Aside0.mk (hb); replace HI0 := Aside0.mk (hi); (try clear hb); (try clear hb2); (try clear hk); (try clear hi)))
 go_ret
 exact ⟨t5_, i_ HI0, gb_ HB.out, kb_ HK⟩
def spec_l01DrawOf.l0 : Nat → Int → Int → Int → List Int → Int → Int → List Int → Option (List Int × Int × Int)
  | 0, _, _, _, _, _, _, _ => none
  | k + 1, x1, x6, x7, x1000, x1001, x1002, x112000 => if x7 > 0 then (if x6 = 0 then ((spec_l01Pick.f x1000 x1001 x1002 (([2, 2, 3, 4] : List Int))).bind fun bt121 => ((spec_l01N.f k x112000).bind fun t124 => (if (wrap64 (t124 * bt121.1)) > x1 then (if (x112000.length : Int) = 0 then (if x112000.length < 17592186044416 then (some ((x112000 ++ [2]), bt121.2.1, bt121.2.2)) else (none)) else (some (x112000, bt121.2.1, bt121.2.2))) else (if x112000.length < 17592186044416 then (spec_l01DrawOf.l0 k x1 x6 (wrap64 (x7 - 1)) x1000 bt121.2.1 bt121.2.2 (x112000 ++ [bt121.1])) else (none))))) else ((spec_l01N.f k x112000).bind fun t131 => (if (wrap64 (t131 * x6)) > x1 then (if (x112000.length : Int) = 0 then (if x112000.length < 17592186044416 then (some ((x112000 ++ [2]), x1001, x1002)) else (none)) else (some (x112000, x1001, x1002))) else (if x112000.length < 17592186044416 then (spec_l01DrawOf.l0 k x1 x6 (wrap64 (x7 - 1)) x1000 x1001 x1002 (x112000 ++ [x6])) else (none))))) else (if (x112000.length : Int) = 0 then (if x112000.length < 17592186044416 then (some ((x112000 ++ [2]), x1001, x1002)) else (none)) else (some (x112000, x1001, x1002)))
def spec_l01DrawOf.f (k : Nat) (s0_0 : List Int) (s0_1 : Int) (s0_2 : Int) (a1 : Int) : Option (List Int × Int × Int) := (spec_l01Pick.f s0_0 s0_1 s0_2 (([0, 2, 2, 3, 3] : List Int))).bind fun bt108 => ((spec_l01Next.f s0_0 bt108.2.1 bt108.2.2 8).bind fun bt112 => (spec_l01DrawOf.l0 k a1 bt108.1 (wrap64 (1 + bt112.1)) s0_0 bt112.2.1 bt112.2.2 (([] : List Int))))
set_option maxHeartbeats 8000000 in
set_option maxRecDepth 100000 in
theorem spec_l01DrawOf.calls (k : Nat) (g : Nat) (s0_0 : List Int) (s0_1 : Int) (s0_2 : Int) (a1 : Int) (r1 : List Int) (r2 : Int) (r3 : Int) (w0 w : World) (hI : IsS91 w0 w g s0_0 s0_1 s0_2) (hB : Below w0.heap.size w0 w) (h : spec_l01DrawOf.f k s0_0 s0_1 s0_2 a1 = some (r1, r2, r3)) :
  Calls Try.prog 114 #[.pointer (some ⟨g, 0, none⟩), .int .i64 a1] w fun e w' => ∃ v0_ : Value, e = .returned (.agg #[v0_]) ∧ Kd.R (Kd.int .i64) 2 w' w.heap.size (fun _ => True) v0_ r1 ∧ IsS91 w0 w' g s0_0 r2 r3 ∧ Below w0.heap.size w0 w' ∧ KeepBut w w' g none := by
 have hu26 := Try.underlying26
 have HI0 := Aside0.mk hI
 have HK := Aside0.mk (KeepBut.refl w g none)
 have HL := Aside0.mk hB.size
 clear hI
 have HW0 := Aside0.mk hB.size
 have HB := Aside0.mk hB
 clear hB
 have H : ((spec_l01Pick.f s0_0 s0_1 s0_2 (([0, 2, 2, 3, 3] : List Int))).bind fun bt108 => ((spec_l01Next.f s0_0 bt108.2.1 bt108.2.2 8).bind fun bt112 => (spec_l01DrawOf.l0 k a1 bt108.1 (wrap64 (1 + bt112.1)) s0_0 bt112.2.1 bt112.2.2 (([] : List Int))))) = some (r1, r2, r3) := h
 clear h
 obtain ⟨y102, hy102⟩ : ∃ y_ : List Int, y_ = (([] : List Int)) := ⟨_, rfl⟩
 replace H : ((spec_l01Pick.f s0_0 s0_1 s0_2 (([0, 2, 2, 3, 3] : List Int))).bind fun bt108 => ((spec_l01Next.f s0_0 bt108.2.1 bt108.2.2 8).bind fun bt112 => (spec_l01DrawOf.l0 k a1 bt108.1 (wrap64 (1 + bt112.1)) s0_0 bt112.2.1 bt112.2.2 y102))) = some (r1, r2, r3) := y_ H
 have Ny102 := Aside0.mk hy102
 clear hy102
 obtain ⟨y105, hy105⟩ : ∃ y_ : List Int, y_ = (([0, 2, 2, 3, 3] : List Int)) := ⟨_, rfl⟩
 replace H : ((spec_l01Pick.f s0_0 s0_1 s0_2 y105).bind fun bt108 => ((spec_l01Next.f s0_0 bt108.2.1 bt108.2.2 8).bind fun bt112 => (spec_l01DrawOf.l0 k a1 bt108.1 (wrap64 (1 + bt112.1)) s0_0 bt112.2.1 bt112.2.2 y102))) = some (r1, r2, r3) := y_ H
 have Ny105 := Aside0.mk hy105
 clear hy105
 replace H := Option.bind_eq_some_iff.mp H
 obtain ⟨⟨t108, t109, t110⟩, A30, H⟩ := H
 replace H : ((spec_l01Next.f s0_0 t109 t110 8).bind fun bt112 => (spec_l01DrawOf.l0 k a1 t108 (wrap64 (1 + bt112.1)) s0_0 bt112.2.1 bt112.2.2 y102)) = some (r1, r2, r3) := H
 have A3 := Aside0.mk A30
 clear A30
 replace H := Option.bind_eq_some_iff.mp H
 obtain ⟨⟨t112, t113, t114⟩, A40, H⟩ := H
 replace H : (spec_l01DrawOf.l0 k a1 t108 (wrap64 (1 + t112)) s0_0 t113 t114 y102) = some (r1, r2, r3) := H
 have A4 := Aside0.mk A40
 clear A40
 have H' := Aside0.mk H
 clear H
 go_enter Try.func114, Try.ntmps114
 go_wp2_with (first | ((with_reducible refine gate_dst (N := 4) rfl ?_); refine bx_ (N := 4) (cs := #[.slice none 0 0]) (t := 26) rfl rfl ?_; intro gb101 hg w5 hbox hb; have n0_ := i1_ HI0 hb; have n1_ := k1_ HK hb; have n2_ := b1_ HB hb; have n3_ := Aside0.mk (hbox); have n4_ := gk_ hg HK; have n5_ := Aside0.mk ((Nat.le_trans HW0.out (by rw [hg]; exact (keep_size (w := w) (g := g) (row := none) (kb_ HK)) : w.heap.size ≤ gb101) : w0.heap.size ≤ gb101)); have n6_ := il_ hg HI0; have n7_ := ir_ hg HI0; clear HI0 HK HB; have HI0 := n0_; have HK := n1_; have HB := n2_; have BK101 := n3_; have GW101 := n4_; have GE101 := n5_; have NB0_101 := n6_; have NB101_0 := n7_; clear n0_ n1_ n2_ n3_ n4_ n5_ n6_ n7_ hb hbox hg) | ((with_reducible refine gate_dst (N := 9) rfl ?_); refine Kd.R_lit (Kd.int .i64) _ 2 ?hg (N := 9) ?hd (xs := ([] : List Int)) (inner := []) (ok := fun _ => True) (okp := fun _ => True) ?hr ?hp (fun _ hk => hk) trivial (Below.refl _ _) (Nat.le_refl _) (by simp) ?_; (case hd => rfl); (case hg => rfl); (case hr => exact t3_); (case hp => exact (Reps.none _ _)); intro v103 w6 ho7 hb hg_ hnew_; clear hg_ hnew_; (first | rw [← Ny102.out] at ho7 | (simp only [Int.reduceToNat] at ho7; rw [← Ny102.out] at ho7)); have n0_ := Aside0.mk (Kd.R_lower ho7 (keep_size (w := w) (g := g) (row := none) (kb_ HK))); have n1_ := i1_ HI0 hb; have n2_ := a2_ BK101 hb; have n3_ := k1_ HK hb; have n4_ := b1_ HB hb; clear HI0 BK101 HK HB; have HO104 := n0_; have HI0 := n1_; have BK101 := n2_; have HK := n3_; have HB := n4_; clear n0_ n1_ n2_ n3_ n4_ hb ho7; obtain ⟨Ao8, co8, eo8⟩ := Kd.R_slice HO104.out; subst eo8) | ((with_reducible refine gate_dst (N := 12) rfl ?_); refine Kd.R_lit (Kd.int .i64) _ 2 ?hg (N := 12) ?hd (xs := ([0, 2, 2, 3, 3] : List Int)) (inner := [.int .i64 0, .int .i64 2, .int .i64 2, .int .i64 3, .int .i64 3]) (ok := fun _ => True) (okp := fun _ => True) ?hr ?hp (fun _ hk => hk) trivial (Below.refl _ _) (Nat.le_refl _) (by simp) ?_; (case hd => rfl); (case hg => rfl); (case hr => exact t3_); (case hp => exact (Reps.one (show Kd.M (Kd.int .i64) _ _ _ 0 [.int .i64 0] from rfl) (Reps.one (show Kd.M (Kd.int .i64) _ _ _ 2 [.int .i64 2] from rfl) (Reps.one (show Kd.M (Kd.int .i64) _ _ _ 2 [.int .i64 2] from rfl) (Reps.one (show Kd.M (Kd.int .i64) _ _ _ 3 [.int .i64 3] from rfl) (Reps.one (show Kd.M (Kd.int .i64) _ _ _ 3 [.int .i64 3] from rfl) (Reps.none _ _))))))); intro v106 w9 ho10 hb hg_ hnew_; clear hg_ hnew_; (first | rw [← Ny105.out] at ho10 | (simp only [Int.reduceToNat] at ho10; rw [← Ny105.out] at ho10)); have n0_ := a5_ HO104 ho10 hb; have n1_ := Aside0.mk (Kd.R_lower (Kd.R_new' ho10 (Kd.R_lt (rb_ HO104.out))) (keep_size (w := w) (g := g) (row := none) (kb_ HK))); have n2_ := i1_ HI0 hb; have n3_ := a2_ BK101 hb; have n4_ := k1_ HK hb; have n5_ := b1_ HB hb; clear HO104 HI0 BK101 HK HB; have HO104 := n0_; have HO107 := n1_; have HI0 := n2_; have BK101 := n3_; have HK := n4_; have HB := n5_; clear n0_ n1_ n2_ n3_ n4_ n5_ hb ho10; obtain ⟨Ao11, co11, eo11⟩ := Kd.R_slice HO107.out; subst eo11) | ((with_reducible refine gate_callee (f := 82) rfl ?_); refine gl_ (some 13) rfl rfl Try.func82 #[.pointer (some ⟨g, 0, none⟩), .slice Ao11 y105.length co11] rfl ?_; (with_reducible refine (spec_l01Pick.calls g s0_0 s0_1 s0_2 _ _ y105 t108 t109 t110 w0 _ ?side1 ?side2 ?side3 ?side4 ?side5 A3.out).mono ?_); (case side1 => exact i_ HI0); (case side2 => exact gb_ HB.out); (case side3 => exact c1_ HO107); (case side4 => exact (Kd.R_reads' HO107.out).2.1); (case side5 => exact far_slice (IsS91.own_ne HI0.out HO107.out (by decide))); rintro e w12 ⟨rfl, hi, hb, hk⟩; refine ⟨_, rfl, ?_⟩; replace BK101 := kx_ BK101 NB101_0 hk; replace HO104 := kr_ HI0 HO104 hk; replace HO107 := kr_ HI0 HO107 hk; replace HK := Aside0.mk (KeepBut.trans (kb_ HK) hk (.inl rfl)); replace HB := Aside0.mk (hb); replace HI0 := Aside0.mk (hi); (try clear hb); (try clear hb2); (try clear hk); (try clear hi)) | ((with_reducible refine gate_dst (N := 5) rfl ?_); refine bx_ (N := 5) (cs := #[.slice none 0 0]) (t := 26) rfl rfl ?_; intro gb111 hg w13 hbox hb; have n0_ := a1_ HO104 hb; have n1_ := a1_ HO107 hb; have n2_ := i1_ HI0 hb; have n3_ := a2_ BK101 hb; have n4_ := k1_ HK hb; have n5_ := b1_ HB hb; have n6_ := Aside0.mk (hbox); have n7_ := gk_ hg HK; have n8_ := Aside0.mk ((Nat.le_trans HW0.out (by rw [hg]; exact (keep_size (w := w) (g := g) (row := none) (kb_ HK)) : w.heap.size ≤ gb111) : w0.heap.size ≤ gb111)); have n9_ := nl_ hg BK101; have n10_ := nr_ hg BK101; have n11_ := il_ hg HI0; have n12_ := ir_ hg HI0; clear HO104 HO107 HI0 BK101 HK HB; have HO104 := n0_; have HO107 := n1_; have HI0 := n2_; have BK101 := n3_; have HK := n4_; have HB := n5_; have BK111 := n6_; have GW111 := n7_; have GE111 := n8_; have NB101_111 := n9_; have NB111_101 := n10_; have NB0_111 := n11_; have NB111_0 := n12_; clear n0_ n1_ n2_ n3_ n4_ n5_ n6_ n7_ n8_ n9_ n10_ n11_ n12_ hb hbox hg; have hnb14 := NB111_101.out; have hnc14 := NB101_111.out; have hnb15 := NB111_0.out; have hnc15 := NB0_111.out; have hcz16_0 := hz_ BK111; have hfz16_0 := blk_frozen BK111.out 0) | ((with_reducible refine gate_callee (f := 85) rfl ?_); refine gl_ (some 15) rfl rfl Try.func85 #[.pointer (some ⟨g, 0, none⟩), .int .i64 8] rfl ?_; (with_reducible refine (spec_l01Next.calls g s0_0 t109 t110 8 t112 t113 t114 w0 _ ?side1 ?side2 A4.out).mono ?_); (case side1 => exact i_ HI0); (case side2 => exact gb_ HB.out); rintro e w17 ⟨rfl, hi, hb, hk⟩; refine ⟨_, rfl, ?_⟩; replace BK101 := Aside0.mk (KeepBut.blk hk (g' := gb101) (o := .cells #[.slice none 0 0] 26 (0, 0)) (by (with_reducible repeat (first | refine blk_drewN ?_ _ | refine blk_drew ?_ | refine blk_alloc ?_ _)); refine blk_far ?_ NB101_111.out _; (with_reducible repeat (first | refine blk_drewN ?_ _ | refine blk_drew ?_ | refine blk_alloc ?_ _)); exact BK101.out) NB101_0.out (by simp)); replace HO104 := Aside0.mk (Kd.R_mono (Kd.R_keep (IsS91.apart (show IsS91 w0 _ g s0_0 t109 t110 from i_ HI0) (rb_ (Kd.R_mono (Kd.R_far (p := ⟨gb111, 0, none⟩) (Kd.R_types HO104.out BK111.out (by decide)) (fun _ hk => hk.2) (.slice Ao8 y102.length co8)) (fun _ h_ => h_.1))) (by decide)) hk (fun _ h => h.2)) (fun _ h => h.1)); replace HO107 := Aside0.mk (Kd.R_mono (Kd.R_keep (IsS91.apart (show IsS91 w0 _ g s0_0 t109 t110 from i_ HI0) (rb_ (Kd.R_mono (Kd.R_far (p := ⟨gb111, 0, none⟩) (Kd.R_types HO107.out BK111.out (by decide)) (fun _ hk => hk.2) (.slice Ao8 y102.length co8)) (fun _ h_ => h_.1))) (by decide)) hk (fun _ h => h.2)) (fun _ h => h.1)); replace BK111 := Aside0.mk (KeepBut.blk hk (g' := gb111) (o := .cells #[.slice Ao8 y102.length co8] 26 (0, 0)) (by (with_reducible repeat (first | refine blk_drewN ?_ _ | refine blk_drew ?_ | refine blk_alloc ?_ _)); refine blk_put (cs := #[.slice none 0 0]) ?_ 0 _ rfl; (with_reducible repeat (first | refine blk_drewN ?_ _ | refine blk_drew ?_ | refine blk_alloc ?_ _)); exact BK111.out) NB111_0.out (by simp)); replace HK := Aside0.mk (KeepBut.trans (kb_ HK) hk (.inl rfl)); replace HB := Aside0.mk (hb); replace HI0 := Aside0.mk (hi); (try clear hb); (try clear hb2); (try clear hk); (try clear hi)))
 go_loopg [7] k (fun kq v7 w' => ∃ (x7_1 : Int) (x1001_1 : Int) (x1002_1 : Int) (x112000_1 : List Int) (u112000 : Value), v7 = .int .i64 x7_1 ∧ Aside0 (spec_l01DrawOf.l0 kq a1 t108 x7_1 s0_0 x1001_1 x1002_1 x112000_1 = some (r1, r2, r3)) ∧ Aside0 (kq ≤ k) ∧ Aside0 (Kd.R (Kd.int .i64) 2 w' w.heap.size (fun _ => True) u112000 x112000_1) ∧ Aside0 (w'.heap[gb101]? = some (.cells #[(.slice none 0 0)] 26 (0, 0))) ∧ Aside0 (w'.heap[gb111]? = some (.cells #[u112000] 26 (0, 0))) ∧ Aside0 (IsS91 w0 w' g s0_0 x1001_1 x1002_1) ∧ Aside0 (KeepBut w w' g none) ∧ Aside0 (Below w0.heap.size w0 w'))
 case atStart => exact ⟨(wrap64 (1 + t112)), (t113), (t114), (y102), (.slice Ao8 y102.length co8), t2_, H', ⟨Nat.le_refl _⟩, ⟨by (with_reducible repeat (first | apply Kd.R_alloc | apply Kd.R_drewN | apply Kd.R_drew)); exact Kd.R_mono HO104.out (fun _ hk => trivial)⟩, ⟨bb_ BK101.out⟩, ⟨bb_ BK111.out⟩, ⟨i_ HI0⟩, ⟨kb_ HK⟩, ⟨gb_ HB.out⟩⟩
 clear H'
 try clear c1
 try clear p2
 try clear p6
 try clear c8
 try clear c11
 try clear c14
 try clear c15
 try clear hcz16_0
 try clear hfz16_0
 obtain ⟨x7_1, x1001_1, x1002_1, x112000_1, u112000, rfl, HA, HK1, HO_112000, BK101, BK111, HI0, HK, HB⟩ := hrel
 obtain _ | k1 := gk
 ·exact absurd HA.out (by simp [spec_l01DrawOf.l0])
 have H := HA.out
 clear HA
 simp only [spec_l01DrawOf.l0] at H
 by_cases c18 : x7_1 > 0
 rotate_left
 ·rw [if_neg c18] at H
  have c18b0 : decide (0 < x7_1) = false := decide_eq_false c18
  clear c18
  by_cases c99 : (x112000_1.length : Int) = 0
  rotate_left
  ·rw [if_neg c99] at H
   have c99b0 : ((x112000_1.length : Int) == 0) = false := beq_eq_false_iff_ne.mpr c99
   have c99b1 : ((x112000_1.length : Int) != 0) = true := bne_iff_ne.mpr c99
   have c99b2 : ¬ (x112000_1 = []) := fun h_ => c99 (by rw [h_]; rfl)
   simp only [Option.some.injEq, Prod.mk.injEq] at H
   obtain ⟨rfl, rfl, rfl⟩ := H
   have hnb110 := NB111_101.out
   have hnc110 := NB101_111.out
   have hnb111 := NB111_0.out
   have hnc111 := NB0_111.out
   have hcz112_0 := hz_ BK111
   have hfz112_0 := blk_frozen BK111.out 0
   obtain ⟨Ao113, co113, eo113⟩ := Kd.R_slice HO_112000.out
   subst eo113
   have hnb114 := NB101_0.out
   have hnc114 := NB0_101.out
   have hcz115_0 := hz_ BK101
   have hfz115_0 := blk_frozen BK101.out 0
   go_wp2
   refine bodyPost_ret (results_cell_row rfl _ _ gb101 26 #[.slice Ao113 x112000_1.length co113] (0, 0) _ rfl (by (with_reducible repeat (first | refine blk_drewN ?_ _ | refine blk_drew ?_ | refine blk_alloc ?_ _)); refine blk_put (cs := #[.slice none 0 0]) ?_ 0 _ rfl; (with_reducible repeat (first | refine blk_drewN ?_ _ | refine blk_drew ?_ | refine blk_alloc ?_ _)); exact BK101.out) Try.underlying26 rfl (by kernel_rfl)) rfl ?_
   exact ⟨_, t5_, by (with_reducible repeat (first | apply Kd.R_alloc | apply Kd.R_drewN | apply Kd.R_drew)); exact Kd.R_mono (Kd.R_far (p := ⟨gb101, 0, none⟩) (Kd.R_types HO_112000.out BK101.out (by decide)) (fun _ hk => hk.2) (.slice Ao113 x112000_1.length co113)) (fun _ hk => trivial), i_ HI0, gb_ HB.out, kb_ HK⟩

  rw [if_pos c99] at H
  have c99b0 : ((x112000_1.length : Int) == 0) = true := beq_iff_eq.mpr c99
  have c99b1 : ((x112000_1.length : Int) != 0) = false := bne_eq_false_iff_eq.mpr c99
  clear c99
  by_cases c100 : x112000_1.length < 17592186044416
  rotate_left
  ·rw [if_neg c100] at H
   exact absurd H (by simp)
  rw [if_pos c100] at H
  have LMc100 := Aside0.mk c100
  clear c100
  obtain ⟨y115, hy115⟩ : ∃ y_ : List Int, y_ = (x112000_1 ++ [2]) := ⟨_, rfl⟩
  replace H : (some (y115, x1001_1, x1002_1)) = some (r1, r2, r3) := y_ H
  have Ny115 := Aside0.mk hy115
  clear hy115
  simp only [Option.some.injEq, Prod.mk.injEq] at H
  obtain ⟨rfl, rfl, rfl⟩ := H
  have hnb101 := NB111_101.out
  have hnc101 := NB101_111.out
  have hnb102 := NB111_0.out
  have hnc102 := NB0_111.out
  have hcz103_0 := hz_ BK111
  have hfz103_0 := blk_frozen BK111.out 0
  obtain ⟨Ao104, co104, eo104⟩ := Kd.R_slice HO_112000.out
  subst eo104
  go_wp2_with (first | ((with_reducible refine gate_builtin (b := .append) (xs := #[.tmp 44, .tmp 45]) rfl ?_); at_builtin; refine Kd.R_append (Kd.int .i64) w.heap.size rfl (.tmp 44) (.tmp 45) 24 2 (.int .i64 0) 8 rfl Try.underlying24 info2 rfl (by decide) (by omega) (.slice Ao104 x112000_1.length co104) x112000_1 2 [.int .i64 2] (fun _ => True) (fun _ => False) rfl rfl ?aP (fun _ hk => hk.elim) ?aF ?aO (Below.refl _ _) ?aS ?aL ?_; (case aP => exact rfl); (case aF => exact (fun _ _ => trivial)); (case aO => exact (rb_ HO_112000.out)); (case aS => exact (keep_size (w := w) (g := g) (row := none) (kb_ HK))); (case aL => have := LMc100.out; omega); intro v116 w105 ho hb hg hat; rw [← Ny115.out] at ho; have n0_ := Aside0.mk (blk_grown (g := gb101) (o := .cells #[.slice none 0 0] 26 (0, 0)) (bb_ BK101.out) hg (Kd.R_ne HO_112000.out BK101.out (by decide))); have n1_ := Aside0.mk (blk_grown (g := gb111) (o := .cells #[.slice Ao104 x112000_1.length co104] 26 (0, 0)) (bb_ BK111.out) hg (Kd.R_ne HO_112000.out BK111.out (by decide))); have n2_ := Aside0.mk (IsS91.grown (i_ HI0) hg (IsS91.own_ne HI0.out HO_112000.out (by decide))); have n3_ := Aside0.mk (below_weaken (gb_ HB.out) HL.out hb); have n4_ := Aside0.mk (KeepBut.trans (kb_ HK) (KeepBut.of_grown hg g) (Kd.R_base2 HO_112000.out)); have n5_ := Aside0.mk (ho); clear BK101 BK111 HI0 HB HK HO_112000; have BK101 := n0_; have BK111 := n1_; have HI0 := n2_; have HB := n3_; have HK := n4_; have HO117 := n5_; clear n0_ n1_ n2_ n3_ n4_ n5_ ho hb hg hat; obtain ⟨Ao106, co106, eo106⟩ := Kd.R_slice HO117.out; subst eo106; have hcz107_0 := hz_ BK111; have hfz107_0 := blk_frozen BK111.out 0; have hnb108 := NB101_0.out; have hnc108 := NB0_101.out; have hcz109_0 := hz_ BK101; have hfz109_0 := blk_frozen BK101.out 0))
  refine bodyPost_ret (results_cell_row rfl _ _ gb101 26 #[.slice Ao106 y115.length co106] (0, 0) _ rfl (by (with_reducible repeat (first | refine blk_drewN ?_ _ | refine blk_drew ?_ | refine blk_alloc ?_ _)); refine blk_put (cs := #[.slice none 0 0]) ?_ 0 _ rfl; (with_reducible repeat (first | refine blk_drewN ?_ _ | refine blk_drew ?_ | refine blk_alloc ?_ _)); refine blk_far ?_ NB101_111.out _; (with_reducible repeat (first | refine blk_drewN ?_ _ | refine blk_drew ?_ | refine blk_alloc ?_ _)); exact BK101.out) Try.underlying26 rfl (by kernel_rfl)) rfl ?_
  exact ⟨_, t5_, by (with_reducible repeat (first | apply Kd.R_alloc | apply Kd.R_drewN | apply Kd.R_drew)); exact Kd.R_mono (Kd.R_far (p := ⟨gb101, 0, none⟩) (Kd.R_far (p := ⟨gb111, 0, none⟩) (Kd.R_types (Kd.R_types HO117.out BK111.out (by decide)) BK101.out (by decide)) (fun _ hk => hk.1.2) (.slice Ao106 y115.length co106)) (fun _ hk => hk.2) (.slice Ao106 y115.length co106)) (fun _ hk => trivial), i_ HI0, gb_ HB.out, kb_ HK⟩
 rw [if_pos c18] at H
 have c18b0 : decide (0 < x7_1) = true := decide_eq_true c18
 clear c18
 by_cases c19 : t108 = 0
 ·rw [if_pos c19] at H
  have c19b0 : (t108 == 0) = true := beq_iff_eq.mpr c19
  have c19b1 : (t108 != 0) = false := bne_eq_false_iff_eq.mpr c19
  clear c19
  obtain ⟨y118, hy118⟩ : ∃ y_ : List Int, y_ = (([2, 2, 3, 4] : List Int)) := ⟨_, rfl⟩
  replace H : ((spec_l01Pick.f s0_0 x1001_1 x1002_1 y118).bind fun bt121 => ((spec_l01N.f k1 x112000_1).bind fun t124 => (if (wrap64 (t124 * bt121.1)) > a1 then (if (x112000_1.length : Int) = 0 then (if x112000_1.length < 17592186044416 then (some ((x112000_1 ++ [2]), bt121.2.1, bt121.2.2)) else (none)) else (some (x112000_1, bt121.2.1, bt121.2.2))) else (if x112000_1.length < 17592186044416 then (spec_l01DrawOf.l0 k1 a1 t108 (wrap64 (x7_1 - 1)) s0_0 bt121.2.1 bt121.2.2 (x112000_1 ++ [bt121.1])) else (none))))) = some (r1, r2, r3) := y_ H
  have Ny118 := Aside0.mk hy118
  clear hy118
  replace H := Option.bind_eq_some_iff.mp H
  obtain ⟨⟨t121, t122, t123⟩, A200, H⟩ := H
  replace H : ((spec_l01N.f k1 x112000_1).bind fun t124 => (if (wrap64 (t124 * t121)) > a1 then (if (x112000_1.length : Int) = 0 then (if x112000_1.length < 17592186044416 then (some ((x112000_1 ++ [2]), t122, t123)) else (none)) else (some (x112000_1, t122, t123))) else (if x112000_1.length < 17592186044416 then (spec_l01DrawOf.l0 k1 a1 t108 (wrap64 (x7_1 - 1)) s0_0 t122 t123 (x112000_1 ++ [t121])) else (none)))) = some (r1, r2, r3) := H
  have A20 := Aside0.mk A200
  clear A200
  replace H := Option.bind_eq_some_iff.mp H
  obtain ⟨t124, A210, H⟩ := H
  replace H : (if (wrap64 (t124 * t121)) > a1 then (if (x112000_1.length : Int) = 0 then (if x112000_1.length < 17592186044416 then (some ((x112000_1 ++ [2]), t122, t123)) else (none)) else (some (x112000_1, t122, t123))) else (if x112000_1.length < 17592186044416 then (spec_l01DrawOf.l0 k1 a1 t108 (wrap64 (x7_1 - 1)) s0_0 t122 t123 (x112000_1 ++ [t121])) else (none))) = some (r1, r2, r3) := H
  have A21 := Aside0.mk A210
  clear A210
  by_cases c22 : (wrap64 (t124 * t121)) > a1
  rotate_left
  ·rw [if_neg c22] at H
   have c22b0 : decide (a1 < (wrap64 (t124 * t121))) = false := decide_eq_false c22
   clear c22
   by_cases c52 : x112000_1.length < 17592186044416
   rotate_left
   ·rw [if_neg c52] at H
    exact absurd H (by simp)
   rw [if_pos c52] at H
   have LMc52 := Aside0.mk c52
   clear c52
   obtain ⟨y128, hy128⟩ : ∃ y_ : List Int, y_ = (x112000_1 ++ [t121]) := ⟨_, rfl⟩
   replace H : (spec_l01DrawOf.l0 k1 a1 t108 (wrap64 (x7_1 - 1)) s0_0 t122 t123 y128) = some (r1, r2, r3) := y_ H
   have Ny128 := Aside0.mk hy128
   clear hy128
   have H' := Aside0.mk H
   clear H
   go_wp2_with (first | ((with_reducible refine gate_dst (N := 25) rfl ?_); refine Kd.R_lit (Kd.int .i64) _ 2 ?hg (N := 25) ?hd (xs := ([2, 2, 3, 4] : List Int)) (inner := [.int .i64 2, .int .i64 2, .int .i64 3, .int .i64 4]) (ok := fun _ => True) (okp := fun _ => True) ?hr ?hp (fun _ hk => hk) trivial (Below.refl _ _) (Nat.le_refl _) (by simp) ?_; (case hd => rfl); (case hg => rfl); (case hr => exact t3_); (case hp => exact (Reps.one (show Kd.M (Kd.int .i64) _ _ _ 2 [.int .i64 2] from rfl) (Reps.one (show Kd.M (Kd.int .i64) _ _ _ 2 [.int .i64 2] from rfl) (Reps.one (show Kd.M (Kd.int .i64) _ _ _ 3 [.int .i64 3] from rfl) (Reps.one (show Kd.M (Kd.int .i64) _ _ _ 4 [.int .i64 4] from rfl) (Reps.none _ _)))))); intro v119 w53 ho54 hb hg_ hnew_; clear hg_ hnew_; (first | rw [← Ny118.out] at ho54 | (simp only [Int.reduceToNat] at ho54; rw [← Ny118.out] at ho54)); have n0_ := a5_ HO_112000 ho54 hb; have n1_ := Aside0.mk (Kd.R_lower (Kd.R_new' ho54 (Kd.R_lt (rb_ HO_112000.out))) (keep_size (w := w) (g := g) (row := none) (kb_ HK))); have n2_ := a2_ BK101 hb; have n3_ := a2_ BK111 hb; have n4_ := i1_ HI0 hb; have n5_ := k1_ HK hb; have n6_ := b1_ HB hb; clear HO_112000 BK101 BK111 HI0 HK HB; have HO_112000 := n0_; have HO120 := n1_; have BK101 := n2_; have BK111 := n3_; have HI0 := n4_; have HK := n5_; have HB := n6_; clear n0_ n1_ n2_ n3_ n4_ n5_ n6_ hb ho54; obtain ⟨Ao55, co55, eo55⟩ := Kd.R_slice HO120.out; subst eo55) | ((with_reducible refine gate_callee (f := 82) rfl ?_); refine gl_ (some 26) rfl rfl Try.func82 #[.pointer (some ⟨g, 0, none⟩), .slice Ao55 y118.length co55] rfl ?_; (with_reducible refine (spec_l01Pick.calls g s0_0 x1001_1 x1002_1 _ _ y118 t121 t122 t123 w0 _ ?side1 ?side2 ?side3 ?side4 ?side5 A20.out).mono ?_); (case side1 => exact i_ HI0); (case side2 => exact gb_ HB.out); (case side3 => exact c1_ HO120); (case side4 => exact (Kd.R_reads' HO120.out).2.1); (case side5 => exact far_slice (IsS91.own_ne HI0.out HO120.out (by decide))); rintro e w56 ⟨rfl, hi, hb, hk⟩; refine ⟨_, rfl, ?_⟩; replace HO_112000 := kr_ HI0 HO_112000 hk; replace BK101 := kx_ BK101 NB101_0 hk; replace BK111 := kx_ BK111 NB111_0 hk; replace HO120 := kr_ HI0 HO120 hk; replace HK := Aside0.mk (KeepBut.trans (kb_ HK) hk (.inl rfl)); replace HB := Aside0.mk (hb); replace HI0 := Aside0.mk (hi); (try clear hb); (try clear hb2); (try clear hk); (try clear hi); have hnb57 := NB111_101.out; have hnc57 := NB101_111.out; have hnb58 := NB111_0.out; have hnc58 := NB0_111.out; have hcz59_0 := hz_ BK111; have hfz59_0 := blk_frozen BK111.out 0; obtain ⟨Ao60, co60, eo60⟩ := Kd.R_slice HO_112000.out; subst eo60) | ((with_reducible refine gate_callee (f := 76) rfl ?_); refine gl_ (some 28) rfl rfl Try.func76 #[.agg #[.slice Ao60 x112000_1.length co60]] rfl ?_; (with_reducible refine (spec_l01N.calls k1 _ _ x112000_1 t124 _ ?side1 ?side2 A21.out).mono ?_); (case side1 => exact c1_ HO_112000); (case side2 => exact (Kd.R_reads' HO_112000.out).2.1); rintro e w61 ⟨rfl, hb⟩; refine ⟨_, rfl, ?_⟩; replace HO_112000 := a1_ HO_112000 hb; replace HO120 := a1_ HO120 hb; replace BK101 := a2_ BK101 hb; replace BK111 := a2_ BK111 hb; replace HI0 := i1_ HI0 hb; replace HK := k1_ HK hb; replace HB := b1_ HB hb; (try clear hb); (try clear hb2); (try clear hk); (try clear hi); have hcz62_0 := hz_ BK111; have hfz62_0 := blk_frozen BK111.out 0) | ((with_reducible refine gate_builtin (b := .append) (xs := #[.tmp 34, .tmp 36]) rfl ?_); at_builtin; refine Kd.R_append (Kd.int .i64) w.heap.size rfl (.tmp 34) (.tmp 36) 24 2 (.int .i64 0) 8 rfl Try.underlying24 info2 rfl (by decide) (by omega) (.slice Ao60 x112000_1.length co60) x112000_1 t121 [.int .i64 t121] (fun k_ => OB_ k_ (.slice Ao55 y118.length co55)) (fun _ => False) rfl rfl ?aP (fun _ hk => hk.elim) ?aF ?aO (Below.refl _ _) ?aS ?aL ?_; (case aP => exact rfl); (case aF => exact (fun k_ hk => Kd.fresh' (Kd.R_lt (rb_ HO120.out)) k_ hk)); (case aO => exact (rb_ (Kd.R_mono HO_112000.out (fun _ hk => hk.2)))); (case aS => exact (keep_size (w := w) (g := g) (row := none) (kb_ HK))); (case aL => have := LMc52.out; omega); intro v129 w63 ho hb hg hat; rw [← Ny128.out] at ho; have n0_ := Aside0.mk (blk_grown (g := gb101) (o := .cells #[.slice none 0 0] 26 (0, 0)) (bb_ BK101.out) hg (Kd.R_ne HO_112000.out BK101.out (by decide))); have n1_ := Aside0.mk (blk_grown (g := gb111) (o := .cells #[.slice Ao60 x112000_1.length co60] 26 (0, 0)) (bb_ BK111.out) hg (Kd.R_ne HO_112000.out BK111.out (by decide))); have n2_ := Aside0.mk (IsS91.grown (i_ HI0) hg (IsS91.own_ne HI0.out HO_112000.out (by decide))); have n3_ := Aside0.mk (Kd.R_after (ok := (fun _ => True)) (rb_ HO120.out) hg hat); have n4_ := Aside0.mk (below_weaken (gb_ HB.out) HL.out hb); have n5_ := Aside0.mk (KeepBut.trans (kb_ HK) (KeepBut.of_grown hg g) (Kd.R_base2 HO_112000.out)); have n6_ := Aside0.mk (ho); clear BK101 BK111 HI0 HO120 HB HK HO_112000; have BK101 := n0_; have BK111 := n1_; have HI0 := n2_; have HO120 := n3_; have HB := n4_; have HK := n5_; have HO130 := n6_; clear n0_ n1_ n2_ n3_ n4_ n5_ n6_ ho hb hg hat; obtain ⟨Ao64, co64, eo64⟩ := Kd.R_slice HO130.out; subst eo64; have hcz65_0 := hz_ BK111; have hfz65_0 := blk_frozen BK111.out 0))
   go_roundg k1
   case measure => have := HK1.out; omega
   case rel => exact ⟨(wrap64 (x7_1 - 1)), (t122), (t123), (y128), (.slice Ao64 y128.length co64), t2_, H', ⟨by have := HK1.out; omega⟩, ⟨by (with_reducible repeat (first | apply Kd.R_alloc | apply Kd.R_drewN | apply Kd.R_drew)); exact Kd.R_mono (Kd.R_far (p := ⟨gb111, 0, none⟩) (Kd.R_types HO130.out BK111.out (by decide)) (fun _ hk => hk.2) (.slice Ao64 y128.length co64)) (fun _ hk => trivial)⟩, ⟨by (with_reducible repeat (first | refine blk_drewN ?_ _ | refine blk_drew ?_ | refine blk_alloc ?_ _)); refine blk_far ?_ NB101_111.out _; (with_reducible repeat (first | refine blk_drewN ?_ _ | refine blk_drew ?_ | refine blk_alloc ?_ _)); exact BK101.out⟩, ⟨by (with_reducible repeat (first | refine blk_drewN ?_ _ | refine blk_drew ?_ | refine blk_alloc ?_ _)); refine blk_put (cs := #[.slice Ao60 x112000_1.length co60]) ?_ 0 _ rfl; (with_reducible repeat (first | refine blk_drewN ?_ _ | refine blk_drew ?_ | refine blk_alloc ?_ _)); exact BK111.out⟩, ⟨i_ HI0⟩, ⟨kb_ HK⟩, ⟨gb_ HB.out⟩⟩
  rw [if_pos c22] at H
  have c22b0 : decide (a1 < (wrap64 (t124 * t121))) = true := decide_eq_true c22
  clear c22
  by_cases c23 : (x112000_1.length : Int) = 0
  rotate_left
  ·rw [if_neg c23] at H
   have c23b0 : ((x112000_1.length : Int) == 0) = false := beq_eq_false_iff_ne.mpr c23
   have c23b1 : ((x112000_1.length : Int) != 0) = true := bne_iff_ne.mpr c23
   have c23b2 : ¬ (x112000_1 = []) := fun h_ => c23 (by rw [h_]; rfl)
   simp only [Option.some.injEq, Prod.mk.injEq] at H
   obtain ⟨rfl, rfl, rfl⟩ := H
   go_wp2_with (first | ((with_reducible refine gate_dst (N := 25) rfl ?_); refine Kd.R_lit (Kd.int .i64) _ 2 ?hg (N := 25) ?hd (xs := ([2, 2, 3, 4] : List Int)) (inner := [.int .i64 2, .int .i64 2, .int .i64 3, .int .i64 4]) (ok := fun _ => True) (okp := fun _ => True) ?hr ?hp (fun _ hk => hk) trivial (Below.refl _ _) (Nat.le_refl _) (by simp) ?_; (case hd => rfl); (case hg => rfl); (case hr => exact t3_); (case hp => exact (Reps.one (show Kd.M (Kd.int .i64) _ _ _ 2 [.int .i64 2] from rfl) (Reps.one (show Kd.M (Kd.int .i64) _ _ _ 2 [.int .i64 2] from rfl) (Reps.one (show Kd.M (Kd.int .i64) _ _ _ 3 [.int .i64 3] from rfl) (Reps.one (show Kd.M (Kd.int .i64) _ _ _ 4 [.int .i64 4] from rfl) (Reps.none _ _)))))); intro v119 w40 ho41 hb hg_ hnew_; clear hg_ hnew_; (first | rw [← Ny118.out] at ho41 | (simp only [Int.reduceToNat] at ho41; rw [← Ny118.out] at ho41)); have n0_ := a5_ HO_112000 ho41 hb; have n1_ := Aside0.mk (Kd.R_lower (Kd.R_new' ho41 (Kd.R_lt (rb_ HO_112000.out))) (keep_size (w := w) (g := g) (row := none) (kb_ HK))); have n2_ := a2_ BK101 hb; have n3_ := a2_ BK111 hb; have n4_ := i1_ HI0 hb; have n5_ := k1_ HK hb; have n6_ := b1_ HB hb; clear HO_112000 BK101 BK111 HI0 HK HB; have HO_112000 := n0_; have HO120 := n1_; have BK101 := n2_; have BK111 := n3_; have HI0 := n4_; have HK := n5_; have HB := n6_; clear n0_ n1_ n2_ n3_ n4_ n5_ n6_ hb ho41; obtain ⟨Ao42, co42, eo42⟩ := Kd.R_slice HO120.out; subst eo42) | ((with_reducible refine gate_callee (f := 82) rfl ?_); refine gl_ (some 26) rfl rfl Try.func82 #[.pointer (some ⟨g, 0, none⟩), .slice Ao42 y118.length co42] rfl ?_; (with_reducible refine (spec_l01Pick.calls g s0_0 x1001_1 x1002_1 _ _ y118 t121 t122 t123 w0 _ ?side1 ?side2 ?side3 ?side4 ?side5 A20.out).mono ?_); (case side1 => exact i_ HI0); (case side2 => exact gb_ HB.out); (case side3 => exact c1_ HO120); (case side4 => exact (Kd.R_reads' HO120.out).2.1); (case side5 => exact far_slice (IsS91.own_ne HI0.out HO120.out (by decide))); rintro e w43 ⟨rfl, hi, hb, hk⟩; refine ⟨_, rfl, ?_⟩; replace HO_112000 := kr_ HI0 HO_112000 hk; replace BK101 := kx_ BK101 NB101_0 hk; replace BK111 := kx_ BK111 NB111_0 hk; replace HO120 := kr_ HI0 HO120 hk; replace HK := Aside0.mk (KeepBut.trans (kb_ HK) hk (.inl rfl)); replace HB := Aside0.mk (hb); replace HI0 := Aside0.mk (hi); (try clear hb); (try clear hb2); (try clear hk); (try clear hi); have hnb44 := NB111_101.out; have hnc44 := NB101_111.out; have hnb45 := NB111_0.out; have hnc45 := NB0_111.out; have hcz46_0 := hz_ BK111; have hfz46_0 := blk_frozen BK111.out 0; obtain ⟨Ao47, co47, eo47⟩ := Kd.R_slice HO_112000.out; subst eo47) | ((with_reducible refine gate_callee (f := 76) rfl ?_); refine gl_ (some 28) rfl rfl Try.func76 #[.agg #[.slice Ao47 x112000_1.length co47]] rfl ?_; (with_reducible refine (spec_l01N.calls k1 _ _ x112000_1 t124 _ ?side1 ?side2 A21.out).mono ?_); (case side1 => exact c1_ HO_112000); (case side2 => exact (Kd.R_reads' HO_112000.out).2.1); rintro e w48 ⟨rfl, hb⟩; refine ⟨_, rfl, ?_⟩; replace HO_112000 := a1_ HO_112000 hb; replace HO120 := a1_ HO120 hb; replace BK101 := a2_ BK101 hb; replace BK111 := a2_ BK111 hb; replace HI0 := i1_ HI0 hb; replace HK := k1_ HK hb; replace HB := b1_ HB hb; (try clear hb); (try clear hb2); (try clear hk); (try clear hi); have hcz49_0 := hz_ BK111; have hfz49_0 := blk_frozen BK111.out 0; have hnb50 := NB101_0.out; have hnc50 := NB0_101.out; have hcz51_0 := hz_ BK101; have hfz51_0 := blk_frozen BK101.out 0))
   refine bodyPost_ret (results_cell_row rfl _ _ gb101 26 #[.slice Ao47 x112000_1.length co47] (0, 0) _ rfl (by (with_reducible repeat (first | refine blk_drewN ?_ _ | refine blk_drew ?_ | refine blk_alloc ?_ _)); refine blk_put (cs := #[.slice none 0 0]) ?_ 0 _ rfl; (with_reducible repeat (first | refine blk_drewN ?_ _ | refine blk_drew ?_ | refine blk_alloc ?_ _)); exact BK101.out) Try.underlying26 rfl (by kernel_rfl)) rfl ?_
   exact ⟨_, t5_, by (with_reducible repeat (first | apply Kd.R_alloc | apply Kd.R_drewN | apply Kd.R_drew)); exact Kd.R_mono (Kd.R_far (p := ⟨gb101, 0, none⟩) (Kd.R_types HO_112000.out BK101.out (by decide)) (fun _ hk => hk.2) (.slice Ao47 x112000_1.length co47)) (fun _ hk => trivial), i_ HI0, gb_ HB.out, kb_ HK⟩
  rw [if_pos c23] at H
  have c23b0 : ((x112000_1.length : Int) == 0) = true := beq_iff_eq.mpr c23
  have c23b1 : ((x112000_1.length : Int) != 0) = false := bne_eq_false_iff_eq.mpr c23
  clear c23
  by_cases c24 : x112000_1.length < 17592186044416
  rotate_left
  ·rw [if_neg c24] at H
   exact absurd H (by simp)
  rw [if_pos c24] at H
  have LMc24 := Aside0.mk c24
  clear c24
  obtain ⟨y125, hy125⟩ : ∃ y_ : List Int, y_ = (x112000_1 ++ [2]) := ⟨_, rfl⟩
  replace H : (some (y125, t122, t123)) = some (r1, r2, r3) := y_ H
  have Ny125 := Aside0.mk hy125
  clear hy125
  simp only [Option.some.injEq, Prod.mk.injEq] at H
  obtain ⟨rfl, rfl, rfl⟩ := H
  go_wp2_with (first | ((with_reducible refine gate_dst (N := 25) rfl ?_); refine Kd.R_lit (Kd.int .i64) _ 2 ?hg (N := 25) ?hd (xs := ([2, 2, 3, 4] : List Int)) (inner := [.int .i64 2, .int .i64 2, .int .i64 3, .int .i64 4]) (ok := fun _ => True) (okp := fun _ => True) ?hr ?hp (fun _ hk => hk) trivial (Below.refl _ _) (Nat.le_refl _) (by simp) ?_; (case hd => rfl); (case hg => rfl); (case hr => exact t3_); (case hp => exact (Reps.one (show Kd.M (Kd.int .i64) _ _ _ 2 [.int .i64 2] from rfl) (Reps.one (show Kd.M (Kd.int .i64) _ _ _ 2 [.int .i64 2] from rfl) (Reps.one (show Kd.M (Kd.int .i64) _ _ _ 3 [.int .i64 3] from rfl) (Reps.one (show Kd.M (Kd.int .i64) _ _ _ 4 [.int .i64 4] from rfl) (Reps.none _ _)))))); intro v119 w25 ho26 hb hg_ hnew_; clear hg_ hnew_; (first | rw [← Ny118.out] at ho26 | (simp only [Int.reduceToNat] at ho26; rw [← Ny118.out] at ho26)); have n0_ := a5_ HO_112000 ho26 hb; have n1_ := Aside0.mk (Kd.R_lower (Kd.R_new' ho26 (Kd.R_lt (rb_ HO_112000.out))) (keep_size (w := w) (g := g) (row := none) (kb_ HK))); have n2_ := a2_ BK101 hb; have n3_ := a2_ BK111 hb; have n4_ := i1_ HI0 hb; have n5_ := k1_ HK hb; have n6_ := b1_ HB hb; clear HO_112000 BK101 BK111 HI0 HK HB; have HO_112000 := n0_; have HO120 := n1_; have BK101 := n2_; have BK111 := n3_; have HI0 := n4_; have HK := n5_; have HB := n6_; clear n0_ n1_ n2_ n3_ n4_ n5_ n6_ hb ho26; obtain ⟨Ao27, co27, eo27⟩ := Kd.R_slice HO120.out; subst eo27) | ((with_reducible refine gate_callee (f := 82) rfl ?_); refine gl_ (some 26) rfl rfl Try.func82 #[.pointer (some ⟨g, 0, none⟩), .slice Ao27 y118.length co27] rfl ?_; (with_reducible refine (spec_l01Pick.calls g s0_0 x1001_1 x1002_1 _ _ y118 t121 t122 t123 w0 _ ?side1 ?side2 ?side3 ?side4 ?side5 A20.out).mono ?_); (case side1 => exact i_ HI0); (case side2 => exact gb_ HB.out); (case side3 => exact c1_ HO120); (case side4 => exact (Kd.R_reads' HO120.out).2.1); (case side5 => exact far_slice (IsS91.own_ne HI0.out HO120.out (by decide))); rintro e w28 ⟨rfl, hi, hb, hk⟩; refine ⟨_, rfl, ?_⟩; replace HO_112000 := kr_ HI0 HO_112000 hk; replace BK101 := kx_ BK101 NB101_0 hk; replace BK111 := kx_ BK111 NB111_0 hk; replace HO120 := kr_ HI0 HO120 hk; replace HK := Aside0.mk (KeepBut.trans (kb_ HK) hk (.inl rfl)); replace HB := Aside0.mk (hb); replace HI0 := Aside0.mk (hi); (try clear hb); (try clear hb2); (try clear hk); (try clear hi); have hnb29 := NB111_101.out; have hnc29 := NB101_111.out; have hnb30 := NB111_0.out; have hnc30 := NB0_111.out; have hcz31_0 := hz_ BK111; have hfz31_0 := blk_frozen BK111.out 0; obtain ⟨Ao32, co32, eo32⟩ := Kd.R_slice HO_112000.out; subst eo32) | ((with_reducible refine gate_callee (f := 76) rfl ?_); refine gl_ (some 28) rfl rfl Try.func76 #[.agg #[.slice Ao32 x112000_1.length co32]] rfl ?_; (with_reducible refine (spec_l01N.calls k1 _ _ x112000_1 t124 _ ?side1 ?side2 A21.out).mono ?_); (case side1 => exact c1_ HO_112000); (case side2 => exact (Kd.R_reads' HO_112000.out).2.1); rintro e w33 ⟨rfl, hb⟩; refine ⟨_, rfl, ?_⟩; replace HO_112000 := a1_ HO_112000 hb; replace HO120 := a1_ HO120 hb; replace BK101 := a2_ BK101 hb; replace BK111 := a2_ BK111 hb; replace HI0 := i1_ HI0 hb; replace HK := k1_ HK hb; replace HB := b1_ HB hb; (try clear hb); (try clear hb2); (try clear hk); (try clear hi); have hcz34_0 := hz_ BK111; have hfz34_0 := blk_frozen BK111.out 0) | ((with_reducible refine gate_builtin (b := .append) (xs := #[.tmp 44, .tmp 45]) rfl ?_); at_builtin; refine Kd.R_append (Kd.int .i64) w.heap.size rfl (.tmp 44) (.tmp 45) 24 2 (.int .i64 0) 8 rfl Try.underlying24 info2 rfl (by decide) (by omega) (.slice Ao32 x112000_1.length co32) x112000_1 2 [.int .i64 2] (fun k_ => OB_ k_ (.slice Ao27 y118.length co27)) (fun _ => False) rfl rfl ?aP (fun _ hk => hk.elim) ?aF ?aO (Below.refl _ _) ?aS ?aL ?_; (case aP => exact rfl); (case aF => exact (fun k_ hk => Kd.fresh' (Kd.R_lt (rb_ HO120.out)) k_ hk)); (case aO => exact (rb_ (Kd.R_mono HO_112000.out (fun _ hk => hk.2)))); (case aS => exact (keep_size (w := w) (g := g) (row := none) (kb_ HK))); (case aL => have := LMc24.out; omega); intro v126 w35 ho hb hg hat; rw [← Ny125.out] at ho; have n0_ := Aside0.mk (blk_grown (g := gb101) (o := .cells #[.slice none 0 0] 26 (0, 0)) (bb_ BK101.out) hg (Kd.R_ne HO_112000.out BK101.out (by decide))); have n1_ := Aside0.mk (blk_grown (g := gb111) (o := .cells #[.slice Ao32 x112000_1.length co32] 26 (0, 0)) (bb_ BK111.out) hg (Kd.R_ne HO_112000.out BK111.out (by decide))); have n2_ := Aside0.mk (IsS91.grown (i_ HI0) hg (IsS91.own_ne HI0.out HO_112000.out (by decide))); have n3_ := Aside0.mk (Kd.R_after (ok := (fun _ => True)) (rb_ HO120.out) hg hat); have n4_ := Aside0.mk (below_weaken (gb_ HB.out) HL.out hb); have n5_ := Aside0.mk (KeepBut.trans (kb_ HK) (KeepBut.of_grown hg g) (Kd.R_base2 HO_112000.out)); have n6_ := Aside0.mk (ho); clear BK101 BK111 HI0 HO120 HB HK HO_112000; have BK101 := n0_; have BK111 := n1_; have HI0 := n2_; have HO120 := n3_; have HB := n4_; have HK := n5_; have HO127 := n6_; clear n0_ n1_ n2_ n3_ n4_ n5_ n6_ ho hb hg hat; obtain ⟨Ao36, co36, eo36⟩ := Kd.R_slice HO127.out; subst eo36; have hcz37_0 := hz_ BK111; have hfz37_0 := blk_frozen BK111.out 0; have hnb38 := NB101_0.out; have hnc38 := NB0_101.out; have hcz39_0 := hz_ BK101; have hfz39_0 := blk_frozen BK101.out 0))
  refine bodyPost_ret (results_cell_row rfl _ _ gb101 26 #[.slice Ao36 y125.length co36] (0, 0) _ rfl (by (with_reducible repeat (first | refine blk_drewN ?_ _ | refine blk_drew ?_ | refine blk_alloc ?_ _)); refine blk_put (cs := #[.slice none 0 0]) ?_ 0 _ rfl; (with_reducible repeat (first | refine blk_drewN ?_ _ | refine blk_drew ?_ | refine blk_alloc ?_ _)); refine blk_far ?_ NB101_111.out _; (with_reducible repeat (first | refine blk_drewN ?_ _ | refine blk_drew ?_ | refine blk_alloc ?_ _)); exact BK101.out) Try.underlying26 rfl (by kernel_rfl)) rfl ?_
  exact ⟨_, t5_, by (with_reducible repeat (first | apply Kd.R_alloc | apply Kd.R_drewN | apply Kd.R_drew)); exact Kd.R_mono (Kd.R_far (p := ⟨gb101, 0, none⟩) (Kd.R_far (p := ⟨gb111, 0, none⟩) (Kd.R_types (Kd.R_types HO127.out BK111.out (by decide)) BK101.out (by decide)) (fun _ hk => hk.1.2) (.slice Ao36 y125.length co36)) (fun _ hk => hk.2) (.slice Ao36 y125.length co36)) (fun _ hk => trivial), i_ HI0, gb_ HB.out, kb_ HK⟩
 rw [if_neg c19] at H
 have c19b0 : (t108 == 0) = false := beq_eq_false_iff_ne.mpr c19
 have c19b1 : (t108 != 0) = true := bne_iff_ne.mpr c19
 replace H := Option.bind_eq_some_iff.mp H
 obtain ⟨t131, A660, H⟩ := H
 replace H : (if (wrap64 (t131 * t108)) > a1 then (if (x112000_1.length : Int) = 0 then (if x112000_1.length < 17592186044416 then (some ((x112000_1 ++ [2]), x1001_1, x1002_1)) else (none)) else (some (x112000_1, x1001_1, x1002_1))) else (if x112000_1.length < 17592186044416 then (spec_l01DrawOf.l0 k1 a1 t108 (wrap64 (x7_1 - 1)) s0_0 x1001_1 x1002_1 (x112000_1 ++ [t108])) else (none))) = some (r1, r2, r3) := H
 have A66 := Aside0.mk A660
 clear A660
 by_cases c67 : (wrap64 (t131 * t108)) > a1
 rotate_left
 ·rw [if_neg c67] at H
  have c67b0 : decide (a1 < (wrap64 (t131 * t108))) = false := decide_eq_false c67
  clear c67
  by_cases c89 : x112000_1.length < 17592186044416
  rotate_left
  ·rw [if_neg c89] at H
   exact absurd H (by simp)
  rw [if_pos c89] at H
  have LMc89 := Aside0.mk c89
  clear c89
  obtain ⟨y135, hy135⟩ : ∃ y_ : List Int, y_ = (x112000_1 ++ [t108]) := ⟨_, rfl⟩
  replace H : (spec_l01DrawOf.l0 k1 a1 t108 (wrap64 (x7_1 - 1)) s0_0 x1001_1 x1002_1 y135) = some (r1, r2, r3) := y_ H
  have Ny135 := Aside0.mk hy135
  clear hy135
  have H' := Aside0.mk H
  clear H
  have hnb90 := NB111_101.out
  have hnc90 := NB101_111.out
  have hnb91 := NB111_0.out
  have hnc91 := NB0_111.out
  have hcz92_0 := hz_ BK111
  have hfz92_0 := blk_frozen BK111.out 0
  obtain ⟨Ao93, co93, eo93⟩ := Kd.R_slice HO_112000.out
  subst eo93
  go_wp2_with (first | ((with_reducible refine gate_callee (f := 76) rfl ?_); refine gl_ (some 28) rfl rfl Try.func76 #[.agg #[.slice Ao93 x112000_1.length co93]] rfl ?_; (with_reducible refine (spec_l01N.calls k1 _ _ x112000_1 t131 _ ?side1 ?side2 A66.out).mono ?_); (case side1 => exact c1_ HO_112000); (case side2 => exact (Kd.R_reads' HO_112000.out).2.1); rintro e w94 ⟨rfl, hb⟩; refine ⟨_, rfl, ?_⟩; replace HO_112000 := a1_ HO_112000 hb; replace BK101 := a2_ BK101 hb; replace BK111 := a2_ BK111 hb; replace HI0 := i1_ HI0 hb; replace HK := k1_ HK hb; replace HB := b1_ HB hb; (try clear hb); (try clear hb2); (try clear hk); (try clear hi); have hcz95_0 := hz_ BK111; have hfz95_0 := blk_frozen BK111.out 0) | ((with_reducible refine gate_builtin (b := .append) (xs := #[.tmp 34, .tmp 36]) rfl ?_); at_builtin; refine Kd.R_append (Kd.int .i64) w.heap.size rfl (.tmp 34) (.tmp 36) 24 2 (.int .i64 0) 8 rfl Try.underlying24 info2 rfl (by decide) (by omega) (.slice Ao93 x112000_1.length co93) x112000_1 t108 [.int .i64 t108] (fun _ => True) (fun _ => False) rfl rfl ?aP (fun _ hk => hk.elim) ?aF ?aO (Below.refl _ _) ?aS ?aL ?_; (case aP => exact rfl); (case aF => exact (fun _ _ => trivial)); (case aO => exact (rb_ HO_112000.out)); (case aS => exact (keep_size (w := w) (g := g) (row := none) (kb_ HK))); (case aL => have := LMc89.out; omega); intro v136 w96 ho hb hg hat; rw [← Ny135.out] at ho; have n0_ := Aside0.mk (blk_grown (g := gb101) (o := .cells #[.slice none 0 0] 26 (0, 0)) (bb_ BK101.out) hg (Kd.R_ne HO_112000.out BK101.out (by decide))); have n1_ := Aside0.mk (blk_grown (g := gb111) (o := .cells #[.slice Ao93 x112000_1.length co93] 26 (0, 0)) (bb_ BK111.out) hg (Kd.R_ne HO_112000.out BK111.out (by decide))); have n2_ := Aside0.mk (IsS91.grown (i_ HI0) hg (IsS91.own_ne HI0.out HO_112000.out (by decide))); have n3_ := Aside0.mk (below_weaken (gb_ HB.out) HL.out hb); have n4_ := Aside0.mk (KeepBut.trans (kb_ HK) (KeepBut.of_grown hg g) (Kd.R_base2 HO_112000.out)); have n5_ := Aside0.mk (ho); clear BK101 BK111 HI0 HB HK HO_112000; have BK101 := n0_; have BK111 := n1_; have HI0 := n2_; have HB := n3_; have HK := n4_; have HO137 := n5_; clear n0_ n1_ n2_ n3_ n4_ n5_ ho hb hg hat; obtain ⟨Ao97, co97, eo97⟩ := Kd.R_slice HO137.out; subst eo97; have hcz98_0 := hz_ BK111; have hfz98_0 := blk_frozen BK111.out 0))
  go_roundg k1
  case measure => have := HK1.out; omega
  case rel => exact ⟨(wrap64 (x7_1 - 1)), (x1001_1), (x1002_1), (y135), (.slice Ao97 y135.length co97), t2_, H', ⟨by have := HK1.out; omega⟩, ⟨by (with_reducible repeat (first | apply Kd.R_alloc | apply Kd.R_drewN | apply Kd.R_drew)); exact Kd.R_mono (Kd.R_far (p := ⟨gb111, 0, none⟩) (Kd.R_types HO137.out BK111.out (by decide)) (fun _ hk => hk.2) (.slice Ao97 y135.length co97)) (fun _ hk => trivial)⟩, ⟨by (with_reducible repeat (first | refine blk_drewN ?_ _ | refine blk_drew ?_ | refine blk_alloc ?_ _)); refine blk_far ?_ NB101_111.out _; (with_reducible repeat (first | refine blk_drewN ?_ _ | refine blk_drew ?_ | refine blk_alloc ?_ _)); exact BK101.out⟩, ⟨by (with_reducible repeat (first | refine blk_drewN ?_ _ | refine blk_drew ?_ | refine blk_alloc ?_ _)); refine blk_put (cs := #[.slice Ao93 x112000_1.length co93]) ?_ 0 _ rfl; (with_reducible repeat (first | refine blk_drewN ?_ _ | refine blk_drew ?_ | refine blk_alloc ?_ _)); exact BK111.out⟩, ⟨i_ HI0⟩, ⟨kb_ HK⟩, ⟨gb_ HB.out⟩⟩
 rw [if_pos c67] at H
 have c67b0 : decide (a1 < (wrap64 (t131 * t108))) = true := decide_eq_true c67
 clear c67
 by_cases c68 : (x112000_1.length : Int) = 0
 rotate_left
 ·rw [if_neg c68] at H
  have c68b0 : ((x112000_1.length : Int) == 0) = false := beq_eq_false_iff_ne.mpr c68
  have c68b1 : ((x112000_1.length : Int) != 0) = true := bne_iff_ne.mpr c68
  have c68b2 : ¬ (x112000_1 = []) := fun h_ => c68 (by rw [h_]; rfl)
  simp only [Option.some.injEq, Prod.mk.injEq] at H
  obtain ⟨rfl, rfl, rfl⟩ := H
  have hnb81 := NB111_101.out
  have hnc81 := NB101_111.out
  have hnb82 := NB111_0.out
  have hnc82 := NB0_111.out
  have hcz83_0 := hz_ BK111
  have hfz83_0 := blk_frozen BK111.out 0
  obtain ⟨Ao84, co84, eo84⟩ := Kd.R_slice HO_112000.out
  subst eo84
  go_wp2_with (first | ((with_reducible refine gate_callee (f := 76) rfl ?_); refine gl_ (some 28) rfl rfl Try.func76 #[.agg #[.slice Ao84 x112000_1.length co84]] rfl ?_; (with_reducible refine (spec_l01N.calls k1 _ _ x112000_1 t131 _ ?side1 ?side2 A66.out).mono ?_); (case side1 => exact c1_ HO_112000); (case side2 => exact (Kd.R_reads' HO_112000.out).2.1); rintro e w85 ⟨rfl, hb⟩; refine ⟨_, rfl, ?_⟩; replace HO_112000 := a1_ HO_112000 hb; replace BK101 := a2_ BK101 hb; replace BK111 := a2_ BK111 hb; replace HI0 := i1_ HI0 hb; replace HK := k1_ HK hb; replace HB := b1_ HB hb; (try clear hb); (try clear hb2); (try clear hk); (try clear hi); have hcz86_0 := hz_ BK111; have hfz86_0 := blk_frozen BK111.out 0; have hnb87 := NB101_0.out; have hnc87 := NB0_101.out; have hcz88_0 := hz_ BK101; have hfz88_0 := blk_frozen BK101.out 0))
  refine bodyPost_ret (results_cell_row rfl _ _ gb101 26 #[.slice Ao84 x112000_1.length co84] (0, 0) _ rfl (by (with_reducible repeat (first | refine blk_drewN ?_ _ | refine blk_drew ?_ | refine blk_alloc ?_ _)); refine blk_put (cs := #[.slice none 0 0]) ?_ 0 _ rfl; (with_reducible repeat (first | refine blk_drewN ?_ _ | refine blk_drew ?_ | refine blk_alloc ?_ _)); exact BK101.out) Try.underlying26 rfl (by kernel_rfl)) rfl ?_
  exact ⟨_, t5_, by (with_reducible repeat (first | apply Kd.R_alloc | apply Kd.R_drewN | apply Kd.R_drew)); exact Kd.R_mono (Kd.R_far (p := ⟨gb101, 0, none⟩) (Kd.R_types HO_112000.out BK101.out (by decide)) (fun _ hk => hk.2) (.slice Ao84 x112000_1.length co84)) (fun _ hk => trivial), i_ HI0, gb_ HB.out, kb_ HK⟩
 rw [if_pos c68] at H
 have c68b0 : ((x112000_1.length : Int) == 0) = true := beq_iff_eq.mpr c68
 have c68b1 : ((x112000_1.length : Int) != 0) = false := bne_eq_false_iff_eq.mpr c68
 clear c68
 by_cases c69 : x112000_1.length < 17592186044416
 rotate_left
 ·rw [if_neg c69] at H
  exact absurd H (by simp)
 rw [if_pos c69] at H
 have LMc69 := Aside0.mk c69
 clear c69
 obtain ⟨y132, hy132⟩ : ∃ y_ : List Int, y_ = (x112000_1 ++ [2]) := ⟨_, rfl⟩
 replace H : (some (y132, x1001_1, x1002_1)) = some (r1, r2, r3) := y_ H
 have Ny132 := Aside0.mk hy132
 clear hy132
 simp only [Option.some.injEq, Prod.mk.injEq] at H
 obtain ⟨rfl, rfl, rfl⟩ := H
 have hnb70 := NB111_101.out
 have hnc70 := NB101_111.out
 have hnb71 := NB111_0.out
 have hnc71 := NB0_111.out
 have hcz72_0 := hz_ BK111
 have hfz72_0 := blk_frozen BK111.out 0
 obtain ⟨Ao73, co73, eo73⟩ := Kd.R_slice HO_112000.out
 subst eo73
 go_wp2_with (first | ((with_reducible refine gate_callee (f := 76) rfl ?_); refine gl_ (some 28) rfl rfl Try.func76 #[.agg #[.slice Ao73 x112000_1.length co73]] rfl ?_; (with_reducible refine (spec_l01N.calls k1 _ _ x112000_1 t131 _ ?side1 ?side2 A66.out).mono ?_); (case side1 => exact c1_ HO_112000); (case side2 => exact (Kd.R_reads' HO_112000.out).2.1); rintro e w74 ⟨rfl, hb⟩; refine ⟨_, rfl, ?_⟩; replace HO_112000 := a1_ HO_112000 hb; replace BK101 := a2_ BK101 hb; replace BK111 := a2_ BK111 hb; replace HI0 := i1_ HI0 hb; replace HK := k1_ HK hb; replace HB := b1_ HB hb; (try clear hb); (try clear hb2); (try clear hk); (try clear hi); have hcz75_0 := hz_ BK111; have hfz75_0 := blk_frozen BK111.out 0) | ((with_reducible refine gate_builtin (b := .append) (xs := #[.tmp 44, .tmp 45]) rfl ?_); at_builtin; refine Kd.R_append (Kd.int .i64) w.heap.size rfl (.tmp 44) (.tmp 45) 24 2 (.int .i64 0) 8 rfl Try.underlying24 info2 rfl (by decide) (by omega) (.slice Ao73 x112000_1.length co73) x112000_1 2 [.int .i64 2] (fun _ => True) (fun _ => False) rfl rfl ?aP (fun _ hk => hk.elim) ?aF ?aO (Below.refl _ _) ?aS ?aL ?_; (case aP => exact rfl); (case aF => exact (fun _ _ => trivial)); (case aO => exact (rb_ HO_112000.out)); (case aS => exact (keep_size (w := w) (g := g) (row := none) (kb_ HK))); (case aL => have := LMc69.out; omega); intro v133 w76 ho hb hg hat; rw [← Ny132.out] at ho; have n0_ := Aside0.mk (blk_grown (g := gb101) (o := .cells #[.slice none 0 0] 26 (0, 0)) (bb_ BK101.out) hg (Kd.R_ne HO_112000.out BK101.out (by decide))); have n1_ := Aside0.mk (blk_grown (g := gb111) (o := .cells #[.slice Ao73 x112000_1.length co73] 26 (0, 0)) (bb_ BK111.out) hg (Kd.R_ne HO_112000.out BK111.out (by decide))); have n2_ := Aside0.mk (IsS91.grown (i_ HI0) hg (IsS91.own_ne HI0.out HO_112000.out (by decide))); have n3_ := Aside0.mk (below_weaken (gb_ HB.out) HL.out hb); have n4_ := Aside0.mk (KeepBut.trans (kb_ HK) (KeepBut.of_grown hg g) (Kd.R_base2 HO_112000.out)); have n5_ := Aside0.mk (ho); clear BK101 BK111 HI0 HB HK HO_112000; have BK101 := n0_; have BK111 := n1_; have HI0 := n2_; have HB := n3_; have HK := n4_; have HO134 := n5_; clear n0_ n1_ n2_ n3_ n4_ n5_ ho hb hg hat; obtain ⟨Ao77, co77, eo77⟩ := Kd.R_slice HO134.out; subst eo77; have hcz78_0 := hz_ BK111; have hfz78_0 := blk_frozen BK111.out 0; have hnb79 := NB101_0.out; have hnc79 := NB0_101.out; have hcz80_0 := hz_ BK101; have hfz80_0 := blk_frozen BK101.out 0))
 refine bodyPost_ret (results_cell_row rfl _ _ gb101 26 #[.slice Ao77 y132.length co77] (0, 0) _ rfl (by (with_reducible repeat (first | refine blk_drewN ?_ _ | refine blk_drew ?_ | refine blk_alloc ?_ _)); refine blk_put (cs := #[.slice none 0 0]) ?_ 0 _ rfl; (with_reducible repeat (first | refine blk_drewN ?_ _ | refine blk_drew ?_ | refine blk_alloc ?_ _)); refine blk_far ?_ NB101_111.out _; (with_reducible repeat (first | refine blk_drewN ?_ _ | refine blk_drew ?_ | refine blk_alloc ?_ _)); exact BK101.out) Try.underlying26 rfl (by kernel_rfl)) rfl ?_
 exact ⟨_, t5_, by (with_reducible repeat (first | apply Kd.R_alloc | apply Kd.R_drewN | apply Kd.R_drew)); exact Kd.R_mono (Kd.R_far (p := ⟨gb101, 0, none⟩) (Kd.R_far (p := ⟨gb111, 0, none⟩) (Kd.R_types (Kd.R_types HO134.out BK111.out (by decide)) BK101.out (by decide)) (fun _ hk => hk.1.2) (.slice Ao77 y132.length co77)) (fun _ hk => hk.2) (.slice Ao77 y132.length co77)) (fun _ hk => trivial), i_ HI0, gb_ HB.out, kb_ HK⟩
def spec_l01Bad.l0 : Nat → List Int → Int → Int → List Int → Option (List Int × Int × Int)
  | 0, _, _, _, _ => none
  | k + 1, x1000, x1001, x1002, x107000 => if (x107000.length : Int) < 6 then (if x107000.length < 17592186044416 then (spec_l01Bad.l0 k x1000 x1001 x1002 (x107000 ++ [4])) else (none)) else (some (x107000, x1001, x1002))
def spec_l01Bad.f (k : Nat) (s0_0 : List Int) (s0_1 : Int) (s0_2 : Int) (l1_0 : List Int) : Option (List Int × Int × Int) := (spec_l01Own.f l1_0).bind fun t103 => ((spec_l01Next.f s0_0 s0_1 s0_2 50).bind fun bt107 => (if bt107.1 = 0 then (some (([] : List Int), bt107.2.1, bt107.2.2)) else (if bt107.1 = 1 then ((spec_l01Next.f s0_0 bt107.2.1 bt107.2.2 (t103.length : Int)).bind fun bt110 => ((spec_l01Pick.f s0_0 bt110.2.1 bt110.2.2 (([1, 5, 0, (-1), 1099511627776] : List Int))).bind fun bt116 => (if 0 ≤ bt110.1 then (if bt110.1 < (t103.length : Int) then (some ((t103.set (bt110.1 : Int).toNat bt116.1), bt116.2.1, bt116.2.2)) else (none)) else (none)))) else (if bt107.1 = 2 then (spec_l01Bad.l0 k s0_0 bt107.2.1 bt107.2.2 t103) else (some (l1_0, bt107.2.1, bt107.2.2))))))
def spec_l01Bad.T6 : Bool × List (List Nat × List Nat) := (true, [([], []), ([0], [0]), ([], []), ([], []), ([3], [3]), ([4], [4]), ([2, 5], [2, 5]), ([], []), ([], []), ([7, 8, 6], [7, 8]), ([1, 6, 0, 1, 2, 3, 4, 5, 6, 7, 8, 9], [1, 6]), ([10, 9, 9, 0, 1, 2, 3, 4, 5, 6, 7, 8, 9], [9, 10])])
def spec_l01Bad.B6 : List Nat := [0, 1, 0, 0, 8, 24, 60, 0, 0, 508, 1023, 2047]
theorem spec_l01Bad.tab6 : rtab .any (opsOf Try.f81 6) = spec_l01Bad.T6 := by kernel_rfl
theorem spec_l01Bad.bits6 : waitsOk spec_l01Bad.T6.2 spec_l01Bad.B6 = true := by kernel_rfl
set_option maxHeartbeats 8000000 in
set_option maxRecDepth 100000 in
theorem spec_l01Bad.callsS (k : Nat) (g : Nat) (s0_0 : List Int) (s0_1 : Int) (s0_2 : Int) (PX_ : Nat → Prop) (P1_0_ : Nat → Prop) (u9000_ : Value) (l1_0 : List Int) (r1 : List Int) (r2 : Int) (r3 : Int) (w0 w : World) (hI : IsS91 w0 w g s0_0 s0_1 s0_2) (hB : Below w0.heap.size w0 w) (ho1_0 : Kd.R (Kd.int .i64) 2 w w0.heap.size PX_ u9000_ l1_0) (h : spec_l01Bad.f k s0_0 s0_1 s0_2 l1_0 = some (r1, r2, r3)) :
  Calls Try.prog 81 #[.pointer (some ⟨g, 0, none⟩), .agg #[u9000_]] w fun e w' => ∃ v0_ : Value, e = .returned (.agg #[v0_]) ∧ Kd.R (Kd.int .i64) 2 w' w0.heap.size (fun k_ => ((PX_ k_ ∨ P1_0_ k_) ∨ w.heap.size ≤ k_)) v0_ r1 ∧ IsS91 w0 w' g s0_0 r2 r3 ∧ Below w0.heap.size w0 w' ∧ Kept w w' (fun k_ => (P1_0_ k_) ∨ k_ = g) := by
 have hu26 := Try.underlying26
 have HO1_0 := Aside0.mk (show Kd.R (Kd.int .i64) 2 w w0.heap.size (fun k_ => (PX_ k_ ∨ w.heap.size ≤ k_)) u9000_ l1_0 from Kd.R_mono ho1_0 (fun k_ hk => (.inl hk)))
 have HI0 := Aside0.mk hI
 have HL := Aside0.mk hB.size
 clear hI
 have HK := Aside0.mk (Kept.refl w (fun k_ => (P1_0_ k_) ∨ k_ = g))
 have HW0 := Aside0.mk hB.size
 have HB := Aside0.mk hB
 clear hB
 have H : ((spec_l01Own.f l1_0).bind fun t103 => ((spec_l01Next.f s0_0 s0_1 s0_2 50).bind fun bt107 => (if bt107.1 = 0 then (some (([] : List Int), bt107.2.1, bt107.2.2)) else (if bt107.1 = 1 then ((spec_l01Next.f s0_0 bt107.2.1 bt107.2.2 (t103.length : Int)).bind fun bt110 => ((spec_l01Pick.f s0_0 bt110.2.1 bt110.2.2 (([1, 5, 0, (-1), 1099511627776] : List Int))).bind fun bt116 => (if 0 ≤ bt110.1 then (if bt110.1 < (t103.length : Int) then (some ((t103.set (bt110.1 : Int).toNat bt116.1), bt116.2.1, bt116.2.2)) else (none)) else (none)))) else (if bt107.1 = 2 then (spec_l01Bad.l0 k s0_0 bt107.2.1 bt107.2.2 t103) else (some (l1_0, bt107.2.1, bt107.2.2))))))) = some (r1, r2, r3) := h
 clear h
 replace H := Option.bind_eq_some_iff.mp H
 obtain ⟨t103, A30, H⟩ := H
 replace H : ((spec_l01Next.f s0_0 s0_1 s0_2 50).bind fun bt107 => (if bt107.1 = 0 then (some (([] : List Int), bt107.2.1, bt107.2.2)) else (if bt107.1 = 1 then ((spec_l01Next.f s0_0 bt107.2.1 bt107.2.2 (t103.length : Int)).bind fun bt110 => ((spec_l01Pick.f s0_0 bt110.2.1 bt110.2.2 (([1, 5, 0, (-1), 1099511627776] : List Int))).bind fun bt116 => (if 0 ≤ bt110.1 then (if bt110.1 < (t103.length : Int) then (some ((t103.set (bt110.1 : Int).toNat bt116.1), bt116.2.1, bt116.2.2)) else (none)) else (none)))) else (if bt107.1 = 2 then (spec_l01Bad.l0 k s0_0 bt107.2.1 bt107.2.2 t103) else (some (l1_0, bt107.2.1, bt107.2.2)))))) = some (r1, r2, r3) := H
 have A3 := Aside0.mk A30
 clear A30
 replace H := Option.bind_eq_some_iff.mp H
 obtain ⟨⟨t107, t108, t109⟩, A40, H⟩ := H
 replace H : (if t107 = 0 then (some (([] : List Int), t108, t109)) else (if t107 = 1 then ((spec_l01Next.f s0_0 t108 t109 (t103.length : Int)).bind fun bt110 => ((spec_l01Pick.f s0_0 bt110.2.1 bt110.2.2 (([1, 5, 0, (-1), 1099511627776] : List Int))).bind fun bt116 => (if 0 ≤ bt110.1 then (if bt110.1 < (t103.length : Int) then (some ((t103.set (bt110.1 : Int).toNat bt116.1), bt116.2.1, bt116.2.2)) else (none)) else (none)))) else (if t107 = 2 then (spec_l01Bad.l0 k s0_0 t108 t109 t103) else (some (l1_0, t108, t109))))) = some (r1, r2, r3) := H
 have A4 := Aside0.mk A40
 clear A40
 by_cases c5 : t107 = 0
 ·rw [if_pos c5] at H
  have c5b0 : (t107 == 0) = true := beq_iff_eq.mpr c5
  have c5b1 : (t107 != 0) = false := bne_eq_false_iff_eq.mpr c5
  clear c5
  simp only [Option.some.injEq, Prod.mk.injEq] at H
  obtain ⟨rfl, rfl, rfl⟩ := H
  obtain ⟨Ao6, co6, eo6⟩ := Kd.R_slice HO1_0.out
  subst eo6
  go_enter Try.func81, Try.ntmps81
  go_wp2_with (first | ((with_reducible refine gate_dst (N := 3) rfl ?_); refine bx_ (N := 3) (cs := #[.slice Ao6 l1_0.length co6]) (t := 26) rfl rfl ?_; intro gb101 hg w7 hbox hb; have n0_ := a1_ HO1_0 hb; have n1_ := i1_ HI0 hb; have n2_ := Aside0.mk (Kept.below (S := (fun k_ => (P1_0_ k_) ∨ k_ = g)) (kt_ HK) hb); have n3_ := b1_ HB hb; have n4_ := Aside0.mk (hbox); have n5_ := Aside0.mk ((by rw [hg]; exact (by first | exact HK.out.1 | exact (show Kept w _ (fun k_ => (P1_0_ k_) ∨ k_ = g) from kt_ HK).1) : w.heap.size ≤ gb101)); have n6_ := ge_ hg HB; have n7_ := il_ hg HI0; have n8_ := ir_ hg HI0; clear HO1_0 HI0 HK HB; have HO1_0 := n0_; have HI0 := n1_; have HK := n2_; have HB := n3_; have BK101 := n4_; have GW101 := n5_; have GE101 := n6_; have NB0_101 := n7_; have NB101_0 := n8_; clear n0_ n1_ n2_ n3_ n4_ n5_ n6_ n7_ n8_ hb hbox hg) | ((with_reducible refine gate_dst (N := 4) rfl ?_); refine bx_ (N := 4) (cs := #[.slice none 0 0]) (t := 26) rfl rfl ?_; intro gb102 hg w8 hbox hb; have n0_ := a1_ HO1_0 hb; have n1_ := i1_ HI0 hb; have n2_ := a2_ BK101 hb; have n3_ := Aside0.mk (Kept.below (S := (fun k_ => (P1_0_ k_) ∨ k_ = g)) (kt_ HK) hb); have n4_ := b1_ HB hb; have n5_ := Aside0.mk (hbox); have n6_ := Aside0.mk ((by rw [hg]; exact (by first | exact HK.out.1 | exact (show Kept w _ (fun k_ => (P1_0_ k_) ∨ k_ = g) from kt_ HK).1) : w.heap.size ≤ gb102)); have n7_ := ge_ hg HB; have n8_ := nl_ hg BK101; have n9_ := nr_ hg BK101; have n10_ := il_ hg HI0; have n11_ := ir_ hg HI0; clear HO1_0 HI0 BK101 HK HB; have HO1_0 := n0_; have HI0 := n1_; have BK101 := n2_; have HK := n3_; have HB := n4_; have BK102 := n5_; have GW102 := n6_; have GE102 := n7_; have NB101_102 := n8_; have NB102_101 := n9_; have NB0_102 := n10_; have NB102_0 := n11_; clear n0_ n1_ n2_ n3_ n4_ n5_ n6_ n7_ n8_ n9_ n10_ n11_ hb hbox hg; have hnb9 := NB101_102.out; have hnc9 := NB102_101.out; have hnb10 := NB101_0.out; have hnc10 := NB0_101.out; have hcz11_0 := hz_ BK101; have hfz11_0 := blk_frozen BK101.out 0) | ((with_reducible refine gate_callee (f := 115) rfl ?_); refine gl_ (some 8) rfl rfl Try.func115 #[.slice Ao6 l1_0.length co6] rfl ?_; (with_reducible refine (spec_l01Own.calls _ _ l1_0 t103 _ ?side1 ?side2 A3.out).mono ?_); (case side1 => exact c1_ HO1_0); (case side2 => exact (Kd.R_reads' HO1_0.out).2.1); rintro e w12 ⟨v104, rfl, ho0, hb⟩; refine ⟨_, rfl, ?_⟩; have HO105 := Aside0.mk (Kd.R_lower (Kd.R_new' (Kd.R_newM (M := fun k_ => (P1_0_ k_ ∨ w.heap.size ≤ k_)) ho0 (by first | exact HK.out.1 | exact (show Kept w _ (fun k_ => (P1_0_ k_) ∨ k_ = g) from kt_ HK).1) (fun k_ h_ => .inr h_)) (Kd.R_lt (rb_ HO1_0.out))) (below_size (gb_ HB.out))); replace HO1_0 := a5_ HO1_0 ho0 hb; replace HI0 := i1_ HI0 hb; replace BK101 := a2_ BK101 hb; replace BK102 := a2_ BK102 hb; replace HK := Aside0.mk (Kept.below (S := (fun k_ => (P1_0_ k_) ∨ k_ = g)) (kt_ HK) hb); replace HB := b1_ HB hb; (try clear hb); (try clear hb2); (try clear hk); (try clear hi); (try clear ho0); obtain ⟨Ao13, co13, eo13⟩ := Kd.R_slice HO105.out; subst eo13) | ((with_reducible refine gate_dst (N := 5) rfl ?_); refine bx_ (N := 5) (cs := #[.slice none 0 0]) (t := 26) rfl rfl ?_; intro gb106 hg w14 hbox hb; have n0_ := a1_ HO1_0 hb; have n1_ := a1_ HO105 hb; have n2_ := i1_ HI0 hb; have n3_ := a2_ BK101 hb; have n4_ := a2_ BK102 hb; have n5_ := Aside0.mk (Kept.below (S := (fun k_ => (P1_0_ k_) ∨ k_ = g)) (kt_ HK) hb); have n6_ := b1_ HB hb; have n7_ := Aside0.mk (hbox); have n8_ := Aside0.mk ((by rw [hg]; exact (by first | exact HK.out.1 | exact (show Kept w _ (fun k_ => (P1_0_ k_) ∨ k_ = g) from kt_ HK).1) : w.heap.size ≤ gb106)); have n9_ := ge_ hg HB; have n10_ := nl_ hg BK101; have n11_ := nr_ hg BK101; have n12_ := nl_ hg BK102; have n13_ := nr_ hg BK102; have n14_ := il_ hg HI0; have n15_ := ir_ hg HI0; clear HO1_0 HO105 HI0 BK101 BK102 HK HB; have HO1_0 := n0_; have HO105 := n1_; have HI0 := n2_; have BK101 := n3_; have BK102 := n4_; have HK := n5_; have HB := n6_; have BK106 := n7_; have GW106 := n8_; have GE106 := n9_; have NB101_106 := n10_; have NB106_101 := n11_; have NB102_106 := n12_; have NB106_102 := n13_; have NB0_106 := n14_; have NB106_0 := n15_; clear n0_ n1_ n2_ n3_ n4_ n5_ n6_ n7_ n8_ n9_ n10_ n11_ n12_ n13_ n14_ n15_ hb hbox hg; have hnb15 := NB106_101.out; have hnc15 := NB101_106.out; have hnb16 := NB106_102.out; have hnc16 := NB102_106.out; have hnb17 := NB106_0.out; have hnc17 := NB0_106.out; have hcz18_0 := hz_ BK106; have hfz18_0 := blk_frozen BK106.out 0) | ((with_reducible refine gate_callee (f := 85) rfl ?_); refine gl_ (some 11) rfl rfl Try.func85 #[.pointer (some ⟨g, 0, none⟩), .int .i64 50] rfl ?_; (with_reducible refine (spec_l01Next.calls g s0_0 s0_1 s0_2 50 t107 t108 t109 w0 _ ?side1 ?side2 A4.out).mono ?_); (case side1 => exact i_ HI0); (case side2 => exact gb_ HB.out); rintro e w19 ⟨rfl, hi, hb, hk⟩; refine ⟨_, rfl, ?_⟩; replace HO1_0 := Aside0.mk (Kd.R_mono (Kd.R_keep (IsS91.apart (show IsS91 w0 _ g s0_0 s0_1 s0_2 from i_ HI0) (rb_ (Kd.R_mono (Kd.R_far (p := ⟨gb106, 0, none⟩) (Kd.R_types HO1_0.out BK106.out (by decide)) (fun _ hk => hk.2) (.slice Ao13 t103.length co13)) (fun _ h_ => h_.1))) (by decide)) hk (fun _ h => h.2)) (fun _ h => h.1)); replace BK101 := Aside0.mk (KeepBut.blk hk (g' := gb101) (o := .cells #[.slice Ao6 l1_0.length co6] 26 (0, 0)) (by (with_reducible repeat (first | refine blk_drewN ?_ _ | refine blk_drew ?_ | refine blk_alloc ?_ _)); refine blk_far ?_ NB101_106.out _; (with_reducible repeat (first | refine blk_drewN ?_ _ | refine blk_drew ?_ | refine blk_alloc ?_ _)); exact BK101.out) NB101_0.out (by simp)); replace BK102 := Aside0.mk (KeepBut.blk hk (g' := gb102) (o := .cells #[.slice none 0 0] 26 (0, 0)) (by (with_reducible repeat (first | refine blk_drewN ?_ _ | refine blk_drew ?_ | refine blk_alloc ?_ _)); refine blk_far ?_ NB102_106.out _; (with_reducible repeat (first | refine blk_drewN ?_ _ | refine blk_drew ?_ | refine blk_alloc ?_ _)); exact BK102.out) NB102_0.out (by simp)); replace HO105 := Aside0.mk (Kd.R_mono (Kd.R_keep (IsS91.apart (show IsS91 w0 _ g s0_0 s0_1 s0_2 from i_ HI0) (rb_ (Kd.R_mono (Kd.R_far (p := ⟨gb106, 0, none⟩) (Kd.R_types HO105.out BK106.out (by decide)) (fun _ hk => hk.2) (.slice Ao13 t103.length co13)) (fun _ h_ => h_.1))) (by decide)) hk (fun _ h => h.2)) (fun _ h => h.1)); replace BK106 := Aside0.mk (KeepBut.blk hk (g' := gb106) (o := .cells #[.slice Ao13 t103.length co13] 26 (0, 0)) (by (with_reducible repeat (first | refine blk_drewN ?_ _ | refine blk_drew ?_ | refine blk_alloc ?_ _)); refine blk_put (cs := #[.slice none 0 0]) ?_ 0 _ rfl; (with_reducible repeat (first | refine blk_drewN ?_ _ | refine blk_drew ?_ | refine blk_alloc ?_ _)); exact BK106.out) NB106_0.out (by simp)); replace HK := Aside0.mk (Kept.of_keep (S := (fun k_ => (P1_0_ k_) ∨ k_ = g)) (kt_ HK) hk (.inl (.inr rfl))); replace HB := Aside0.mk (hb); replace HI0 := Aside0.mk (hi); (try clear hb); (try clear hb2); (try clear hk); (try clear hi); have hnb20 := NB102_0.out; have hnc20 := NB0_102.out; have hcz21_0 := hz_ BK102; have hfz21_0 := blk_frozen BK102.out 0))
  refine bodyPost_ret (results_cell_row rfl _ _ gb102 26 #[.slice none 0 0] (0, 0) _ rfl (by (with_reducible repeat (first | refine blk_drewN ?_ _ | refine blk_drew ?_ | refine blk_alloc ?_ _)); refine blk_put (cs := #[.slice none 0 0]) ?_ 0 _ rfl; (with_reducible repeat (first | refine blk_drewN ?_ _ | refine blk_drew ?_ | refine blk_alloc ?_ _)); exact BK102.out) Try.underlying26 rfl (by kernel_rfl)) rfl ?_
  exact ⟨_, t5_, by first | exact Kd.R_nil _ _ _ _ _ | exact Kd.N_nil _ _ _ _ _ | exact Kd.V_nil _ _ _ _ _ | exact Kd.Q_nil _ _ _ _ _ | exact Kd.S_nil _ _ _ _ _, i_ HI0, gb_ HB.out, kt_ HK⟩
 rw [if_neg c5] at H
 have c5b0 : (t107 == 0) = false := beq_eq_false_iff_ne.mpr c5
 have c5b1 : (t107 != 0) = true := bne_iff_ne.mpr c5
 by_cases c22 : t107 = 1
 rotate_left
 ·rw [if_neg c22] at H
  have c22b0 : (t107 == 1) = false := beq_eq_false_iff_ne.mpr c22
  have c22b1 : (t107 != 1) = true := bne_iff_ne.mpr c22
  by_cases c54 : t107 = 2
  rotate_left
  ·rw [if_neg c54] at H
   have c54b0 : (t107 == 2) = false := beq_eq_false_iff_ne.mpr c54
   have c54b1 : (t107 != 2) = true := bne_iff_ne.mpr c54
   simp only [Option.some.injEq, Prod.mk.injEq] at H
   obtain ⟨rfl, rfl, rfl⟩ := H
   obtain ⟨Ao87, co87, eo87⟩ := Kd.R_slice HO1_0.out
   subst eo87
   go_enter Try.func81, Try.ntmps81
   go_wp2_with (first | ((with_reducible refine gate_dst (N := 3) rfl ?_); refine bx_ (N := 3) (cs := #[.slice Ao87 l1_0.length co87]) (t := 26) rfl rfl ?_; intro gb101 hg w88 hbox hb; have n0_ := a1_ HO1_0 hb; have n1_ := i1_ HI0 hb; have n2_ := Aside0.mk (Kept.below (S := (fun k_ => (P1_0_ k_) ∨ k_ = g)) (kt_ HK) hb); have n3_ := b1_ HB hb; have n4_ := Aside0.mk (hbox); have n5_ := Aside0.mk ((by rw [hg]; exact (by first | exact HK.out.1 | exact (show Kept w _ (fun k_ => (P1_0_ k_) ∨ k_ = g) from kt_ HK).1) : w.heap.size ≤ gb101)); have n6_ := ge_ hg HB; have n7_ := il_ hg HI0; have n8_ := ir_ hg HI0; clear HO1_0 HI0 HK HB; have HO1_0 := n0_; have HI0 := n1_; have HK := n2_; have HB := n3_; have BK101 := n4_; have GW101 := n5_; have GE101 := n6_; have NB0_101 := n7_; have NB101_0 := n8_; clear n0_ n1_ n2_ n3_ n4_ n5_ n6_ n7_ n8_ hb hbox hg) | ((with_reducible refine gate_dst (N := 4) rfl ?_); refine bx_ (N := 4) (cs := #[.slice none 0 0]) (t := 26) rfl rfl ?_; intro gb102 hg w89 hbox hb; have n0_ := a1_ HO1_0 hb; have n1_ := i1_ HI0 hb; have n2_ := a2_ BK101 hb; have n3_ := Aside0.mk (Kept.below (S := (fun k_ => (P1_0_ k_) ∨ k_ = g)) (kt_ HK) hb); have n4_ := b1_ HB hb; have n5_ := Aside0.mk (hbox); have n6_ := Aside0.mk ((by rw [hg]; exact (by first | exact HK.out.1 | exact (show Kept w _ (fun k_ => (P1_0_ k_) ∨ k_ = g) from kt_ HK).1) : w.heap.size ≤ gb102)); have n7_ := ge_ hg HB; have n8_ := nl_ hg BK101; have n9_ := nr_ hg BK101; have n10_ := il_ hg HI0; have n11_ := ir_ hg HI0; clear HO1_0 HI0 BK101 HK HB; have HO1_0 := n0_; have HI0 := n1_; have BK101 := n2_; have HK := n3_; have HB := n4_; have BK102 := n5_; have GW102 := n6_; have GE102 := n7_; have NB101_102 := n8_; have NB102_101 := n9_; have NB0_102 := n10_; have NB102_0 := n11_; clear n0_ n1_ n2_ n3_ n4_ n5_ n6_ n7_ n8_ n9_ n10_ n11_ hb hbox hg; have hnb90 := NB101_102.out; have hnc90 := NB102_101.out; have hnb91 := NB101_0.out; have hnc91 := NB0_101.out; have hcz92_0 := hz_ BK101; have hfz92_0 := blk_frozen BK101.out 0) | ((with_reducible refine gate_callee (f := 115) rfl ?_); refine gl_ (some 8) rfl rfl Try.func115 #[.slice Ao87 l1_0.length co87] rfl ?_; (with_reducible refine (spec_l01Own.calls _ _ l1_0 t103 _ ?side1 ?side2 A3.out).mono ?_); (case side1 => exact c1_ HO1_0); (case side2 => exact (Kd.R_reads' HO1_0.out).2.1); rintro e w93 ⟨v104, rfl, ho0, hb⟩; refine ⟨_, rfl, ?_⟩; have HO105 := Aside0.mk (Kd.R_lower (Kd.R_new' (Kd.R_newM (M := fun k_ => (P1_0_ k_ ∨ w.heap.size ≤ k_)) ho0 (by first | exact HK.out.1 | exact (show Kept w _ (fun k_ => (P1_0_ k_) ∨ k_ = g) from kt_ HK).1) (fun k_ h_ => .inr h_)) (Kd.R_lt (rb_ HO1_0.out))) (below_size (gb_ HB.out))); replace HO1_0 := a5_ HO1_0 ho0 hb; replace HI0 := i1_ HI0 hb; replace BK101 := a2_ BK101 hb; replace BK102 := a2_ BK102 hb; replace HK := Aside0.mk (Kept.below (S := (fun k_ => (P1_0_ k_) ∨ k_ = g)) (kt_ HK) hb); replace HB := b1_ HB hb; (try clear hb); (try clear hb2); (try clear hk); (try clear hi); (try clear ho0); obtain ⟨Ao94, co94, eo94⟩ := Kd.R_slice HO105.out; subst eo94) | ((with_reducible refine gate_dst (N := 5) rfl ?_); refine bx_ (N := 5) (cs := #[.slice none 0 0]) (t := 26) rfl rfl ?_; intro gb106 hg w95 hbox hb; have n0_ := a1_ HO1_0 hb; have n1_ := a1_ HO105 hb; have n2_ := i1_ HI0 hb; have n3_ := a2_ BK101 hb; have n4_ := a2_ BK102 hb; have n5_ := Aside0.mk (Kept.below (S := (fun k_ => (P1_0_ k_) ∨ k_ = g)) (kt_ HK) hb); have n6_ := b1_ HB hb; have n7_ := Aside0.mk (hbox); have n8_ := Aside0.mk ((by rw [hg]; exact (by first | exact HK.out.1 | exact (show Kept w _ (fun k_ => (P1_0_ k_) ∨ k_ = g) from kt_ HK).1) : w.heap.size ≤ gb106)); have n9_ := ge_ hg HB; have n10_ := nl_ hg BK101; have n11_ := nr_ hg BK101; have n12_ := nl_ hg BK102; have n13_ := nr_ hg BK102; have n14_ := il_ hg HI0; have n15_ := ir_ hg HI0; clear HO1_0 HO105 HI0 BK101 BK102 HK HB; have HO1_0 := n0_; have HO105 := n1_; have HI0 := n2_; have BK101 := n3_; have BK102 := n4_; have HK := n5_; have HB := n6_; have BK106 := n7_; have GW106 := n8_; have GE106 := n9_; have NB101_106 := n10_; have NB106_101 := n11_; have NB102_106 := n12_; have NB106_102 := n13_; have NB0_106 := n14_; have NB106_0 := n15_; clear n0_ n1_ n2_ n3_ n4_ n5_ n6_ n7_ n8_ n9_ n10_ n11_ n12_ n13_ n14_ n15_ hb hbox hg; have hnb96 := NB106_101.out; have hnc96 := NB101_106.out; have hnb97 := NB106_102.out; have hnc97 := NB102_106.out; have hnb98 := NB106_0.out; have hnc98 := NB0_106.out; have hcz99_0 := hz_ BK106; have hfz99_0 := blk_frozen BK106.out 0) | ((with_reducible refine gate_callee (f := 85) rfl ?_); refine gl_ (some 11) rfl rfl Try.func85 #[.pointer (some ⟨g, 0, none⟩), .int .i64 50] rfl ?_; (with_reducible refine (spec_l01Next.calls g s0_0 s0_1 s0_2 50 t107 t108 t109 w0 _ ?side1 ?side2 A4.out).mono ?_); (case side1 => exact i_ HI0); (case side2 => exact gb_ HB.out); rintro e w100 ⟨rfl, hi, hb, hk⟩; refine ⟨_, rfl, ?_⟩; replace HO1_0 := Aside0.mk (Kd.R_mono (Kd.R_keep (IsS91.apart (show IsS91 w0 _ g s0_0 s0_1 s0_2 from i_ HI0) (rb_ (Kd.R_mono (Kd.R_far (p := ⟨gb106, 0, none⟩) (Kd.R_types HO1_0.out BK106.out (by decide)) (fun _ hk => hk.2) (.slice Ao94 t103.length co94)) (fun _ h_ => h_.1))) (by decide)) hk (fun _ h => h.2)) (fun _ h => h.1)); replace BK101 := Aside0.mk (KeepBut.blk hk (g' := gb101) (o := .cells #[.slice Ao87 l1_0.length co87] 26 (0, 0)) (by (with_reducible repeat (first | refine blk_drewN ?_ _ | refine blk_drew ?_ | refine blk_alloc ?_ _)); refine blk_far ?_ NB101_106.out _; (with_reducible repeat (first | refine blk_drewN ?_ _ | refine blk_drew ?_ | refine blk_alloc ?_ _)); exact BK101.out) NB101_0.out (by simp)); replace BK102 := Aside0.mk (KeepBut.blk hk (g' := gb102) (o := .cells #[.slice none 0 0] 26 (0, 0)) (by (with_reducible repeat (first | refine blk_drewN ?_ _ | refine blk_drew ?_ | refine blk_alloc ?_ _)); refine blk_far ?_ NB102_106.out _; (with_reducible repeat (first | refine blk_drewN ?_ _ | refine blk_drew ?_ | refine blk_alloc ?_ _)); exact BK102.out) NB102_0.out (by simp)); replace HO105 := Aside0.mk (Kd.R_mono (Kd.R_keep (IsS91.apart (show IsS91 w0 _ g s0_0 s0_1 s0_2 from i_ HI0) (rb_ (Kd.R_mono (Kd.R_far (p := ⟨gb106, 0, none⟩) (Kd.R_types HO105.out BK106.out (by decide)) (fun _ hk => hk.2) (.slice Ao94 t103.length co94)) (fun _ h_ => h_.1))) (by decide)) hk (fun _ h => h.2)) (fun _ h => h.1)); replace BK106 := Aside0.mk (KeepBut.blk hk (g' := gb106) (o := .cells #[.slice Ao94 t103.length co94] 26 (0, 0)) (by (with_reducible repeat (first | refine blk_drewN ?_ _ | refine blk_drew ?_ | refine blk_alloc ?_ _)); refine blk_put (cs := #[.slice none 0 0]) ?_ 0 _ rfl; (with_reducible repeat (first | refine blk_drewN ?_ _ | refine blk_drew ?_ | refine blk_alloc ?_ _)); exact BK106.out) NB106_0.out (by simp)); replace HK := Aside0.mk (Kept.of_keep (S := (fun k_ => (P1_0_ k_) ∨ k_ = g)) (kt_ HK) hk (.inl (.inr rfl))); replace HB := Aside0.mk (hb); replace HI0 := Aside0.mk (hi); (try clear hb); (try clear hb2); (try clear hk); (try clear hi); have hcz101_0 := hz_ BK101; have hfz101_0 := blk_frozen BK101.out 0; have hnb102 := NB102_0.out; have hnc102 := NB0_102.out; have hcz103_0 := hz_ BK102; have hfz103_0 := blk_frozen BK102.out 0))
   refine bodyPost_ret (results_cell_row rfl _ _ gb102 26 #[.slice Ao87 l1_0.length co87] (0, 0) _ rfl (by (with_reducible repeat (first | refine blk_drewN ?_ _ | refine blk_drew ?_ | refine blk_alloc ?_ _)); refine blk_put (cs := #[.slice none 0 0]) ?_ 0 _ rfl; (with_reducible repeat (first | refine blk_drewN ?_ _ | refine blk_drew ?_ | refine blk_alloc ?_ _)); exact BK102.out) Try.underlying26 rfl (by kernel_rfl)) rfl ?_
   exact ⟨_, t5_, by (with_reducible repeat (first | apply Kd.R_alloc | apply Kd.R_drewN | apply Kd.R_drew)); refine Kd.R_mono (show Kd.R (Kd.int .i64) 2 _ w0.heap.size (fun k_ => (PX_ k_ ∨ w.heap.size ≤ k_)) _ _ from ?_) (fun k_ h_ => Or.imp_left Or.inl h_); exact Kd.R_mono (Kd.R_far (p := ⟨gb102, 0, none⟩) (Kd.R_types HO1_0.out BK102.out (by decide)) (fun _ hk => hk.2) (.slice Ao87 l1_0.length co87)) (fun _ hk => hk.1.1), i_ HI0, gb_ HB.out, kt_ HK⟩
  rw [if_pos c54] at H
  have c54b0 : (t107 == 2) = true := beq_iff_eq.mpr c54
  have c54b1 : (t107 != 2) = false := bne_eq_false_iff_eq.mpr c54
  clear c54
  have H' := Aside0.mk H
  clear H
  obtain ⟨Ao55, co55, eo55⟩ := Kd.R_slice HO1_0.out
  subst eo55
  go_enter Try.func81, Try.ntmps81
  go_wp2_with (first | ((with_reducible refine gate_dst (N := 3) rfl ?_); refine bx_ (N := 3) (cs := #[.slice Ao55 l1_0.length co55]) (t := 26) rfl rfl ?_; intro gb101 hg w56 hbox hb; have n0_ := a1_ HO1_0 hb; have n1_ := i1_ HI0 hb; have n2_ := Aside0.mk (Kept.below (S := (fun k_ => (P1_0_ k_) ∨ k_ = g)) (kt_ HK) hb); have n3_ := b1_ HB hb; have n4_ := Aside0.mk (hbox); have n5_ := Aside0.mk ((by rw [hg]; exact (by first | exact HK.out.1 | exact (show Kept w _ (fun k_ => (P1_0_ k_) ∨ k_ = g) from kt_ HK).1) : w.heap.size ≤ gb101)); have n6_ := ge_ hg HB; have n7_ := il_ hg HI0; have n8_ := ir_ hg HI0; clear HO1_0 HI0 HK HB; have HO1_0 := n0_; have HI0 := n1_; have HK := n2_; have HB := n3_; have BK101 := n4_; have GW101 := n5_; have GE101 := n6_; have NB0_101 := n7_; have NB101_0 := n8_; clear n0_ n1_ n2_ n3_ n4_ n5_ n6_ n7_ n8_ hb hbox hg) | ((with_reducible refine gate_dst (N := 4) rfl ?_); refine bx_ (N := 4) (cs := #[.slice none 0 0]) (t := 26) rfl rfl ?_; intro gb102 hg w57 hbox hb; have n0_ := a1_ HO1_0 hb; have n1_ := i1_ HI0 hb; have n2_ := a2_ BK101 hb; have n3_ := Aside0.mk (Kept.below (S := (fun k_ => (P1_0_ k_) ∨ k_ = g)) (kt_ HK) hb); have n4_ := b1_ HB hb; have n5_ := Aside0.mk (hbox); have n6_ := Aside0.mk ((by rw [hg]; exact (by first | exact HK.out.1 | exact (show Kept w _ (fun k_ => (P1_0_ k_) ∨ k_ = g) from kt_ HK).1) : w.heap.size ≤ gb102)); have n7_ := ge_ hg HB; have n8_ := nl_ hg BK101; have n9_ := nr_ hg BK101; have n10_ := il_ hg HI0; have n11_ := ir_ hg HI0; clear HO1_0 HI0 BK101 HK HB; have HO1_0 := n0_; have HI0 := n1_; have BK101 := n2_; have HK := n3_; have HB := n4_; have BK102 := n5_; have GW102 := n6_; have GE102 := n7_; have NB101_102 := n8_; have NB102_101 := n9_; have NB0_102 := n10_; have NB102_0 := n11_; clear n0_ n1_ n2_ n3_ n4_ n5_ n6_ n7_ n8_ n9_ n10_ n11_ hb hbox hg; have hnb58 := NB101_102.out; have hnc58 := NB102_101.out; have hnb59 := NB101_0.out; have hnc59 := NB0_101.out; have hcz60_0 := hz_ BK101; have hfz60_0 := blk_frozen BK101.out 0) | ((with_reducible refine gate_callee (f := 115) rfl ?_); refine gl_ (some 8) rfl rfl Try.func115 #[.slice Ao55 l1_0.length co55] rfl ?_; (with_reducible refine (spec_l01Own.calls _ _ l1_0 t103 _ ?side1 ?side2 A3.out).mono ?_); (case side1 => exact c1_ HO1_0); (case side2 => exact (Kd.R_reads' HO1_0.out).2.1); rintro e w61 ⟨v104, rfl, ho0, hb⟩; refine ⟨_, rfl, ?_⟩; have HO105 := Aside0.mk (Kd.R_lower (Kd.R_new' (Kd.R_newM (M := fun k_ => (P1_0_ k_ ∨ w.heap.size ≤ k_)) ho0 (by first | exact HK.out.1 | exact (show Kept w _ (fun k_ => (P1_0_ k_) ∨ k_ = g) from kt_ HK).1) (fun k_ h_ => .inr h_)) (Kd.R_lt (rb_ HO1_0.out))) (below_size (gb_ HB.out))); replace HO1_0 := a5_ HO1_0 ho0 hb; replace HI0 := i1_ HI0 hb; replace BK101 := a2_ BK101 hb; replace BK102 := a2_ BK102 hb; replace HK := Aside0.mk (Kept.below (S := (fun k_ => (P1_0_ k_) ∨ k_ = g)) (kt_ HK) hb); replace HB := b1_ HB hb; (try clear hb); (try clear hb2); (try clear hk); (try clear hi); (try clear ho0); obtain ⟨Ao62, co62, eo62⟩ := Kd.R_slice HO105.out; subst eo62) | ((with_reducible refine gate_dst (N := 5) rfl ?_); refine bx_ (N := 5) (cs := #[.slice none 0 0]) (t := 26) rfl rfl ?_; intro gb106 hg w63 hbox hb; have n0_ := a1_ HO1_0 hb; have n1_ := a1_ HO105 hb; have n2_ := i1_ HI0 hb; have n3_ := a2_ BK101 hb; have n4_ := a2_ BK102 hb; have n5_ := Aside0.mk (Kept.below (S := (fun k_ => (P1_0_ k_) ∨ k_ = g)) (kt_ HK) hb); have n6_ := b1_ HB hb; have n7_ := Aside0.mk (hbox); have n8_ := Aside0.mk ((by rw [hg]; exact (by first | exact HK.out.1 | exact (show Kept w _ (fun k_ => (P1_0_ k_) ∨ k_ = g) from kt_ HK).1) : w.heap.size ≤ gb106)); have n9_ := ge_ hg HB; have n10_ := nl_ hg BK101; have n11_ := nr_ hg BK101; have n12_ := nl_ hg BK102; have n13_ := nr_ hg BK102; have n14_ := il_ hg HI0; have n15_ := ir_ hg HI0; clear HO1_0 HO105 HI0 BK101 BK102 HK HB; have HO1_0 := n0_; have HO105 := n1_; have HI0 := n2_; have BK101 := n3_; have BK102 := n4_; have HK := n5_; have HB := n6_; have BK106 := n7_; have GW106 := n8_; have GE106 := n9_; have NB101_106 := n10_; have NB106_101 := n11_; have NB102_106 := n12_; have NB106_102 := n13_; have NB0_106 := n14_; have NB106_0 := n15_; clear n0_ n1_ n2_ n3_ n4_ n5_ n6_ n7_ n8_ n9_ n10_ n11_ n12_ n13_ n14_ n15_ hb hbox hg; have hnb64 := NB106_101.out; have hnc64 := NB101_106.out; have hnb65 := NB106_102.out; have hnc65 := NB102_106.out; have hnb66 := NB106_0.out; have hnc66 := NB0_106.out; have hcz67_0 := hz_ BK106; have hfz67_0 := blk_frozen BK106.out 0) | ((with_reducible refine gate_callee (f := 85) rfl ?_); refine gl_ (some 11) rfl rfl Try.func85 #[.pointer (some ⟨g, 0, none⟩), .int .i64 50] rfl ?_; (with_reducible refine (spec_l01Next.calls g s0_0 s0_1 s0_2 50 t107 t108 t109 w0 _ ?side1 ?side2 A4.out).mono ?_); (case side1 => exact i_ HI0); (case side2 => exact gb_ HB.out); rintro e w68 ⟨rfl, hi, hb, hk⟩; refine ⟨_, rfl, ?_⟩; replace HO1_0 := Aside0.mk (Kd.R_mono (Kd.R_keep (IsS91.apart (show IsS91 w0 _ g s0_0 s0_1 s0_2 from i_ HI0) (rb_ (Kd.R_mono (Kd.R_far (p := ⟨gb106, 0, none⟩) (Kd.R_types HO1_0.out BK106.out (by decide)) (fun _ hk => hk.2) (.slice Ao62 t103.length co62)) (fun _ h_ => h_.1))) (by decide)) hk (fun _ h => h.2)) (fun _ h => h.1)); replace BK101 := Aside0.mk (KeepBut.blk hk (g' := gb101) (o := .cells #[.slice Ao55 l1_0.length co55] 26 (0, 0)) (by (with_reducible repeat (first | refine blk_drewN ?_ _ | refine blk_drew ?_ | refine blk_alloc ?_ _)); refine blk_far ?_ NB101_106.out _; (with_reducible repeat (first | refine blk_drewN ?_ _ | refine blk_drew ?_ | refine blk_alloc ?_ _)); exact BK101.out) NB101_0.out (by simp)); replace BK102 := Aside0.mk (KeepBut.blk hk (g' := gb102) (o := .cells #[.slice none 0 0] 26 (0, 0)) (by (with_reducible repeat (first | refine blk_drewN ?_ _ | refine blk_drew ?_ | refine blk_alloc ?_ _)); refine blk_far ?_ NB102_106.out _; (with_reducible repeat (first | refine blk_drewN ?_ _ | refine blk_drew ?_ | refine blk_alloc ?_ _)); exact BK102.out) NB102_0.out (by simp)); replace HO105 := Aside0.mk (Kd.R_mono (Kd.R_keep (IsS91.apart (show IsS91 w0 _ g s0_0 s0_1 s0_2 from i_ HI0) (rb_ (Kd.R_mono (Kd.R_far (p := ⟨gb106, 0, none⟩) (Kd.R_types HO105.out BK106.out (by decide)) (fun _ hk => hk.2) (.slice Ao62 t103.length co62)) (fun _ h_ => h_.1))) (by decide)) hk (fun _ h => h.2)) (fun _ h => h.1)); replace BK106 := Aside0.mk (KeepBut.blk hk (g' := gb106) (o := .cells #[.slice Ao62 t103.length co62] 26 (0, 0)) (by (with_reducible repeat (first | refine blk_drewN ?_ _ | refine blk_drew ?_ | refine blk_alloc ?_ _)); refine blk_put (cs := #[.slice none 0 0]) ?_ 0 _ rfl; (with_reducible repeat (first | refine blk_drewN ?_ _ | refine blk_drew ?_ | refine blk_alloc ?_ _)); exact BK106.out) NB106_0.out (by simp)); replace HK := Aside0.mk (Kept.of_keep (S := (fun k_ => (P1_0_ k_) ∨ k_ = g)) (kt_ HK) hk (.inl (.inr rfl))); replace HB := Aside0.mk (hb); replace HI0 := Aside0.mk (hi); (try clear hb); (try clear hb2); (try clear hk); (try clear hi)))
  go_loopg [] k (fun kq w' => ∃ (x107000_1 : List Int) (u107000 : Value), Aside0 (spec_l01Bad.l0 kq s0_0 t108 t109 x107000_1 = some (r1, r2, r3)) ∧ Aside0 (kq ≤ k) ∧ Aside0 (Kd.R (Kd.int .i64) 2 w' w0.heap.size (fun k_ => (PX_ k_ ∨ w.heap.size ≤ k_) ∧ OB_ k_ u107000) (.slice Ao55 l1_0.length co55) l1_0) ∧ Aside0 (Kd.R (Kd.int .i64) 2 w' w0.heap.size (fun k_ => (P1_0_ k_ ∨ w.heap.size ≤ k_) ∧ OB_ k_ (.slice Ao55 l1_0.length co55)) u107000 x107000_1) ∧ Aside0 (w'.heap[gb101]? = some (.cells #[(.slice Ao55 l1_0.length co55)] 26 (0, 0))) ∧ Aside0 (w'.heap[gb102]? = some (.cells #[(.slice none 0 0)] 26 (0, 0))) ∧ Aside0 (w'.heap[gb106]? = some (.cells #[u107000] 26 (0, 0))) ∧ Aside0 (IsS91 w0 w' g s0_0 t108 t109) ∧ Aside0 (Kept w w' (fun k_ => (P1_0_ k_) ∨ k_ = g)) ∧ Aside0 (Below w0.heap.size w0 w'))
  case atStart => exact ⟨(t103), (.slice Ao62 t103.length co62), H', ⟨Nat.le_refl _⟩, ⟨rb_ HO1_0.out⟩, ⟨by (with_reducible repeat (first | apply Kd.R_alloc | apply Kd.R_drewN | apply Kd.R_drew)); exact Kd.R_mono HO105.out (fun _ hk => ⟨hk.1.1, hk.2⟩)⟩, ⟨bb_ BK101.out⟩, ⟨bb_ BK102.out⟩, ⟨bb_ BK106.out⟩, ⟨i_ HI0⟩, ⟨kt_ HK⟩, ⟨gb_ HB.out⟩⟩
  clear H'
  try clear c1
  try clear c2
  try clear p2
  try clear q2
  try clear hx2
  try clear hf2
  try clear c3
  try clear c5
  try clear c5b0
  try clear c5b1
  try clear c6
  try clear c8
  try clear c9
  try clear c10
  try clear c11
  try clear c15
  try clear c16
  try clear c17
  try clear c20
  try clear c22
  try clear c22b0
  try clear c22b1
  try clear c25
  try clear c25b0
  try clear c26
  try clear c26b0
  try clear p27
  try clear q27
  try clear hx27
  try clear hf27
  try clear c31
  try clear c32
  try clear c37
  try clear c38
  try clear c39
  try clear c52
  try clear c54
  try clear c54b0
  try clear c54b1
  try clear c58
  try clear c59
  try clear c64
  try clear c65
  try clear c66
  try clear hcz11_0
  try clear hcz18_0
  try clear hcz21_0
  try clear hcz33_0
  try clear hcz40_0
  try clear hcz51_0
  try clear hcz53_0
  try clear hcz60_0
  try clear hcz67_0
  try clear hfz11_0
  try clear hfz18_0
  try clear hfz21_0
  try clear hfz33_0
  try clear hfz40_0
  try clear hfz51_0
  try clear hfz53_0
  try clear hfz60_0
  try clear hfz67_0
  try clear hx27_0
  try clear p27
  try clear q27
  obtain ⟨x107000_1, u107000, HA, HK1, HO_102000, HO_107000, BK101, BK102, BK106, HI0, HK, HB⟩ := hrel
  obtain _ | k1 := gk
  ·exact absurd HA.out (by simp [spec_l01Bad.l0])
  have H := HA.out
  clear HA
  simp only [spec_l01Bad.l0] at H
  by_cases c69 : (x107000_1.length : Int) < 6
  rotate_left
  ·rw [if_neg c69] at H
   have c69b0 : decide ((x107000_1.length : Int) < 6) = false := decide_eq_false c69
   have c69b1 : decide (x107000_1.length < 6) = false := decide_eq_false (by omega)
   clear c69
   simp only [Option.some.injEq, Prod.mk.injEq] at H
   obtain ⟨rfl, rfl, rfl⟩ := H
   have hnb79 := NB106_101.out
   have hnc79 := NB101_106.out
   have hnb80 := NB106_102.out
   have hnc80 := NB102_106.out
   have hnb81 := NB106_0.out
   have hnc81 := NB0_106.out
   have hcz82_0 := hz_ BK106
   have hfz82_0 := blk_frozen BK106.out 0
   obtain ⟨Ao83, co83, eo83⟩ := Kd.R_slice HO_107000.out
   subst eo83
   have hnb84 := NB102_101.out
   have hnc84 := NB101_102.out
   have hnb85 := NB102_0.out
   have hnc85 := NB0_102.out
   have hcz86_0 := hz_ BK102
   have hfz86_0 := blk_frozen BK102.out 0
   go_wp2
   refine bodyPost_ret (results_cell_row rfl _ _ gb102 26 #[.slice Ao83 x107000_1.length co83] (0, 0) _ rfl (by (with_reducible repeat (first | refine blk_drewN ?_ _ | refine blk_drew ?_ | refine blk_alloc ?_ _)); refine blk_put (cs := #[.slice none 0 0]) ?_ 0 _ rfl; (with_reducible repeat (first | refine blk_drewN ?_ _ | refine blk_drew ?_ | refine blk_alloc ?_ _)); exact BK102.out) Try.underlying26 rfl (by kernel_rfl)) rfl ?_
   exact ⟨_, t5_, by (with_reducible repeat (first | apply Kd.R_alloc | apply Kd.R_drewN | apply Kd.R_drew)); refine Kd.R_mono (show Kd.R (Kd.int .i64) 2 _ w0.heap.size (fun k_ => (P1_0_ k_ ∨ w.heap.size ≤ k_)) _ _ from ?_) (fun k_ h_ => Or.imp_left Or.inr h_); exact Kd.R_mono (Kd.R_far (p := ⟨gb102, 0, none⟩) (Kd.R_types HO_107000.out BK102.out (by decide)) (fun _ hk => hk.2) (.slice Ao83 x107000_1.length co83)) (fun _ hk => hk.1.1), i_ HI0, gb_ HB.out, kt_ HK⟩
  rw [if_pos c69] at H
  have c69b0 : decide ((x107000_1.length : Int) < 6) = true := decide_eq_true c69
  have c69b1 : decide (x107000_1.length < 6) = true := decide_eq_true (by omega)
  clear c69
  by_cases c70 : x107000_1.length < 17592186044416
  rotate_left
  ·rw [if_neg c70] at H
   exact absurd H (by simp)
  rw [if_pos c70] at H
  have LMc70 := Aside0.mk c70
  clear c70
  obtain ⟨y120, hy120⟩ : ∃ y_ : List Int, y_ = (x107000_1 ++ [4]) := ⟨_, rfl⟩
  replace H : (spec_l01Bad.l0 k1 s0_0 t108 t109 y120) = some (r1, r2, r3) := y_ H
  have Ny120 := Aside0.mk hy120
  clear hy120
  have H' := Aside0.mk H
  clear H
  have hnb71 := NB106_101.out
  have hnc71 := NB101_106.out
  have hnb72 := NB106_102.out
  have hnc72 := NB102_106.out
  have hnb73 := NB106_0.out
  have hnc73 := NB0_106.out
  have hcz74_0 := hz_ BK106
  have hfz74_0 := blk_frozen BK106.out 0
  obtain ⟨Ao75, co75, eo75⟩ := Kd.R_slice HO_107000.out
  subst eo75
  go_wp2_with (first | ((with_reducible refine gate_builtin (b := .append) (xs := #[.tmp 36, .tmp 37]) rfl ?_); at_builtin; refine Kd.R_append (Kd.int .i64) (w0 := w0) w0.heap.size rfl (.tmp 36) (.tmp 37) 24 2 (.int .i64 0) 8 rfl Try.underlying24 info2 rfl (by decide) (by omega) (.slice Ao75 x107000_1.length co75) x107000_1 4 [.int .i64 4] (fun k_ => (P1_0_ k_ ∨ w.heap.size ≤ k_) ∧ OB_ k_ (.slice Ao55 l1_0.length co55)) (fun _ => False) rfl rfl ?aP (fun _ hk => hk.elim) ?aF ?aO ?aB ?aS ?aL ?_; (case aP => exact rfl); (case aB => exact (gb_ HB.out)); (case aF => exact (fun k_ hk => ⟨(.inr (Nat.le_trans (by first | exact HK.out.1 | exact (show Kept w _ (fun k_ => (P1_0_ k_) ∨ k_ = g) from kt_ HK).1) hk)), Kd.fresh' (Kd.R_lt (rb_ HO_102000.out)) k_ hk⟩)); (case aO => exact (rb_ HO_107000.out)); (case aS => exact (below_size (gb_ HB.out))); (case aL => have := LMc70.out; omega); intro v121 w76 ho hb hg hat; rw [← Ny120.out] at ho; have n0_ := Aside0.mk (Kd.R_after (ok := (fun k_ => (PX_ k_ ∨ w.heap.size ≤ k_))) (rb_ HO_102000.out) hg hat); have n1_ := Aside0.mk (blk_grown (g := gb101) (o := .cells #[.slice Ao55 l1_0.length co55] 26 (0, 0)) (bb_ BK101.out) hg (Kd.R_ne HO_107000.out BK101.out (by decide))); have n2_ := Aside0.mk (blk_grown (g := gb102) (o := .cells #[.slice none 0 0] 26 (0, 0)) (bb_ BK102.out) hg (Kd.R_ne HO_107000.out BK102.out (by decide))); have n3_ := Aside0.mk (blk_grown (g := gb106) (o := .cells #[.slice Ao75 x107000_1.length co75] 26 (0, 0)) (bb_ BK106.out) hg (Kd.R_ne HO_107000.out BK106.out (by decide))); have n4_ := Aside0.mk (IsS91.grown (i_ HI0) hg (IsS91.own_ne HI0.out HO_107000.out (by decide))); have n5_ := Aside0.mk (hb); have n6_ := Aside0.mk (Kept.of_grown (S := (fun k_ => (P1_0_ k_) ∨ k_ = g)) hg (kt_ HK) (fun k_ e_ => Or.imp_left Or.inl ((HO_107000.out.1 k_ e_).1))); have n7_ := Aside0.mk (ho); clear HO_102000 BK101 BK102 BK106 HI0 HB HK HO_107000; have HO_102000 := n0_; have BK101 := n1_; have BK102 := n2_; have BK106 := n3_; have HI0 := n4_; have HB := n5_; have HK := n6_; have HO122 := n7_; clear n0_ n1_ n2_ n3_ n4_ n5_ n6_ n7_ ho hb hg hat; obtain ⟨Ao77, co77, eo77⟩ := Kd.R_slice HO122.out; subst eo77; have hcz78_0 := hz_ BK106; have hfz78_0 := blk_frozen BK106.out 0))
  go_roundg k1
  case measure => have := HK1.out; omega
  case rel => exact ⟨(y120), (.slice Ao77 y120.length co77), H', ⟨by have := HK1.out; omega⟩, ⟨by (with_reducible repeat (first | apply Kd.R_alloc | apply Kd.R_drewN | apply Kd.R_drew)); exact Kd.R_mono (Kd.R_far (p := ⟨gb106, 0, none⟩) (Kd.R_types HO_102000.out BK106.out (by decide)) (fun _ hk => hk.2) (.slice Ao77 y120.length co77)) (fun _ hk => ⟨hk.1.1, hk.1.2⟩)⟩, ⟨by (with_reducible repeat (first | apply Kd.R_alloc | apply Kd.R_drewN | apply Kd.R_drew)); exact Kd.R_mono (Kd.R_far (p := ⟨gb106, 0, none⟩) (Kd.R_types HO122.out BK106.out (by decide)) (fun _ hk => hk.2) (.slice Ao77 y120.length co77)) (fun _ hk => ⟨hk.1.1, hk.1.2⟩)⟩, ⟨by (with_reducible repeat (first | refine blk_drewN ?_ _ | refine blk_drew ?_ | refine blk_alloc ?_ _)); refine blk_far ?_ NB101_106.out _; (with_reducible repeat (first | refine blk_drewN ?_ _ | refine blk_drew ?_ | refine blk_alloc ?_ _)); exact BK101.out⟩, ⟨by (with_reducible repeat (first | refine blk_drewN ?_ _ | refine blk_drew ?_ | refine blk_alloc ?_ _)); refine blk_far ?_ NB102_106.out _; (with_reducible repeat (first | refine blk_drewN ?_ _ | refine blk_drew ?_ | refine blk_alloc ?_ _)); exact BK102.out⟩, ⟨by (with_reducible repeat (first | refine blk_drewN ?_ _ | refine blk_drew ?_ | refine blk_alloc ?_ _)); refine blk_put (cs := #[.slice Ao75 x107000_1.length co75]) ?_ 0 _ rfl; (with_reducible repeat (first | refine blk_drewN ?_ _ | refine blk_drew ?_ | refine blk_alloc ?_ _)); exact BK106.out⟩, ⟨i_ HI0⟩, ⟨kt_ HK⟩, ⟨gb_ HB.out⟩⟩
 rw [if_pos c22] at H
 have c22b0 : (t107 == 1) = true := beq_iff_eq.mpr c22
 have c22b1 : (t107 != 1) = false := bne_eq_false_iff_eq.mpr c22
 clear c22
 replace H := Option.bind_eq_some_iff.mp H
 obtain ⟨⟨t110, t111, t112⟩, A230, H⟩ := H
 replace H : ((spec_l01Pick.f s0_0 t111 t112 (([1, 5, 0, (-1), 1099511627776] : List Int))).bind fun bt116 => (if 0 ≤ t110 then (if t110 < (t103.length : Int) then (some ((t103.set (t110 : Int).toNat bt116.1), bt116.2.1, bt116.2.2)) else (none)) else (none))) = some (r1, r2, r3) := H
 have A23 := Aside0.mk A230
 clear A230
 obtain ⟨y113, hy113⟩ : ∃ y_ : List Int, y_ = (([1, 5, 0, (-1), 1099511627776] : List Int)) := ⟨_, rfl⟩
 replace H : ((spec_l01Pick.f s0_0 t111 t112 y113).bind fun bt116 => (if 0 ≤ t110 then (if t110 < (t103.length : Int) then (some ((t103.set (t110 : Int).toNat bt116.1), bt116.2.1, bt116.2.2)) else (none)) else (none))) = some (r1, r2, r3) := y_ H
 have Ny113 := Aside0.mk hy113
 clear hy113
 replace H := Option.bind_eq_some_iff.mp H
 obtain ⟨⟨t116, t117, t118⟩, A240, H⟩ := H
 replace H : (if 0 ≤ t110 then (if t110 < (t103.length : Int) then (some ((t103.set (t110 : Int).toNat t116), t117, t118)) else (none)) else (none)) = some (r1, r2, r3) := H
 have A24 := Aside0.mk A240
 clear A240
 by_cases c25 : 0 ≤ t110
 rotate_left
 ·rw [if_neg c25] at H
  exact absurd H (by simp)
 rw [if_pos c25] at H
 have c25b0 : decide (0 ≤ t110) = true := decide_eq_true c25
 clear c25
 by_cases c26 : t110 < (t103.length : Int)
 rotate_left
 ·rw [if_neg c26] at H
  exact absurd H (by simp)
 rw [if_pos c26] at H
 have c26b0 : decide (t110 < (t103.length : Int)) = true := decide_eq_true c26
 clear c26
 obtain ⟨y119, hy119⟩ : ∃ y_ : List Int, y_ = (t103.set (t110 : Int).toNat t116) := ⟨_, rfl⟩
 replace H : (some (y119, t117, t118)) = some (r1, r2, r3) := y_ H
 have Ny119 := Aside0.mk hy119
 clear hy119
 simp only [Option.some.injEq, Prod.mk.injEq] at H
 obtain ⟨rfl, rfl, rfl⟩ := H
 obtain ⟨Ao28, co28, eo28⟩ := Kd.R_slice HO1_0.out
 subst eo28
 go_enter Try.func81, Try.ntmps81
 try go_wp2_with (first | ((with_reducible refine gate_dst (N := 3) rfl ?_); refine bx_ (N := 3) (cs := #[.slice Ao28 l1_0.length co28]) (t := 26) rfl rfl ?_; intro gb101 hg w29 hbox hb; have n0_ := a1_ HO1_0 hb; have n1_ := i1_ HI0 hb; have n2_ := Aside0.mk (Kept.below (S := (fun k_ => (P1_0_ k_) ∨ k_ = g)) (kt_ HK) hb); have n3_ := b1_ HB hb; have n4_ := Aside0.mk (hbox); have n5_ := Aside0.mk ((by rw [hg]; exact (by first | exact HK.out.1 | exact (show Kept w _ (fun k_ => (P1_0_ k_) ∨ k_ = g) from kt_ HK).1) : w.heap.size ≤ gb101)); have n6_ := ge_ hg HB; have n7_ := il_ hg HI0; have n8_ := ir_ hg HI0; clear HO1_0 HI0 HK HB; have HO1_0 := n0_; have HI0 := n1_; have HK := n2_; have HB := n3_; have BK101 := n4_; have GW101 := n5_; have GE101 := n6_; have NB0_101 := n7_; have NB101_0 := n8_; clear n0_ n1_ n2_ n3_ n4_ n5_ n6_ n7_ n8_ hb hbox hg) | ((with_reducible refine gate_dst (N := 4) rfl ?_); refine bx_ (N := 4) (cs := #[.slice none 0 0]) (t := 26) rfl rfl ?_; intro gb102 hg w30 hbox hb; have n0_ := a1_ HO1_0 hb; have n1_ := i1_ HI0 hb; have n2_ := a2_ BK101 hb; have n3_ := Aside0.mk (Kept.below (S := (fun k_ => (P1_0_ k_) ∨ k_ = g)) (kt_ HK) hb); have n4_ := b1_ HB hb; have n5_ := Aside0.mk (hbox); have n6_ := Aside0.mk ((by rw [hg]; exact (by first | exact HK.out.1 | exact (show Kept w _ (fun k_ => (P1_0_ k_) ∨ k_ = g) from kt_ HK).1) : w.heap.size ≤ gb102)); have n7_ := ge_ hg HB; have n8_ := nl_ hg BK101; have n9_ := nr_ hg BK101; have n10_ := il_ hg HI0; have n11_ := ir_ hg HI0; clear HO1_0 HI0 BK101 HK HB; have HO1_0 := n0_; have HI0 := n1_; have BK101 := n2_; have HK := n3_; have HB := n4_; have BK102 := n5_; have GW102 := n6_; have GE102 := n7_; have NB101_102 := n8_; have NB102_101 := n9_; have NB0_102 := n10_; have NB102_0 := n11_; clear n0_ n1_ n2_ n3_ n4_ n5_ n6_ n7_ n8_ n9_ n10_ n11_ hb hbox hg; have hnb31 := NB101_102.out; have hnc31 := NB102_101.out; have hnb32 := NB101_0.out; have hnc32 := NB0_101.out; have hcz33_0 := hz_ BK101; have hfz33_0 := blk_frozen BK101.out 0) | ((with_reducible refine gate_callee (f := 115) rfl ?_); refine gl_ (some 8) rfl rfl Try.func115 #[.slice Ao28 l1_0.length co28] rfl ?_; (with_reducible refine (spec_l01Own.calls _ _ l1_0 t103 _ ?side1 ?side2 A3.out).mono ?_); (case side1 => exact c1_ HO1_0); (case side2 => exact (Kd.R_reads' HO1_0.out).2.1); rintro e w34 ⟨v104, rfl, ho0, hb⟩; refine ⟨_, rfl, ?_⟩; have HO105 := Aside0.mk (Kd.R_lower (Kd.R_new' (Kd.R_newM (M := fun k_ => (P1_0_ k_ ∨ w.heap.size ≤ k_)) ho0 (by first | exact HK.out.1 | exact (show Kept w _ (fun k_ => (P1_0_ k_) ∨ k_ = g) from kt_ HK).1) (fun k_ h_ => .inr h_)) (Kd.R_lt (rb_ HO1_0.out))) (below_size (gb_ HB.out))); replace HO1_0 := a5_ HO1_0 ho0 hb; replace HI0 := i1_ HI0 hb; replace BK101 := a2_ BK101 hb; replace BK102 := a2_ BK102 hb; replace HK := Aside0.mk (Kept.below (S := (fun k_ => (P1_0_ k_) ∨ k_ = g)) (kt_ HK) hb); replace HB := b1_ HB hb; (try clear hb); (try clear hb2); (try clear hk); (try clear hi); (try clear ho0); obtain ⟨Ao35, co35, eo35⟩ := Kd.R_slice HO105.out; subst eo35) | ((with_reducible refine gate_dst (N := 5) rfl ?_); refine bx_ (N := 5) (cs := #[.slice none 0 0]) (t := 26) rfl rfl ?_; intro gb106 hg w36 hbox hb; have n0_ := a1_ HO1_0 hb; have n1_ := a1_ HO105 hb; have n2_ := i1_ HI0 hb; have n3_ := a2_ BK101 hb; have n4_ := a2_ BK102 hb; have n5_ := Aside0.mk (Kept.below (S := (fun k_ => (P1_0_ k_) ∨ k_ = g)) (kt_ HK) hb); have n6_ := b1_ HB hb; have n7_ := Aside0.mk (hbox); have n8_ := Aside0.mk ((by rw [hg]; exact (by first | exact HK.out.1 | exact (show Kept w _ (fun k_ => (P1_0_ k_) ∨ k_ = g) from kt_ HK).1) : w.heap.size ≤ gb106)); have n9_ := ge_ hg HB; have n10_ := nl_ hg BK101; have n11_ := nr_ hg BK101; have n12_ := nl_ hg BK102; have n13_ := nr_ hg BK102; have n14_ := il_ hg HI0; have n15_ := ir_ hg HI0; clear HO1_0 HO105 HI0 BK101 BK102 HK HB; have HO1_0 := n0_; have HO105 := n1_; have HI0 := n2_; have BK101 := n3_; have BK102 := n4_; have HK := n5_; have HB := n6_; have BK106 := n7_; have GW106 := n8_; have GE106 := n9_; have NB101_106 := n10_; have NB106_101 := n11_; have NB102_106 := n12_; have NB106_102 := n13_; have NB0_106 := n14_; have NB106_0 := n15_; clear n0_ n1_ n2_ n3_ n4_ n5_ n6_ n7_ n8_ n9_ n10_ n11_ n12_ n13_ n14_ n15_ hb hbox hg; have hnb37 := NB106_101.out; have hnc37 := NB101_106.out; have hnb38 := NB106_102.out; have hnc38 := NB102_106.out; have hnb39 := NB106_0.out; have hnc39 := NB0_106.out; have hcz40_0 := hz_ BK106; have hfz40_0 := blk_frozen BK106.out 0) | ((with_reducible refine gate_callee (f := 85) rfl ?_); refine gl_ (some 11) rfl rfl Try.func85 #[.pointer (some ⟨g, 0, none⟩), .int .i64 50] rfl ?_; (with_reducible refine (spec_l01Next.calls g s0_0 s0_1 s0_2 50 t107 t108 t109 w0 _ ?side1 ?side2 A4.out).mono ?_); (case side1 => exact i_ HI0); (case side2 => exact gb_ HB.out); rintro e w41 ⟨rfl, hi, hb, hk⟩; refine ⟨_, rfl, ?_⟩; replace HO1_0 := Aside0.mk (Kd.R_mono (Kd.R_keep (IsS91.apart (show IsS91 w0 _ g s0_0 s0_1 s0_2 from i_ HI0) (rb_ (Kd.R_mono (Kd.R_far (p := ⟨gb106, 0, none⟩) (Kd.R_types HO1_0.out BK106.out (by decide)) (fun _ hk => hk.2) (.slice Ao35 t103.length co35)) (fun _ h_ => h_.1))) (by decide)) hk (fun _ h => h.2)) (fun _ h => h.1)); replace BK101 := Aside0.mk (KeepBut.blk hk (g' := gb101) (o := .cells #[.slice Ao28 l1_0.length co28] 26 (0, 0)) (by (with_reducible repeat (first | refine blk_drewN ?_ _ | refine blk_drew ?_ | refine blk_alloc ?_ _)); refine blk_far ?_ NB101_106.out _; (with_reducible repeat (first | refine blk_drewN ?_ _ | refine blk_drew ?_ | refine blk_alloc ?_ _)); exact BK101.out) NB101_0.out (by simp)); replace BK102 := Aside0.mk (KeepBut.blk hk (g' := gb102) (o := .cells #[.slice none 0 0] 26 (0, 0)) (by (with_reducible repeat (first | refine blk_drewN ?_ _ | refine blk_drew ?_ | refine blk_alloc ?_ _)); refine blk_far ?_ NB102_106.out _; (with_reducible repeat (first | refine blk_drewN ?_ _ | refine blk_drew ?_ | refine blk_alloc ?_ _)); exact BK102.out) NB102_0.out (by simp)); replace HO105 := Aside0.mk (Kd.R_mono (Kd.R_keep (IsS91.apart (show IsS91 w0 _ g s0_0 s0_1 s0_2 from i_ HI0) (rb_ (Kd.R_mono (Kd.R_far (p := ⟨gb106, 0, none⟩) (Kd.R_types HO105.out BK106.out (by decide)) (fun _ hk => hk.2) (.slice Ao35 t103.length co35)) (fun _ h_ => h_.1))) (by decide)) hk (fun _ h => h.2)) (fun _ h => h.1)); replace BK106 := Aside0.mk (KeepBut.blk hk (g' := gb106) (o := .cells #[.slice Ao35 t103.length co35] 26 (0, 0)) (by (with_reducible repeat (first | refine blk_drewN ?_ _ | refine blk_drew ?_ | refine blk_alloc ?_ _)); refine blk_put (cs := #[.slice none 0 0]) ?_ 0 _ rfl; (with_reducible repeat (first | refine blk_drewN ?_ _ | refine blk_drew ?_ | refine blk_alloc ?_ _)); exact BK106.out) NB106_0.out (by simp)); replace HK := Aside0.mk (Kept.of_keep (S := (fun k_ => (P1_0_ k_) ∨ k_ = g)) (kt_ HK) hk (.inl (.inr rfl))); replace HB := Aside0.mk (hb); replace HI0 := Aside0.mk (hi); (try clear hb); (try clear hb2); (try clear hk); (try clear hi)))
 replace HO1_0 := Aside0.mk (Kd.R_drew HO1_0.out)
 replace HO105 := Aside0.mk (Kd.R_drew HO105.out)
 replace BK101 := Aside0.mk (blk_drew BK101.out)
 replace BK102 := Aside0.mk (blk_drew BK102.out)
 replace BK106 := Aside0.mk (blk_drew BK106.out)
 replace HI0 := Aside0.mk (IsS91.drew HI0.out)
 replace HK := Aside0.mk (Kept.drew HK.out)
 replace HB := Aside0.mk (below_drew1 HB.out)
 refine start_ (n := 12) (S := fun w' => w'.cell? ⟨gb106, 0, none⟩ = some (.slice Ao35 t103.length co35)) (ds := [11]) #[false, false, false, false, false, false, false, false, false, false, false, false] (by kernel_rfl) rfl rfl ((blk_cell BK106.out 0).trans rfl) (fun hHeld => ?_); refine with_tabW spec_l01Bad.tab6 spec_l01Bad.bits6 (fun HT_ HW_ => ?_)
 generalize w41.drew = w42 at HO1_0 HO105 BK101 BK102 BK106 HI0 HK HB hHeld ⊢
 refine pu_ (i := 0) (N := some 17) (v := ?_) (a' := ?_) #[true, false, false, false, false, false, false, false, false, false, false, false] rfl rfl HT_ (Or.inl ⟨by rfl, ?_⟩) ?_ ?_
 rotate_left
 ·exact t7_
 rotate_left
 ·exact t4_
 refine pu_ (i := 2) (N := some 19) (v := ?_) (a' := ?_) #[true, false, true, false, false, false, false, false, false, false, false, false] rfl rfl HT_ (Or.inl ⟨by rfl, ?_⟩) ?_ ?_
 rotate_left
 ·exact t7_
 rotate_left
 ·exact t4_
 refine pu_ (i := 3) (N := some 20) (v := ?_) (a' := ?_) #[true, false, true, true, false, false, false, false, false, false, false, false] rfl rfl HT_ (Or.inl ⟨by rfl, ?_⟩) ?_ ?_
 rotate_left
 ·exact t7_
 rotate_left
 ·exact t4_
 refine pu_ (i := 7) (N := some 24) (v := ?_) (a' := ?_) #[true, false, true, true, false, false, false, true, false, false, false, false] rfl rfl HT_ (Or.inl ⟨by rfl, ?_⟩) ?_ ?_
 rotate_left
 ·exact t7_
 rotate_left
 ·exact t4_
 refine tk_ (i := 1) (N := some 18) (v := ?_) (a' := ?_) #[true, true, true, true, false, false, false, true, false, false, false, false] rfl rfl HT_ HW_ (Or.inl ⟨by rfl, ?_⟩) hHeld ?_ ?_
 rotate_left
 ·intro w' s0
  go_simp
  with_reducible rfl
 rotate_left
 ·exact t4_
 refine tk_ (i := 4) (N := some 21) (v := ?_) (a' := ?_) #[true, true, true, true, true, false, false, true, false, false, false, false] rfl rfl HT_ HW_ (Or.inl ⟨by rfl, ?_⟩) hHeld ?_ ?_
 rotate_left
 ·intro w' s0
  go_simp
  with_reducible rfl
 rotate_left
 ·exact t4_
 refine pu_ (i := 5) (N := some 22) (v := ?_) (a' := ?_) #[true, true, true, true, true, true, false, true, false, false, false, false] rfl rfl HT_ (Or.inl ⟨by rfl, ?_⟩) ?_ ?_
 rotate_left
 ·exact t7_
 rotate_left
 ·exact t4_
 refine join_ (σ := Value) 3 #[true, true, true, true, true, true, true, true, true, false, false, false] (fun s_ => [(23, .int .i64 t110), (25, s_)]) (fun s_ w' => (w'.cell? ⟨gb106, 0, none⟩ = some (.slice Ao35 t103.length co35)) ∧ (Kd.R (Kd.int .i64) 2 w' w0.heap.size (fun k_ => (P1_0_ k_ ∨ w.heap.size ≤ k_) ∧ OB_ k_ s_ ∧ OB_ k_ (.slice Ao28 l1_0.length co28)) (.slice Ao35 t103.length co35) t103) ∧ (Kd.R (Kd.int .i64) 2 w' w0.heap.size (fun k_ => (P1_0_ k_ ∨ w.heap.size ≤ k_) ∧ OB_ k_ (.slice Ao35 t103.length co35) ∧ OB_ k_ (.slice Ao28 l1_0.length co28)) s_ y113) ∧ (Kd.R (Kd.int .i64) 2 w' w0.heap.size (fun k_ => (PX_ k_ ∨ w.heap.size ≤ k_) ∧ OB_ k_ (.slice Ao35 t103.length co35) ∧ OB_ k_ s_) (.slice Ao28 l1_0.length co28) l1_0) ∧ (w'.heap[gb101]? = some (.cells #[.slice Ao28 l1_0.length co28] 26 (0, 0))) ∧ (w'.heap[gb102]? = some (.cells #[.slice none 0 0] 26 (0, 0))) ∧ (w'.heap[gb106]? = some (.cells #[.slice Ao35 t103.length co35] 26 (0, 0))) ∧ (IsS91 w0 w' g s0_0 t111 t112) ∧ (Kept w w' (fun k_ => (P1_0_ k_) ∨ k_ = g)) ∧ (Below w0.heap.size w0 w')) ?_ ?_
 rotate_left
 ·intro hCont
  refine two_ (i := 6) (j := 8) (Ni := some 23) (Nj := some 25) #[true, true, true, true, true, true, true, true, false, false, false, false] #[true, true, true, true, true, true, false, true, true, false, false, false] rfl rfl rfl rfl (two_of HT_.out (by kernel_rfl)) (by decide) (by decide) (fun K hK => ?_) (fun K hK => ?_)
  ·skip
   refine goes_ Try.func85 (by kernel_rfl) rfl #[.pointer (some ⟨g, 0, none⟩), .int .i64 (t103.length : Int)] (by rfl) rfl rfl t1_ ?_
   with_reducible refine (spec_l01Next.calls g s0_0 t108 t109 (t103.length : Int) t110 t111 t112 w0 _ ?side1 ?side2 A23.out).mono ?_
   (case side1 => exact i_ HI0)
   (case side2 => exact gb_ HB.out)
   rintro e w43 ⟨rfl, hi, hb, hk⟩
   refine ⟨_, rfl, ?_⟩
   replace HO1_0 := kr_ HI0 HO1_0 hk
   replace BK101 := kx_ BK101 NB101_0 hk
   replace BK102 := kx_ BK102 NB102_0 hk
   replace HO105 := kr_ HI0 HO105 hk
   replace BK106 := kx_ BK106 NB106_0 hk
   replace HK := Aside0.mk (Kept.of_keep (S := (fun k_ => (P1_0_ k_) ∨ k_ = g)) (kt_ HK) hk (.inl (.inr rfl)))
   replace HB := Aside0.mk (hb)
   replace HI0 := Aside0.mk (hi)
   (try clear hb)
   (try clear hb2)
   (try clear hk)
   (try clear hi)
   refine hK.out _ _ ((blk_cell BK106.out 0).trans rfl) (fun hHeld => ?_)
   clear hK K
   refine norm_ (a' := ?_) ?_ ?_
   rotate_left
   ·show Act.put _ (some 23) _ = _
    simp only [Act.put, List.setIfInBounds_toArray, List.set_cons_zero, List.set_cons_succ, i64_w, i32_w]
    rfl
   refine on_ (i := 8) (N := some 25) #[true, true, true, true, true, true, true, true, true, false, false, false] rfl rfl HT_ (fun K hK => ?_)
   refine Kd.R_lit_step (Kd.int .i64) _ 2 ?hg (N := 25) ?hd (xs := ([1, 5, 0, (-1), 1099511627776] : List Int)) (inner := [.int .i64 1, .int .i64 5, .int .i64 0, .int .i64 (-1), .int .i64 1099511627776]) (ok := fun _ => True) (okp := fun _ => True) ?hr ?hp (fun _ hk => hk) trivial (Below.refl _ _) (Nat.le_refl _) (by simp) ?_; (case hd => rfl); (case hg => rfl); (case hr => exact t3_); (case hp => exact (Reps.one (show Kd.M (Kd.int .i64) _ _ _ 1 [.int .i64 1] from rfl) (Reps.one (show Kd.M (Kd.int .i64) _ _ _ 5 [.int .i64 5] from rfl) (Reps.one (show Kd.M (Kd.int .i64) _ _ _ 0 [.int .i64 0] from rfl) (Reps.one (show Kd.M (Kd.int .i64) _ _ _ (-1) [.int .i64 (-1)] from rfl) (Reps.one (show Kd.M (Kd.int .i64) _ _ _ 1099511627776 [.int .i64 1099511627776] from rfl) (Reps.none _ _)))))))
   intro v114 w44 ho45 hb hg_ hnew_
   clear hg_ hnew_
   (first | rw [← Ny113.out] at ho45 | (simp only [Int.reduceToNat] at ho45; rw [← Ny113.out] at ho45))
   have n0_ := a5_ HO1_0 ho45 hb
   have n1_ := a5_ HO105 ho45 hb
   have n2_ := Aside0.mk (Kd.R_lower (Kd.R_new' (Kd.R_new' (Kd.R_newM (M := fun k_ => (P1_0_ k_ ∨ w.heap.size ≤ k_)) ho45 (by first | exact HK.out.1 | exact (show Kept w _ (fun k_ => (P1_0_ k_) ∨ k_ = g) from kt_ HK).1) (fun k_ h_ => .inr h_)) (Kd.R_lt (rb_ HO1_0.out))) (Kd.R_lt (rb_ HO105.out))) (below_size (gb_ HB.out)))
   have n3_ := i1_ HI0 hb
   have n4_ := a2_ BK101 hb
   have n5_ := a2_ BK102 hb
   have n6_ := a2_ BK106 hb
   have n7_ := Aside0.mk (Kept.below (S := (fun k_ => (P1_0_ k_) ∨ k_ = g)) (kt_ HK) hb)
   have n8_ := b1_ HB hb
   clear HO1_0 HO105 HI0 BK101 BK102 BK106 HK HB
   have HO1_0 := n0_
   have HO105 := n1_
   have HO115 := n2_
   have HI0 := n3_
   have BK101 := n4_
   have BK102 := n5_
   have BK106 := n6_
   have HK := n7_
   have HB := n8_
   clear n0_ n1_ n2_ n3_ n4_ n5_ n6_ n7_ n8_ hb ho45
   refine hK.out _ _ ((blk_cell BK106.out 0).trans rfl) (fun hHeld => ?_)
   clear hK K
   refine norm_ (a' := ?_) ?_ ?_
   rotate_left
   ·show Act.put _ (some 25) _ = _
    simp only [Act.put, List.setIfInBounds_toArray, List.set_cons_zero, List.set_cons_succ, i64_w, i32_w]
    rfl
   exact norm_ (by simp only [putAll, Act.put, List.setIfInBounds_toArray, List.set_cons_zero, List.set_cons_succ]) (hCont (v114) _ ⟨hHeld, (rb_ (Kd.R_mono HO105.out (fun _ hk => ⟨hk.1.1.1, ⟨hk.2, hk.1.2⟩⟩))), (rb_ (Kd.R_mono HO115.out (fun _ hk => ⟨hk.1.1.1, ⟨hk.2, hk.1.2⟩⟩))), (rb_ (Kd.R_mono HO1_0.out (fun _ hk => ⟨hk.1.1, ⟨hk.1.2, hk.2⟩⟩))), (bb_ BK101.out), (bb_ BK102.out), (bb_ BK106.out), (i_ HI0), (kt_ HK), (gb_ HB.out)⟩)
  ·skip
   refine Kd.R_lit_step (Kd.int .i64) _ 2 ?hg (N := 25) ?hd (xs := ([1, 5, 0, (-1), 1099511627776] : List Int)) (inner := [.int .i64 1, .int .i64 5, .int .i64 0, .int .i64 (-1), .int .i64 1099511627776]) (ok := fun _ => True) (okp := fun _ => True) ?hr ?hp (fun _ hk => hk) trivial (Below.refl _ _) (Nat.le_refl _) (by simp) ?_; (case hd => rfl); (case hg => rfl); (case hr => exact t3_); (case hp => exact (Reps.one (show Kd.M (Kd.int .i64) _ _ _ 1 [.int .i64 1] from rfl) (Reps.one (show Kd.M (Kd.int .i64) _ _ _ 5 [.int .i64 5] from rfl) (Reps.one (show Kd.M (Kd.int .i64) _ _ _ 0 [.int .i64 0] from rfl) (Reps.one (show Kd.M (Kd.int .i64) _ _ _ (-1) [.int .i64 (-1)] from rfl) (Reps.one (show Kd.M (Kd.int .i64) _ _ _ 1099511627776 [.int .i64 1099511627776] from rfl) (Reps.none _ _)))))))
   intro v114 w43 ho44 hb hg_ hnew_
   clear hg_ hnew_
   (first | rw [← Ny113.out] at ho44 | (simp only [Int.reduceToNat] at ho44; rw [← Ny113.out] at ho44))
   have n0_ := a5_ HO1_0 ho44 hb
   have n1_ := a5_ HO105 ho44 hb
   have n2_ := Aside0.mk (Kd.R_lower (Kd.R_new' (Kd.R_new' (Kd.R_newM (M := fun k_ => (P1_0_ k_ ∨ w.heap.size ≤ k_)) ho44 (by first | exact HK.out.1 | exact (show Kept w _ (fun k_ => (P1_0_ k_) ∨ k_ = g) from kt_ HK).1) (fun k_ h_ => .inr h_)) (Kd.R_lt (rb_ HO1_0.out))) (Kd.R_lt (rb_ HO105.out))) (below_size (gb_ HB.out)))
   have n3_ := i1_ HI0 hb
   have n4_ := a2_ BK101 hb
   have n5_ := a2_ BK102 hb
   have n6_ := a2_ BK106 hb
   have n7_ := Aside0.mk (Kept.below (S := (fun k_ => (P1_0_ k_) ∨ k_ = g)) (kt_ HK) hb)
   have n8_ := b1_ HB hb
   clear HO1_0 HO105 HI0 BK101 BK102 BK106 HK HB
   have HO1_0 := n0_
   have HO105 := n1_
   have HO115 := n2_
   have HI0 := n3_
   have BK101 := n4_
   have BK102 := n5_
   have BK106 := n6_
   have HK := n7_
   have HB := n8_
   clear n0_ n1_ n2_ n3_ n4_ n5_ n6_ n7_ n8_ hb ho44
   refine hK.out _ _ ((blk_cell BK106.out 0).trans rfl) (fun hHeld => ?_)
   clear hK K
   refine norm_ (a' := ?_) ?_ ?_
   rotate_left
   ·show Act.put _ (some 25) _ = _
    simp only [Act.put, List.setIfInBounds_toArray, List.set_cons_zero, List.set_cons_succ, i64_w, i32_w]
    rfl
   refine on_ (i := 6) (N := some 23) #[true, true, true, true, true, true, true, true, true, false, false, false] rfl rfl HT_ (fun K hK => ?_)
   refine goes_ Try.func85 (by kernel_rfl) rfl #[.pointer (some ⟨g, 0, none⟩), .int .i64 (t103.length : Int)] (by rfl) rfl rfl t1_ ?_
   with_reducible refine (spec_l01Next.calls g s0_0 t108 t109 (t103.length : Int) t110 t111 t112 w0 _ ?side1 ?side2 A23.out).mono ?_
   (case side1 => exact i_ HI0)
   (case side2 => exact gb_ HB.out)
   rintro e w45 ⟨rfl, hi, hb, hk⟩
   refine ⟨_, rfl, ?_⟩
   replace HO1_0 := kr_ HI0 HO1_0 hk
   replace BK101 := kx_ BK101 NB101_0 hk
   replace BK102 := kx_ BK102 NB102_0 hk
   replace HO105 := kr_ HI0 HO105 hk
   replace BK106 := kx_ BK106 NB106_0 hk
   replace HO115 := kr_ HI0 HO115 hk
   replace HK := Aside0.mk (Kept.of_keep (S := (fun k_ => (P1_0_ k_) ∨ k_ = g)) (kt_ HK) hk (.inl (.inr rfl)))
   replace HB := Aside0.mk (hb)
   replace HI0 := Aside0.mk (hi)
   (try clear hb)
   (try clear hb2)
   (try clear hk)
   (try clear hi)
   refine hK.out _ _ ((blk_cell BK106.out 0).trans rfl) (fun hHeld => ?_)
   clear hK K
   refine norm_ (a' := ?_) ?_ ?_
   rotate_left
   ·show Act.put _ (some 23) _ = _
    simp only [Act.put, List.setIfInBounds_toArray, List.set_cons_zero, List.set_cons_succ, i64_w, i32_w]
    rfl
   exact norm_ (by simp only [putAll, Act.put, List.setIfInBounds_toArray, List.set_cons_zero, List.set_cons_succ]) (hCont (v114) _ ⟨hHeld, (rb_ (Kd.R_mono HO105.out (fun _ hk => ⟨hk.1.1.1, ⟨hk.2, hk.1.2⟩⟩))), (rb_ (Kd.R_mono HO115.out (fun _ hk => ⟨hk.1.1.1, ⟨hk.2, hk.1.2⟩⟩))), (rb_ (Kd.R_mono HO1_0.out (fun _ hk => ⟨hk.1.1, ⟨hk.1.2, hk.2⟩⟩))), (bb_ BK101.out), (bb_ BK102.out), (bb_ BK106.out), (i_ HI0), (kt_ HK), (gb_ HB.out)⟩)
 rintro v114 w46 ⟨hS_, h0_, h1_, h2_, h3_, h4_, h5_, h6_, h7_, h8_⟩
 have n0_ : Aside0 (Kd.R (Kd.int .i64) 2 w46 w0.heap.size (fun k_ => (P1_0_ k_ ∨ w.heap.size ≤ k_) ∧ OB_ k_ v114 ∧ OB_ k_ (.slice Ao28 l1_0.length co28)) (.slice Ao35 t103.length co35) t103) := ⟨h0_⟩
 have n1_ : Aside0 (Kd.R (Kd.int .i64) 2 w46 w0.heap.size (fun k_ => (P1_0_ k_ ∨ w.heap.size ≤ k_) ∧ OB_ k_ (.slice Ao35 t103.length co35) ∧ OB_ k_ (.slice Ao28 l1_0.length co28)) v114 y113) := ⟨h1_⟩
 have n2_ : Aside0 (Kd.R (Kd.int .i64) 2 w46 w0.heap.size (fun k_ => (PX_ k_ ∨ w.heap.size ≤ k_) ∧ OB_ k_ (.slice Ao35 t103.length co35) ∧ OB_ k_ v114) (.slice Ao28 l1_0.length co28) l1_0) := ⟨h2_⟩
 have n3_ : Aside0 (w46.heap[gb101]? = some (.cells #[.slice Ao28 l1_0.length co28] 26 (0, 0))) := ⟨h3_⟩
 have n4_ : Aside0 (w46.heap[gb102]? = some (.cells #[.slice none 0 0] 26 (0, 0))) := ⟨h4_⟩
 have n5_ : Aside0 (w46.heap[gb106]? = some (.cells #[.slice Ao35 t103.length co35] 26 (0, 0))) := ⟨h5_⟩
 have n6_ : Aside0 (IsS91 w0 w46 g s0_0 t111 t112) := ⟨h6_⟩
 have n7_ : Aside0 (Kept w w46 (fun k_ => (P1_0_ k_) ∨ k_ = g)) := ⟨h7_⟩
 have n8_ : Aside0 (Below w0.heap.size w0 w46) := ⟨h8_⟩
 clear HO1_0 HO105 BK101 BK102 BK106 HI0 HK HB h0_ h1_ h2_ h3_ h4_ h5_ h6_ h7_ h8_
 have HO105 := n0_
 have HO115 := n1_
 have HO1_0 := n2_
 have BK101 := n3_
 have BK102 := n4_
 have BK106 := n5_
 have HI0 := n6_
 have HK := n7_
 have HB := n8_
 clear n0_ n1_ n2_ n3_ n4_ n5_ n6_ n7_ n8_
 have hHeld : w46.cell? ⟨gb106, 0, none⟩ = some (.slice Ao35 t103.length co35) := hS_
 obtain ⟨Ao47, co47, eo47⟩ := Kd.R_slice HO115.out
 (first | subst eo47 | (injection eo47 with f1_ f2_ f3_; have f4_ := f1_.symm; have f5_ := f3_.symm; clear f1_ f2_ f3_; subst f4_; subst f5_))
 refine norm_ (a' := ?_) ?_ ?_
 rotate_left
 ·simp only [putAll, Act.put, List.setIfInBounds_toArray, List.set_cons_zero, List.set_cons_succ]
  rfl
 refine on_ (i := 9) (N := some 26) #[true, true, true, true, true, true, true, true, true, true, false, false] rfl rfl HT_ (fun K hK => ?_)
 refine goes_ Try.func82 (by kernel_rfl) rfl #[.pointer (some ⟨g, 0, none⟩), .slice Ao47 y113.length co47] (by rfl) rfl rfl t1_ ?_
 with_reducible refine (spec_l01Pick.calls g s0_0 t111 t112 _ _ y113 t116 t117 t118 w0 _ ?side1 ?side2 ?side3 ?side4 ?side5 A24.out).mono ?_
 (case side1 => exact i_ HI0)
 (case side2 => exact gb_ HB.out)
 (case side3 => exact c1_ HO115)
 (case side4 => exact (Kd.R_reads' HO115.out).2.1)
 (case side5 => exact far_slice (IsS91.own_ne HI0.out HO115.out (by decide)))
 rintro e w48 ⟨rfl, hi, hb, hk⟩
 refine ⟨_, rfl, ?_⟩
 replace HO1_0 := kr_ HI0 HO1_0 hk
 replace BK101 := kx_ BK101 NB101_0 hk
 replace BK102 := kx_ BK102 NB102_0 hk
 replace HO105 := kr_ HI0 HO105 hk
 replace BK106 := kx_ BK106 NB106_0 hk
 replace HO115 := kr_ HI0 HO115 hk
 replace HK := Aside0.mk (Kept.of_keep (S := (fun k_ => (P1_0_ k_) ∨ k_ = g)) (kt_ HK) hk (.inl (.inr rfl)))
 replace HB := Aside0.mk (hb)
 replace HI0 := Aside0.mk (hi)
 (try clear hb)
 (try clear hb2)
 (try clear hk)
 (try clear hi)
 have p27 : 0 ≤ (t110 : Int) := of_decide_eq_true t6_
 have q27 : (t110 : Int) < ((t103.length : Int) : Int) := of_decide_eq_true t6_
 obtain ⟨go27, co27, eo27, gb27, gl27, cl27, HG27⟩ := Kd.R_form HO105.out (by omega)
 (first | cases eo27 | (injection eo27 with ea_ en_ ec_; (first | subst ea_ | (injection ea_ with ea_; subst ea_)); subst ec_; clear en_))
 have GB27 := Aside0.mk gb27
 have GG27 := Aside0.mk HG27
 clear gb27 gl27 HG27
 have HMgo27 := Aside0.mk (show (P1_0_ go27 ∨ w.heap.size ≤ go27) from (HO105.out.1 _ rfl).1)
 obtain ⟨hx27_0, hf27_0⟩ := Kd.R_celln 0 HO105.out (t110 : Int) p27 q27
 replace p27 := eq_true p27
 replace q27 := eq_true q27
 have HN0_go27 := Aside0.mk (show g ≠ go27 from by have h_ := IsS91.own_ne HI0.out HO105.out (by decide); intro e_; exact h_ (by rw [e_]; rfl))
 have HP49 := Kd.R_putn HO105.out (t110 : Int) t116
 rw [← Ny119.out] at HP49
 have HQ49 := Aside0.mk HP49
 clear HP49
 refine hK.out _ _ ((blk_cell BK106.out 0).trans rfl) (fun hHeld => ?_)
 clear hK K
 refine norm_ (a' := ?_) ?_ ?_
 rotate_left
 ·show Act.put _ (some 26) _ = _
  simp only [Act.put, List.setIfInBounds_toArray, List.set_cons_zero, List.set_cons_succ, i64_w, i32_w]
  rfl
 refine pu_ (i := 10) (N := some 27) (v := ?_) (a' := ?_) #[true, true, true, true, true, true, true, true, true, true, true, false] rfl rfl HT_ (Or.inl ⟨by rfl, ?_⟩) ?_ ?_
 rotate_left
 ·exact t7_
 rotate_left
 ·exact t4_
 refine last_ (i := 11) (N := none) #[true, true, true, true, true, true, true, true, true, true, true, true] rfl rfl (one_of HT_.out (by kernel_rfl)) (by decide) (fun K hK => ?_)
 refine skip_ (w1 := ?_) (by rfl) rfl ?_ ?_
 rotate_left
 ·go_simp
  rfl
 refine hK.out _ _ ?_
 clear hK K
 refine done_ (done_of HT_.out (by kernel_rfl)) ?_
 have n0_ : Aside0 (Kd.R (Kd.int .i64) 2 (w48.setCell ⟨go27, (t110 : Int).toNat, none⟩ (.int .i64 t116)) w0.heap.size (fun k_ => (PX_ k_ ∨ w.heap.size ≤ k_) ∧ OB_ k_ (.slice (some ⟨go27, 0, none⟩) t103.length co35) ∧ OB_ k_ (.slice Ao47 y113.length co47)) (.slice Ao28 l1_0.length co28) l1_0) := ⟨by (with_reducible repeat (first | apply Kd.R_alloc | apply Kd.R_drewN | apply Kd.R_drew)); exact Kd.R_mono (Kd.R_far (p := ⟨go27, (t110 : Int).toNat, none⟩) (Kd.R_mono HO1_0.out (fun k_ hk => (⟨hk, fun e_ => hk.2.1 (by rw [e_]; rfl)⟩ : _ ∧ k_ ≠ go27))) (fun _ hk => hk.2) (.int .i64 t116)) (fun _ hk => ⟨hk.1.1, ⟨hk.1.2.1, hk.1.2.2⟩⟩)⟩
 have n1_ : Aside0 (Kd.R (Kd.int .i64) 2 (w48.setCell ⟨go27, (t110 : Int).toNat, none⟩ (.int .i64 t116)) w0.heap.size (fun k_ => (P1_0_ k_ ∨ w.heap.size ≤ k_) ∧ OB_ k_ (.slice Ao28 l1_0.length co28) ∧ OB_ k_ (.slice Ao47 y113.length co47)) (.slice (some ⟨go27, 0, none⟩) t103.length co35) y119) := ⟨by (with_reducible repeat (first | apply Kd.R_alloc | apply Kd.R_drewN | apply Kd.R_drew)); exact Kd.R_mono HQ49.out (fun _ hk => ⟨hk.1, ⟨hk.2.2, hk.2.1⟩⟩)⟩
 have n2_ : Aside0 (Kd.R (Kd.int .i64) 2 (w48.setCell ⟨go27, (t110 : Int).toNat, none⟩ (.int .i64 t116)) w0.heap.size (fun k_ => (P1_0_ k_ ∨ w.heap.size ≤ k_) ∧ OB_ k_ (.slice Ao28 l1_0.length co28) ∧ OB_ k_ (.slice (some ⟨go27, 0, none⟩) t103.length co35)) (.slice Ao47 y113.length co47) y113) := ⟨by (with_reducible repeat (first | apply Kd.R_alloc | apply Kd.R_drewN | apply Kd.R_drew)); exact Kd.R_mono (Kd.R_far (p := ⟨go27, (t110 : Int).toNat, none⟩) (Kd.R_mono HO115.out (fun k_ hk => (⟨hk, fun e_ => hk.2.1 (by rw [e_]; rfl)⟩ : _ ∧ k_ ≠ go27))) (fun _ hk => hk.2) (.int .i64 t116)) (fun _ hk => ⟨hk.1.1, ⟨hk.1.2.2, hk.1.2.1⟩⟩)⟩
 have n3_ : Aside0 ((w48.setCell ⟨go27, (t110 : Int).toNat, none⟩ (.int .i64 t116)).heap[gb101]? = some (.cells #[.slice Ao28 l1_0.length co28] 26 (0, 0))) := ⟨by (with_reducible repeat (first | refine blk_drewN ?_ _ | refine blk_drew ?_ | refine blk_alloc ?_ _)); refine blk_far ?_ (by have h_ := Kd.R_ne HO105.out BK101.out (by decide); intro e_; exact h_ (by rw [e_]; rfl)) _; (with_reducible repeat (first | refine blk_drewN ?_ _ | refine blk_drew ?_ | refine blk_alloc ?_ _)); exact BK101.out⟩
 have n4_ : Aside0 ((w48.setCell ⟨go27, (t110 : Int).toNat, none⟩ (.int .i64 t116)).heap[gb102]? = some (.cells #[.slice none 0 0] 26 (0, 0))) := ⟨by (with_reducible repeat (first | refine blk_drewN ?_ _ | refine blk_drew ?_ | refine blk_alloc ?_ _)); refine blk_far ?_ (by have h_ := Kd.R_ne HO105.out BK102.out (by decide); intro e_; exact h_ (by rw [e_]; rfl)) _; (with_reducible repeat (first | refine blk_drewN ?_ _ | refine blk_drew ?_ | refine blk_alloc ?_ _)); exact BK102.out⟩
 have n5_ : Aside0 ((w48.setCell ⟨go27, (t110 : Int).toNat, none⟩ (.int .i64 t116)).heap[gb106]? = some (.cells #[.slice (some ⟨go27, 0, none⟩) t103.length co35] 26 (0, 0))) := ⟨by (with_reducible repeat (first | refine blk_drewN ?_ _ | refine blk_drew ?_ | refine blk_alloc ?_ _)); refine blk_far ?_ (by have h_ := Kd.R_ne HO105.out BK106.out (by decide); intro e_; exact h_ (by rw [e_]; rfl)) _; (with_reducible repeat (first | refine blk_drewN ?_ _ | refine blk_drew ?_ | refine blk_alloc ?_ _)); exact BK106.out⟩
 have n6_ : Aside0 (IsS91 w0 (w48.setCell ⟨go27, (t110 : Int).toNat, none⟩ (.int .i64 t116)) g s0_0 t117 t118) := ⟨i_ HI0⟩
 have n7_ : Aside0 (Kept w (w48.setCell ⟨go27, (t110 : Int).toNat, none⟩ (.int .i64 t116)) (fun k_ => (P1_0_ k_) ∨ k_ = g)) := ⟨by repeat (first | (with_reducible first | exact HK.out | apply Kept.alloc | apply Kept.drewN | apply Kept.drew | refine Kept.setCell ?_ (Or.imp_left Or.inl HMgo27.out) _ | refine Kept.setCell ?_ (.inl (.inr rfl)) _ | refine Kept.setCell ?_ (.inr GW101.out) _ | refine Kept.setCell ?_ (.inr GW102.out) _ | refine Kept.setCell ?_ (.inr GW106.out) _) | exact HK.out)⟩
 have n8_ : Aside0 (Below w0.heap.size w0 (w48.setCell ⟨go27, (t110 : Int).toNat, none⟩ (.int .i64 t116))) := ⟨gb_ HB.out⟩
 (try clear HO1_0)
 (try clear HO105)
 (try clear HO115)
 (try clear BK101)
 (try clear BK102)
 (try clear BK106)
 (try clear HI0)
 (try clear HK)
 (try clear HB)
 generalize (w48.setCell ⟨go27, (t110 : Int).toNat, none⟩ (.int .i64 t116)) = w50 at n0_ n1_ n2_ n3_ n4_ n5_ n6_ n7_ n8_ ⊢
 have HO1_0 := n0_
 have HO105 := n1_
 have HO115 := n2_
 have BK101 := n3_
 have BK102 := n4_
 have BK106 := n5_
 have HI0 := n6_
 have HK := n7_
 have HB := n8_
 clear n0_ n1_ n2_ n3_ n4_ n5_ n6_ n7_ n8_
 have hcz51_0 := hz_ BK106
 have hfz51_0 := blk_frozen BK106.out 0
 have hnb52 := NB102_0.out
 have hnc52 := NB0_102.out
 have hcz53_0 := hz_ BK102
 have hfz53_0 := blk_frozen BK102.out 0
 try go_wp2
 refine bodyPost_ret (results_cell_row rfl _ _ gb102 26 #[.slice (some ⟨go27, 0, none⟩) t103.length co35] (0, 0) _ rfl (by (with_reducible repeat (first | refine blk_drewN ?_ _ | refine blk_drew ?_ | refine blk_alloc ?_ _)); refine blk_put (cs := #[.slice none 0 0]) ?_ 0 _ rfl; (with_reducible repeat (first | refine blk_drewN ?_ _ | refine blk_drew ?_ | refine blk_alloc ?_ _)); exact BK102.out) Try.underlying26 rfl (by kernel_rfl)) rfl ?_
 exact ⟨_, t5_, by (with_reducible repeat (first | apply Kd.R_alloc | apply Kd.R_drewN | apply Kd.R_drew)); refine Kd.R_mono (show Kd.R (Kd.int .i64) 2 _ w0.heap.size (fun k_ => (P1_0_ k_ ∨ w.heap.size ≤ k_)) _ _ from ?_) (fun k_ h_ => Or.imp_left Or.inr h_); exact Kd.R_mono (Kd.R_far (p := ⟨gb102, 0, none⟩) (Kd.R_types HO105.out BK102.out (by decide)) (fun _ hk => hk.2) (.slice (some ⟨go27, 0, none⟩) t103.length co35)) (fun _ hk => hk.1.1), i_ HI0, gb_ HB.out, kt_ HK⟩
theorem spec_l01Bad.callsK (k : Nat) (g : Nat) (s0_0 : List Int) (s0_1 : Int) (s0_2 : Int) (P1_0_ : Nat → Prop) (u9000_ : Value) (l1_0 : List Int) (r1 : List Int) (r2 : Int) (r3 : Int) (w0 w : World) (hI : IsS91 w0 w g s0_0 s0_1 s0_2) (hB : Below w0.heap.size w0 w) (ho1_0 : Kd.R (Kd.int .i64) 2 w w0.heap.size P1_0_ u9000_ l1_0) (h : spec_l01Bad.f k s0_0 s0_1 s0_2 l1_0 = some (r1, r2, r3)) :
  Calls Try.prog 81 #[.pointer (some ⟨g, 0, none⟩), .agg #[u9000_]] w fun e w' => ∃ v0_ : Value, e = .returned (.agg #[v0_]) ∧ Kd.R (Kd.int .i64) 2 w' w0.heap.size (fun k_ => (P1_0_ k_ ∨ w.heap.size ≤ k_)) v0_ r1 ∧ IsS91 w0 w' g s0_0 r2 r3 ∧ Below w0.heap.size w0 w' ∧ Kept w w' (fun k_ => (P1_0_ k_) ∨ k_ = g) ∧ Kept w w' (fun k_ => k_ = g) := by
 refine (spec_l01Bad.callsS k g s0_0 s0_1 s0_2 P1_0_ (fun _ => False) u9000_ l1_0 r1 r2 r3 w0 w hI hB ho1_0 h).mono ?_
 rintro e w' ⟨v0_, he, ho, hi, hb, hk⟩
 exact ⟨v0_, he, Kd.R_mono ho (fun k_ h_ => Or.imp_left (fun h2 => Or.elim h2 id False.elim) h_), hi, hb, ⟨hk.1, fun k_ h1 h2 => hk.2 k_ h1 (fun h3 => h2 (Or.elim h3 False.elim .inr))⟩, ⟨hk.1, fun k_ h1 h2 => hk.2 k_ h1 (fun h3 => h2 (Or.elim h3 False.elim id))⟩⟩
theorem spec_l01Bad.calls (k : Nat) (g : Nat) (s0_0 : List Int) (s0_1 : Int) (s0_2 : Int) (P1_0_ : Nat → Prop) (u9000_ : Value) (l1_0 : List Int) (r1 : List Int) (r2 : Int) (r3 : Int) (w0 w : World) (hI : IsS91 w0 w g s0_0 s0_1 s0_2) (hB : Below w0.heap.size w0 w) (ho1_0 : Kd.R (Kd.int .i64) 2 w w0.heap.size P1_0_ u9000_ l1_0) (h : spec_l01Bad.f k s0_0 s0_1 s0_2 l1_0 = some (r1, r2, r3)) :
  Calls Try.prog 81 #[.pointer (some ⟨g, 0, none⟩), .agg #[u9000_]] w fun e w' => ∃ v0_ : Value, e = .returned (.agg #[v0_]) ∧ Kd.R (Kd.int .i64) 2 w' w0.heap.size (fun k_ => (P1_0_ k_ ∨ w.heap.size ≤ k_)) v0_ r1 ∧ IsS91 w0 w' g s0_0 r2 r3 ∧ Below w0.heap.size w0 w' ∧ Kept w w' (fun k_ => (P1_0_ k_) ∨ k_ = g) := by
 refine (spec_l01Bad.callsK k g s0_0 s0_1 s0_2 P1_0_ u9000_ l1_0 r1 r2 r3 w0 w hI hB ho1_0 h).mono ?_
 rintro e w' ⟨v0_, he, ho, hi, hb, hk, hk2⟩
 exact ⟨v0_, he, ho, hi, hb, hk⟩


end Go.Proofs.Ytlfipjdjmpdblaa.P
set_option linter.unusedVariables false
set_option linter.unusedSimpArgs false
namespace Go.Proofs.Ytlfipjdjmpdblaa.P
open Go.RowKit Go.Proofs.YtlfipjdjmpdblaaW.PrintWords Go.Proofs.YtlfipjdjmpdblaaW.PrintLast Go.Proofs.YtlfipjdjmpdblaaW.PrintMore CC
def sum8 (s a b : List Int) : List Int := upd8 (fun k => (rd a (k : Int) + rd b (k : Int)) % rd s (k : Int)) s.length
theorem sum8_inR {s : List Int} (hs : isSp s = true) (a b : List Int) : inR s (sum8 s a b) = true := by
  refine inR_of _ _ fun k h1 h2 => ?_
  have hl := isSp_len hs
  obtain ⟨q0, q1⟩ := size_rd (isSp_all hs) h1
  rw [sum8, upd8_rd _ _ h1 (by omega)]
  exact ⟨Int.emod_nonneg _ (by omega), Int.emod_lt_of_pos _ (by omega)⟩
set_option maxHeartbeats 4000000 in
set_option maxRecDepth 100000 in
theorem sumOf_calls (A : Option Addr) (c : Nat) (s d d2 : List Int) (w : World) (hr : Kd.C (Kd.int .i64) w A s.length s) (hc : s.length ≤ c) (hs : isSp s = true) (hd : d.length = 8) (hin : inR s d = true) (hd2 : d2.length = 8) (hin2 : inR s d2 = true) :
    Calls Try.prog 111 #[.agg #[.slice A s.length c], arr8 d, arr8 d2] w
      fun e w' => e = .returned (arr8 (sum8 s d d2)) ∧ Below w.heap.size w w' := by
  have huS := Try.underlying26
  have huD := Try.underlying54
  have HR := Aside0.mk hr
  have HS := Aside0.mk (isSp_all hs)
  have hl := isSp_len hs
  have HD := Aside0.mk hd
  have HI := Aside0.mk hin
  have HD2 := Aside0.mk hd2
  have HI2 := Aside0.mk hin2
  clear hr hs hd hin hd2 hin2
  have HX : Aside0 (sum8 s d d2 = upd8 (fun k => (rd d (k : Int) + rd d2 (k : Int)) % rd s (k : Int)) s.length) := ⟨rfl⟩
  generalize sum8 s d d2 = R at *
  unfold arr8
  go_enter Try.func111, Try.ntmps111
  go_wp2
  have HB : Aside0 (Below w.heap.size w (((((w.alloc (.cells #[.slice A s.length c] 26)).alloc (.cells (nums .u8 d).toArray 54)).alloc (.cells (nums .u8 d2).toArray 54)).alloc (.cells #[.int .u8 0, .int .u8 0, .int .u8 0, .int .u8 0, .int .u8 0, .int .u8 0, .int .u8 0, .int .u8 0] 54)).alloc (.cells #[.int .u8 0, .int .u8 0, .int .u8 0, .int .u8 0, .int .u8 0, .int .u8 0, .int .u8 0, .int .u8 0] 54))) := ⟨below_alloc (below_alloc (below3 _ _ _ _) _) _⟩
  have b1 : (((((w.alloc (.cells #[.slice A s.length c] 26)).alloc (.cells (nums .u8 d).toArray 54)).alloc (.cells (nums .u8 d2).toArray 54)).alloc (.cells #[.int .u8 0, .int .u8 0, .int .u8 0, .int .u8 0, .int .u8 0, .int .u8 0, .int .u8 0, .int .u8 0] 54)).alloc (.cells #[.int .u8 0, .int .u8 0, .int .u8 0, .int .u8 0, .int .u8 0, .int .u8 0, .int .u8 0, .int .u8 0] 54)).heap[w.heap.size + 1]? = some (.cells (nums .u8 d).toArray 54 (0, 0)) :=
    blk_alloc (blk_alloc (blk_alloc (by simpa using blk_new (w.alloc (.cells #[.slice A s.length c] 26)) (.cells (nums .u8 d).toArray 54)) _) _) _
  have b1b : (((((w.alloc (.cells #[.slice A s.length c] 26)).alloc (.cells (nums .u8 d).toArray 54)).alloc (.cells (nums .u8 d2).toArray 54)).alloc (.cells #[.int .u8 0, .int .u8 0, .int .u8 0, .int .u8 0, .int .u8 0, .int .u8 0, .int .u8 0, .int .u8 0] 54)).alloc (.cells #[.int .u8 0, .int .u8 0, .int .u8 0, .int .u8 0, .int .u8 0, .int .u8 0, .int .u8 0, .int .u8 0] 54)).heap[w.heap.size + 1 + 1]? = some (.cells (nums .u8 d2).toArray 54 (0, 0)) :=
    blk_alloc (blk_alloc (by simpa using blk_new ((w.alloc (.cells #[.slice A s.length c] 26)).alloc (.cells (nums .u8 d).toArray 54)) (.cells (nums .u8 d2).toArray 54)) _) _
  have b2 : (((((w.alloc (.cells #[.slice A s.length c] 26)).alloc (.cells (nums .u8 d).toArray 54)).alloc (.cells (nums .u8 d2).toArray 54)).alloc (.cells #[.int .u8 0, .int .u8 0, .int .u8 0, .int .u8 0, .int .u8 0, .int .u8 0, .int .u8 0, .int .u8 0] 54)).alloc (.cells #[.int .u8 0, .int .u8 0, .int .u8 0, .int .u8 0, .int .u8 0, .int .u8 0, .int .u8 0, .int .u8 0] 54)).heap[w.heap.size + 1 + 1 + 1]? = some (.cells (nums .u8 (List.replicate 8 0)).toArray 54 (0, 0)) := by
    rw [z8]
    exact blk_alloc (by simpa using blk_new (((w.alloc (.cells #[.slice A s.length c] 26)).alloc (.cells (nums .u8 d).toArray 54)).alloc (.cells (nums .u8 d2).toArray 54)) (.cells #[.int .u8 0, .int .u8 0, .int .u8 0, .int .u8 0, .int .u8 0, .int .u8 0, .int .u8 0, .int .u8 0] 54)) _
  have b3 : (((((w.alloc (.cells #[.slice A s.length c] 26)).alloc (.cells (nums .u8 d).toArray 54)).alloc (.cells (nums .u8 d2).toArray 54)).alloc (.cells #[.int .u8 0, .int .u8 0, .int .u8 0, .int .u8 0, .int .u8 0, .int .u8 0, .int .u8 0, .int .u8 0] 54)).alloc (.cells #[.int .u8 0, .int .u8 0, .int .u8 0, .int .u8 0, .int .u8 0, .int .u8 0, .int .u8 0, .int .u8 0] 54)).heap[w.heap.size + 1 + 1 + 1 + 1]? = some (.cells (nums .u8 (List.replicate 8 0)).toArray 54 (0, 0)) := by
    rw [z8]
    simpa using blk_new ((((w.alloc (.cells #[.slice A s.length c] 26)).alloc (.cells (nums .u8 d).toArray 54)).alloc (.cells (nums .u8 d2).toArray 54)).alloc (.cells #[.int .u8 0, .int .u8 0, .int .u8 0, .int .u8 0, .int .u8 0, .int .u8 0, .int .u8 0, .int .u8 0] 54)) (.cells #[.int .u8 0, .int .u8 0, .int .u8 0, .int .u8 0, .int .u8 0, .int .u8 0, .int .u8 0, .int .u8 0] 54)
  have B1 := Aside0.mk b1
  have B1b := Aside0.mk b1b
  have B2 := Aside0.mk b2
  have B3 := Aside0.mk b3
  clear b1 b1b b2 b3
  generalize ((((w.alloc (.cells #[.slice A s.length c] 26)).alloc (.cells (nums .u8 d).toArray 54)).alloc (.cells (nums .u8 d2).toArray 54)).alloc (.cells #[.int .u8 0, .int .u8 0, .int .u8 0, .int .u8 0, .int .u8 0, .int .u8 0, .int .u8 0, .int .u8 0] 54)).alloc (.cells #[.int .u8 0, .int .u8 0, .int .u8 0, .int .u8 0, .int .u8 0, .int .u8 0, .int .u8 0, .int .u8 0] 54) = W0 at *
  go_loopw [14] (fun i W => ∃ (n : Nat), n ≤ s.length ∧ i = .int .i64 n ∧ Aside0 (W.heap[w.heap.size + 1]? = some (.cells (nums .u8 d).toArray 54 (0, 0))) ∧ Aside0 (W.heap[w.heap.size + 1 + 1]? = some (.cells (nums .u8 d2).toArray 54 (0, 0))) ∧ Aside0 (W.heap[w.heap.size + 1 + 1 + 1]? = some (.cells (nums .u8 (List.replicate 8 0)).toArray 54 (0, 0))) ∧
      Aside0 (W.heap[w.heap.size + 1 + 1 + 1 + 1]? = some (.cells (nums .u8 (upd8 (fun k => (rd d (k : Int) + rd d2 (k : Int)) % rd s (k : Int)) n)).toArray 54 (0, 0))) ∧ Aside0 (Below w.heap.size w W)) (fun i _ => s.length - (intOf i).toNat)
  case atStart => exact ⟨0, by omega, rfl, B1, B1b, B2, ⟨by rw [upd8_zero]; exact B3.out⟩, HB⟩
  case round =>
    clear B1 B1b B2 B3 HB
    obtain ⟨n, hn, rfl, B1, B1b, B2, B3, HB⟩ := hrel
    by_cases hlt : n < s.length
    · obtain ⟨ad, e, _⟩ := Kd.at_int HR.out (n : Int) (by omega) (by omega)
      subst e
      have hx := rd_cell HR.out HB.out n (by omega)
      have hy := cell8 B1.out (i := n) (by have := HD.out; omega)
      have hy2 := cell8 B1b.out (i := n) (by have := HD2.out; omega)
      have hz := cell8 B3.out (i := n) (by rw [upd8_length]; omega)
      have hfz := blk_frozen B3.out n
      obtain ⟨r0, r1⟩ := inR_rd s d n HI.out hlt (by have := HD.out; omega)
      obtain ⟨r2, r3⟩ := inR_rd s d2 n HI2.out hlt (by have := HD2.out; omega)
      obtain ⟨q0, q1⟩ := size_rd HS.out hlt
      have HU := Aside0.mk (upd8_succ (fun k => (rd d (k : Int) + rd d2 (k : Int)) % rd s (k : Int)) n)
      obtain ⟨m0, m1⟩ := mod_small (x := rd d (n : Int) + rd d2 (n : Int)) q0 q1
      obtain ⟨q, hq⟩ : ∃ q, q = rd s (n : Int) := ⟨_, rfl⟩
      obtain ⟨x, hx2⟩ : ∃ x, x = rd d (n : Int) := ⟨_, rfl⟩
      obtain ⟨y, hy3⟩ : ∃ y, y = rd d2 (n : Int) := ⟨_, rfl⟩
      have HQ := Aside0.mk (And.intro hq (And.intro hx2 hy3))
      rw [← hq] at hx m0 m1 q0 q1 r1 r3
      rw [← hx2] at hy m0 m1 r0 r1
      rw [← hy3] at hy2 m0 m1 r2 r3
      clear hq hx2 hy3
      have hsum : 0 ≤ x + y ∧ x + y ≤ 6 := by omega
      obtain ⟨s0, s1⟩ := hsum
      go_wp2
      go_region
      all_goals go_wp2
      all_goals
        go_roundw
        case rel =>
          refine ⟨n + 1, by omega, by go_num, ⟨blk_drew (blk_far B1.out (by simp) _)⟩, ⟨blk_drew (blk_far B1b.out (by simp) _)⟩, ⟨blk_drew (blk_far B2.out (by simp) _)⟩, ⟨?_⟩, ⟨below_drew (below_set HB.out (by omega))⟩⟩
          have h8 := blk_set8 B3.out n ((x + y) % q)
          rw [HQ.out.1, HQ.out.2.1, HQ.out.2.2] at h8
          rw [HU.out] at h8
          rw [HQ.out.1, HQ.out.2.1, HQ.out.2.2]
          exact blk_drew h8
        case measure => simp [intOf]; omega
    · have hn : n = s.length := by omega
      subst hn
      have B3 := Aside0.mk B3.out
      rw [← HX.out] at B3
      obtain ⟨y0, y1, y2, y3, y4, y5, y6, y7, rfl⟩ := eight (l := R) (by rw [HX.out, upd8_length])
      have k0 : wr.cell? ⟨w.heap.size + 1 + 1 + 1 + 1, 0, none⟩ = some (.int .u8 y0) := blk_cell B3.out 0
      have k1 : wr.cell? ⟨w.heap.size + 1 + 1 + 1 + 1, 1, none⟩ = some (.int .u8 y1) := blk_cell B3.out 1
      have k2 : wr.cell? ⟨w.heap.size + 1 + 1 + 1 + 1, 2, none⟩ = some (.int .u8 y2) := blk_cell B3.out 2
      have k3 : wr.cell? ⟨w.heap.size + 1 + 1 + 1 + 1, 3, none⟩ = some (.int .u8 y3) := blk_cell B3.out 3
      have k4 : wr.cell? ⟨w.heap.size + 1 + 1 + 1 + 1, 4, none⟩ = some (.int .u8 y4) := blk_cell B3.out 4
      have k5 : wr.cell? ⟨w.heap.size + 1 + 1 + 1 + 1, 5, none⟩ = some (.int .u8 y5) := blk_cell B3.out 5
      have k6 : wr.cell? ⟨w.heap.size + 1 + 1 + 1 + 1, 6, none⟩ = some (.int .u8 y6) := blk_cell B3.out 6
      have k7 : wr.cell? ⟨w.heap.size + 1 + 1 + 1 + 1, 7, none⟩ = some (.int .u8 y7) := blk_cell B3.out 7
      have q0 : wr.cell? ⟨w.heap.size + 1 + 1 + 1, 0, none⟩ = some (.int .u8 0) := blk_cell B2.out 0
      have q1 : wr.cell? ⟨w.heap.size + 1 + 1 + 1, 1, none⟩ = some (.int .u8 0) := blk_cell B2.out 1
      have q2 : wr.cell? ⟨w.heap.size + 1 + 1 + 1, 2, none⟩ = some (.int .u8 0) := blk_cell B2.out 2
      have q3 : wr.cell? ⟨w.heap.size + 1 + 1 + 1, 3, none⟩ = some (.int .u8 0) := blk_cell B2.out 3
      have q4 : wr.cell? ⟨w.heap.size + 1 + 1 + 1, 4, none⟩ = some (.int .u8 0) := blk_cell B2.out 4
      have q5 : wr.cell? ⟨w.heap.size + 1 + 1 + 1, 5, none⟩ = some (.int .u8 0) := blk_cell B2.out 5
      have q6 : wr.cell? ⟨w.heap.size + 1 + 1 + 1, 6, none⟩ = some (.int .u8 0) := blk_cell B2.out 6
      have q7 : wr.cell? ⟨w.heap.size + 1 + 1 + 1, 7, none⟩ = some (.int .u8 0) := blk_cell B2.out 7
      have hf := fun i => blk_frozen B2.out i
      go_wp2
      refine bodyPost_ret (v := .agg #[.int .u8 y0, .int .u8 y1, .int .u8 y2, .int .u8 y3, .int .u8 y4, .int .u8 y5, .int .u8 y6, .int .u8 y7]) (by simp [results, Try.results111, go_sem, q0, q1, q2, q3, q4, q5, q6, q7]) rfl ⟨rfl, ?_⟩
      repeat (refine below_set ?_ (by omega))
      exact HB.out
theorem isW_sm3 {s : List Int} (hs : isSp s = true) {x : Int} (h : isW s x = true) : 0 ≤ x ∧ x ≤ 1024 := by
  have h1 := (isW_iff s x).1 h
  have h2 := isSp_prd hs
  omega
def impl_sumWords.f (l0_0 : List Int) (a1 a2 : Int) : Option Int := if isSp l0_0 = true ∧ isW l0_0 a1 = true ∧ isW l0_0 a2 = true then some (hor 0 l0_0 (sum8 l0_0 (dig8 l0_0 a1) (dig8 l0_0 a2))) else none
set_option maxHeartbeats 4000000 in
set_option maxRecDepth 100000 in
theorem sumWords_calls (A : Option Addr) (c : Nat) (s : List Int) (x y : Int) (w : World) (hr : Kd.C (Kd.int .i64) w A s.length s) (hc : s.length ≤ c) (hs : isSp s = true) (h0 : 0 ≤ x) (h1 : x ≤ 1024) (h2 : 0 ≤ y) (h3 : y ≤ 1024) :
    Calls Try.prog 57 #[.agg #[.slice A s.length c], .int .i64 x, .int .i64 y] w
      fun e w' => e = .returned (.int .i64 (hor 0 s (sum8 s (dig8 s x) (dig8 s y)))) ∧ Below w.heap.size w w' := by
  have huS := Try.underlying26
  have HR := Aside0.mk hr
  have HS := Aside0.mk hs
  have I1 := Aside0.mk (dig8_inR hs x)
  have I2 := Aside0.mk (dig8_inR hs y)
  have I3 := Aside0.mk (sum8_inR hs (dig8 s x) (dig8 s y))
  clear hr hs
  go_enter Try.func57, Try.ntmps57
  go_wp2_with fail
  have hcell : (w.alloc (.cells #[.slice A s.length c] 26)).cell? ⟨w.heap.size, 0, none⟩ = some (.slice A s.length c) := blk_cell (blk_new _ _) 0
  have hB : Below w.heap.size w (w.alloc (.cells #[.slice A s.length c] 26)) := (Below.refl _ _).alloc (Nat.le_refl _) _
  go_region_held3 (fun w' => w'.cell? ⟨w.heap.size, 0, none⟩ = some (.slice A s.length c) ∧ Below w.heap.size w w') (first | exact ⟨hcell, below_drew hB⟩ | exact keepS hb (by assumption))
    (first
      | (go_at_call 64; refine (digitsOf_calls A c s _ _ ?k1 hc HS.out (by omega) (by omega)).mono ?_; (case k1 => exact Kd.C_below HR.out (by first | assumption | exact (by assumption : _ ∧ Below _ _ _).2)); rintro e w' ⟨rfl, hb⟩)
      | (go_at_call 111; refine (sumOf_calls A c s (dig8 s x) (dig8 s y) _ ?k1 hc HS.out (dig8_length _ _) I1.out (dig8_length _ _) I2.out).mono ?_; (case k1 => exact Kd.C_below HR.out (by first | assumption | exact (by assumption : _ ∧ Below _ _ _).2)); rintro e w' ⟨rfl, hb⟩)
      | (go_at_call 62; refine (wordOf_calls A c s (sum8 s (dig8 s x) (dig8 s y)) _ ?k1 hc HS.out (upd8_length _ _) I3.out).mono ?_; (case k1 => exact Kd.C_below HR.out (by first | assumption | exact (by assumption : _ ∧ Below _ _ _).2)); rintro e w' ⟨rfl, hb⟩))
  all_goals
    go_wp2
    go_ret
    exact ⟨rfl, (by assumption : _ ∧ Below w.heap.size w _).2⟩
theorem impl_sumWords.calls (A0_0 : Option Addr) (c0_0 : Nat) (l0_0 : List Int) (a1 : Int) (a2 : Int) (r : Int) (w : World) (hr0_0 : Kd.C (Kd.int .i64) w A0_0 l0_0.length l0_0) (hc0_0 : l0_0.length ≤ c0_0) (h : impl_sumWords.f l0_0 a1 a2 = some r) :
    Calls Try.prog 57 #[.agg #[.slice A0_0 l0_0.length c0_0], .int .i64 a1, .int .i64 a2] w fun e w' => e = .returned (.int .i64 r) ∧ Below w.heap.size w w' := by
  unfold impl_sumWords.f at h
  split at h
  · rename_i hc
    obtain rfl := Option.some.inj h
    obtain ⟨hs, h1, h2⟩ := hc
    obtain ⟨g0, g1⟩ := isW_sm3 hs h1
    obtain ⟨g2, g3⟩ := isW_sm3 hs h2
    exact sumWords_calls A0_0 c0_0 l0_0 a1 a2 w hr0_0 hc0_0 hs g0 g1 g2 g3
  · cases h
end Go.Proofs.Ytlfipjdjmpdblaa.P
namespace Go.Proofs.Ytlfipjdjmpdblaa.P
open Go.RowKit Go.Proofs.YtlfipjdjmpdblaaW.PrintWords Go.Proofs.YtlfipjdjmpdblaaW.PrintLast Go.Proofs.YtlfipjdjmpdblaaW.PrintMore
attribute [local go_sem] max2_int min2_int max_two min_two max_three min_three max_four min_four
set_option linter.unusedVariables false
set_option linter.unusedSimpArgs false
def spec_SumOfWords.f (k : Nat) (l0_0 : List Int) (a1 : Int) (a2 : Int) : Option (Int × Int) := (spec_l01Words.f k l0_0 (([a1, a2] : List Int))).bind fun t105 => (if t105 = 0 then ((spec_l01Sum.f k l0_0 a1 a2).bind fun t106 => (some (t106, 0))) else (some (0, t105)))
set_option maxHeartbeats 8000000 in
set_option maxRecDepth 100000 in
theorem spec_SumOfWords.calls (k : Nat) (A0_0 : Option Addr) (c0_0 : Nat) (l0_0 : List Int) (a1 : Int) (a2 : Int) (r1 : Int) (r2 : Int) (w : World) (hr0_0 : Kd.C (Kd.int .i64) w A0_0 l0_0.length l0_0) (hc0_0 : l0_0.length ≤ c0_0) (h : spec_SumOfWords.f k l0_0 a1 a2 = some (r1, r2)) :
  Calls Try.prog 9 #[.agg #[.slice A0_0 l0_0.length c0_0], .int .i64 a1, .int .i64 a2] w fun e w' => e = .returned (.tuple #[.int .i64 r1, .int .i64 r2]) ∧ Below w.heap.size w w' := by
 have hu26 := Try.underlying26
 have HR0_0 := Aside0.mk hr0_0
 have HC0_0 := Aside0.mk hc0_0
 clear hr0_0 hc0_0
 have HB := Aside0.mk (Below.refl w.heap.size w)
 have H : ((spec_l01Words.f k l0_0 (([a1, a2] : List Int))).bind fun t105 => (if t105 = 0 then ((spec_l01Sum.f k l0_0 a1 a2).bind fun t106 => (some (t106, 0))) else (some (0, t105)))) = some (r1, r2) := h
 clear h
 obtain ⟨y102, hy102⟩ : ∃ y_ : List Int, y_ = (([a1, a2] : List Int)) := ⟨_, rfl⟩
 replace H : ((spec_l01Words.f k l0_0 y102).bind fun t105 => (if t105 = 0 then ((spec_l01Sum.f k l0_0 a1 a2).bind fun t106 => (some (t106, 0))) else (some (0, t105)))) = some (r1, r2) := y_ H
 have Ny102 := Aside0.mk hy102
 clear hy102
 replace H := Option.bind_eq_some_iff.mp H
 obtain ⟨t105, A40, H⟩ := H
 replace H : (if t105 = 0 then ((spec_l01Sum.f k l0_0 a1 a2).bind fun t106 => (some (t106, 0))) else (some (0, t105))) = some (r1, r2) := H
 have A4 := Aside0.mk A40
 clear A40
 by_cases c5 : t105 = 0
 rotate_left
 ·rw [if_neg c5] at H
  have c5b0 : (t105 == 0) = false := beq_eq_false_iff_ne.mpr c5
  have c5b1 : (t105 != 0) = true := bne_iff_ne.mpr c5
  simp only [Option.some.injEq, Prod.mk.injEq] at H
  obtain ⟨rfl, rfl⟩ := H
  go_enter Try.func9, Try.ntmps9
  go_wp2_with (first | ((with_reducible refine gate_dst (N := 3) rfl ?_); refine bx_ (N := 3) (cs := #[.slice A0_0 l0_0.length c0_0]) (t := 26) rfl rfl ?_; intro gb101 hg w15 hbox hb; have n0_ := b1_ HB hb; have n1_ := Aside0.mk (hbox); have n2_ := ge_ hg HB; have n3_ := ge_ hg HB; clear HB; have HB := n0_; have BK101 := n1_; have GW101 := n2_; have GE101 := n3_; clear n0_ n1_ n2_ n3_ hb hbox hg; have hcz16_0 := hz_ BK101; have hfz16_0 := blk_frozen BK101.out 0) | ((with_reducible refine gate_dst (N := 12) rfl ?_); refine Kd.R_lit (Kd.int .i64) _ 2 ?hg (N := 12) ?hd (xs := ([a1, a2] : List Int)) (inner := [.int .i64 a1, .int .i64 a2]) (ok := fun _ => True) (okp := fun _ => True) ?hr ?hp (fun _ hk => hk) trivial (Below.refl _ _) (Nat.le_refl _) (by simp) ?_; (case hd => rfl); (case hg => rfl); (case hr => exact t3_); (case hp => exact (Reps.one (show Kd.M (Kd.int .i64) _ _ _ a1 [.int .i64 a1] from rfl) (Reps.one (show Kd.M (Kd.int .i64) _ _ _ a2 [.int .i64 a2] from rfl) (Reps.none _ _)))); intro v103 w17 ho18 hb hg_ hnew_; clear hg_ hnew_; (first | rw [← Ny102.out] at ho18 | (simp only [Int.reduceToNat] at ho18; rw [← Ny102.out] at ho18)); have n0_ := Aside0.mk (Kd.R_lower ho18 (below_size (gb_ HB.out))); have n1_ := a2_ BK101 hb; have n2_ := b1_ HB hb; clear BK101 HB; have HO104 := n0_; have BK101 := n1_; have HB := n2_; clear n0_ n1_ n2_ hb ho18; obtain ⟨Ao19, co19, eo19⟩ := Kd.R_slice HO104.out; subst eo19) | ((with_reducible refine gate_callee (f := 58) rfl ?_); refine gl_ (some 13) rfl rfl Try.func58 #[.agg #[.slice A0_0 l0_0.length c0_0], .slice Ao19 y102.length co19] rfl ?_; (with_reducible refine (spec_l01Words.calls k _ _ l0_0 _ _ y102 t105 _ ?side1 ?side2 ?side3 ?side4 A4.out).mono ?_); (case side1 => exact c2_ HR0_0 HB); (case side2 => exact HC0_0.out); (case side3 => exact c1_ HO104); (case side4 => exact (Kd.R_reads' HO104.out).2.1); rintro e w20 ⟨rfl, hb⟩; refine ⟨_, rfl, ?_⟩; replace HO104 := a1_ HO104 hb; replace BK101 := a2_ BK101 hb; replace HB := b1_ HB hb; (try clear hb); (try clear hb2); (try clear hk); (try clear hi)))
  go_ret2
  exact ⟨t5_, gb_ HB.out⟩

 rw [if_pos c5] at H
 have c5b0 : (t105 == 0) = true := beq_iff_eq.mpr c5
 have c5b1 : (t105 != 0) = false := bne_eq_false_iff_eq.mpr c5
 clear c5
 replace H := Option.bind_eq_some_iff.mp H
 obtain ⟨t106, A60, H⟩ := H
 replace H : (some (t106, 0)) = some (r1, r2) := H
 have A6 := Aside0.mk A60
 clear A60
 simp only [Option.some.injEq, Prod.mk.injEq] at H
 obtain ⟨rfl, rfl⟩ := H
 go_enter Try.func9, Try.ntmps9
 go_wp2_with (first | ((with_reducible refine gate_dst (N := 3) rfl ?_); refine bx_ (N := 3) (cs := #[.slice A0_0 l0_0.length c0_0]) (t := 26) rfl rfl ?_; intro gb101 hg w7 hbox hb; have n0_ := b1_ HB hb; have n1_ := Aside0.mk (hbox); have n2_ := ge_ hg HB; have n3_ := ge_ hg HB; clear HB; have HB := n0_; have BK101 := n1_; have GW101 := n2_; have GE101 := n3_; clear n0_ n1_ n2_ n3_ hb hbox hg; have hcz8_0 := hz_ BK101; have hfz8_0 := blk_frozen BK101.out 0) | ((with_reducible refine gate_dst (N := 12) rfl ?_); refine Kd.R_lit (Kd.int .i64) _ 2 ?hg (N := 12) ?hd (xs := ([a1, a2] : List Int)) (inner := [.int .i64 a1, .int .i64 a2]) (ok := fun _ => True) (okp := fun _ => True) ?hr ?hp (fun _ hk => hk) trivial (Below.refl _ _) (Nat.le_refl _) (by simp) ?_; (case hd => rfl); (case hg => rfl); (case hr => exact t3_); (case hp => exact (Reps.one (show Kd.M (Kd.int .i64) _ _ _ a1 [.int .i64 a1] from rfl) (Reps.one (show Kd.M (Kd.int .i64) _ _ _ a2 [.int .i64 a2] from rfl) (Reps.none _ _)))); intro v103 w9 ho10 hb hg_ hnew_; clear hg_ hnew_; (first | rw [← Ny102.out] at ho10 | (simp only [Int.reduceToNat] at ho10; rw [← Ny102.out] at ho10)); have n0_ := Aside0.mk (Kd.R_lower ho10 (below_size (gb_ HB.out))); have n1_ := a2_ BK101 hb; have n2_ := b1_ HB hb; clear BK101 HB; have HO104 := n0_; have BK101 := n1_; have HB := n2_; clear n0_ n1_ n2_ hb ho10; obtain ⟨Ao11, co11, eo11⟩ := Kd.R_slice HO104.out; subst eo11) | ((with_reducible refine gate_callee (f := 58) rfl ?_); refine gl_ (some 13) rfl rfl Try.func58 #[.agg #[.slice A0_0 l0_0.length c0_0], .slice Ao11 y102.length co11] rfl ?_; (with_reducible refine (spec_l01Words.calls k _ _ l0_0 _ _ y102 t105 _ ?side1 ?side2 ?side3 ?side4 A4.out).mono ?_); (case side1 => exact c2_ HR0_0 HB); (case side2 => exact HC0_0.out); (case side3 => exact c1_ HO104); (case side4 => exact (Kd.R_reads' HO104.out).2.1); rintro e w12 ⟨rfl, hb⟩; refine ⟨_, rfl, ?_⟩; replace HO104 := a1_ HO104 hb; replace BK101 := a2_ BK101 hb; replace HB := b1_ HB hb; (try clear hb); (try clear hb2); (try clear hk); (try clear hi); have hcz13_0 := hz_ BK101; have hfz13_0 := blk_frozen BK101.out 0) | ((with_reducible refine gate_callee (f := 59) rfl ?_); refine gl_ (some 20) rfl rfl Try.func59 #[.agg #[.slice A0_0 l0_0.length c0_0], .int .i64 a1, .int .i64 a2] rfl ?_; (with_reducible refine (spec_l01Sum.calls k _ _ l0_0 a1 a2 t106 _ ?side1 ?side2 A6.out).mono ?_); (case side1 => exact c2_ HR0_0 HB); (case side2 => exact HC0_0.out); rintro e w14 ⟨rfl, hb⟩; refine ⟨_, rfl, ?_⟩; replace HO104 := a1_ HO104 hb; replace BK101 := a2_ BK101 hb; replace HB := b1_ HB hb; (try clear hb); (try clear hb2); (try clear hk); (try clear hi)))
 go_ret2
 exact ⟨t5_, gb_ HB.out⟩
end Go.Proofs.Ytlfipjdjmpdblaa.P
