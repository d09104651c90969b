/- What the law FnForms needs, part 7: words, walks of functions (each says that a call returns what the plain Lean function beside it says), plain lemmas. -/
import Derived.Test.YtnkndaapamenmaaGreatKFnFormsF
namespace Go.Proofs.YtnkndaapamenmaaGreat.P
open Go.RowKit Go.Proofs.YtnkndaapamenmaaGreatW.PrintWords Go.Proofs.YtnkndaapamenmaaGreatW.PrintLast Go.Proofs.YtnkndaapamenmaaGreatW.PrintMore
attribute [local go_sem] max2_int min2_int max_two min_two max_three min_three max_four min_four
set_option linter.unusedVariables false
set_option linter.unusedSimpArgs false
def spec_l01Sum.l0 : Nat → List Int → List Int → Int → Int → List Int → Option (Int)
  | 0, _, _, _, _, _ => none
  | k + 1, x7, x8, x17, x18, x102000 => if x18 < x17 then (if 0 ≤ x18 then (if x18 < (x7.length : Int) then (if x18 < (x8.length : Int) then (if x18 < (x102000.length : Int) then (if (rd x102000 x18) = 0 then (none) else (spec_l01Sum.l0 k (x7.set (x18 : Int).toNat (Int.tmod (wrap64 ((rd x7 x18) + (rd x8 x18))) (rd x102000 x18))) x8 x17 (wrap64 (x18 + 1)) x102000)) else (none)) else (none)) else (none)) else (none)) else ((spec_l01Word.f k x102000 x7).bind fun t112 => (some t112))
def spec_l01Sum.f (k : Nat) (l0_0 : List Int) (a1 : Int) (a2 : Int) : Option (Int) := (spec_l01Digits.f k l0_0 a1).bind fun t102 => ((spec_l01Digits.f k l0_0 a2).bind fun t105 => (spec_l01Sum.l0 k t102 t105 (t102.length : Int) 0 l0_0))
def spec_l01Sum.T1 : Bool × List (List Nat × List Nat) := (true, [([], []), ([], []), ([0, 1], [0, 1]), ([], []), ([], []), ([3, 4, 2], [3, 4]), ([2, 5, 0, 1, 2], [2]), ([5, 6, 0, 1, 2, 3, 4, 5, 6], [5])])
def spec_l01Sum.B1 : List Nat := [0, 0, 3, 0, 0, 31, 63, 127]
theorem spec_l01Sum.tab1 : rtab .any (opsOf Tryz.f75 1) = spec_l01Sum.T1 := by kernel_rfl
theorem spec_l01Sum.bits1 : waitsOk spec_l01Sum.T1.2 spec_l01Sum.B1 = true := by kernel_rfl
def spec_l01Sum.T5 : Bool × List (List Nat × List Nat) := (true, [([], []), ([], []), ([], []), ([], []), ([2, 3], [2, 3]), ([4], [4]), ([], []), ([], []), ([6, 7], [6, 7]), ([8], [8]), ([5, 9], [5, 9]), ([], []), ([11], [11]), ([], []), ([12, 13], [12, 13]), ([14], [14]), ([10, 15], [10, 15]), ([0, 1, 0, 1, 2, 3, 4, 5, 6, 7, 8, 9, 10, 11, 12, 13, 14, 15, 16], [0, 1]), ([17, 16, 0, 1, 2, 3, 4, 5, 6, 7, 8, 9, 10, 11, 12, 13, 14, 15, 16], [16, 17])])
def spec_l01Sum.B5 : List Nat := [0, 0, 0, 0, 12, 28, 0, 0, 192, 448, 1020, 0, 2048, 0, 14336, 30720, 65532, 131071, 262143]
theorem spec_l01Sum.tab5 : rtab .any (opsOf Tryz.f75 5) = spec_l01Sum.T5 := by kernel_rfl
theorem spec_l01Sum.bits5 : waitsOk spec_l01Sum.T5.2 spec_l01Sum.B5 = true := by kernel_rfl
set_option maxHeartbeats 8000000 in
set_option maxRecDepth 100000 in
theorem spec_l01Sum.calls (k : Nat) (A0_0 : Option Addr) (c0_0 : Nat) (l0_0 : List Int) (a1 : Int) (a2 : Int) (r : Int) (w : World) (hr0_0 : Kd.C (Kd.int .i64) w A0_0 l0_0.length l0_0) (hc0_0 : l0_0.length ≤ c0_0) (h : spec_l01Sum.f k l0_0 a1 a2 = some r) :
  Calls Tryz.prog 75 #[.agg #[.slice A0_0 l0_0.length c0_0], .int .i64 a1, .int .i64 a2] w fun e w' => e = .returned (.int .i64 r) ∧ Below w.heap.size w w' := by
 have hu26 := Tryz.underlying26
 have HR0_0 := Aside0.mk hr0_0
 have HC0_0 := Aside0.mk hc0_0
 clear hr0_0 hc0_0
 have HB := Aside0.mk (Below.refl w.heap.size w)
 have H := h
 clear h
 unfold spec_l01Sum.f at H
 replace H := bd_ H
 obtain ⟨t102, A4, H⟩ := H
 replace H := bd_ H
 obtain ⟨t105, A5, H⟩ := H
 have H' := Aside0.mk H
 clear H
 go_enter Tryz.func75, Tryz.ntmps75
 try go_wp2_with (first | ((with_reducible refine gate_dst (N := 3) rfl ?_); refine bx_ (N := 3) (cs := #[.slice A0_0 l0_0.length c0_0]) (t := 26) rfl rfl ?_; intro gb101 hg w6 hbox hb; have BK101 := Aside0.mk (hbox); have GW101 := ge_ hg HB; have GE101 := ge_ hg HB; replace HB := b1_ HB hb; clear hb hbox hg))
 replace BK101 := Aside0.mk (blk_drew BK101.out)
 replace HB := Aside0.mk (below_drew1 HB.out)
 refine start_ (n := 8) (S := fun w' => w'.cell? ⟨gb101, 0, none⟩ = some (.slice A0_0 l0_0.length c0_0)) (ds := []) #[false, false, false, false, false, false, false, false] (by kernel_rfl) rfl rfl ((blk_cell BK101.out 0).trans rfl) (fun hHeld => ?_); refine with_tabW spec_l01Sum.tab1 spec_l01Sum.bits1 (fun HT_ HW_ => ?_)
 generalize w6.drew = w7 at BK101 HB hHeld ⊢
 refine pv_ 1 11 HT_ ?_
 refine pv_ 4 14 HT_ ?_
 refine tv1_ 0 10 HT_ HW_ hHeld ?_
 refine tv1_ 3 13 HT_ HW_ hHeld ?_
 refine ow_ 2 12 HT_ fun K hK => ?_
 refine goes_ Tryz.func76 (by kernel_rfl) rfl #[.agg #[.slice A0_0 l0_0.length c0_0], .int .i64 a1] (by rfl) rfl rfl t1_ ?_
 with_reducible refine (spec_l01Digits.calls k _ _ l0_0 a1 t102 _ (c2_ HR0_0 HB) HC0_0.out A4.out).mono ?_
 rintro e w8 ⟨v103, rfl, ho0, hb⟩
 refine ⟨_, rfl, ?_⟩
 have HO104 := Aside0.mk (Kd.R_lower ho0 (below_size (gb_ HB.out)))
 replace BK101 := a2_ BK101 hb
 replace HB := b1_ HB hb
 (try clear hb ho0)
 refine hK.out _ _ ((blk_cell BK101.out 0).trans rfl) (fun hHeld => ?_)
 clear hK K
 refine nm_ ?_
 refine ow_ 5 15 HT_ fun K hK => ?_
 refine goes_ Tryz.func76 (by kernel_rfl) rfl #[.agg #[.slice A0_0 l0_0.length c0_0], .int .i64 a2] (by rfl) rfl rfl t1_ ?_
 with_reducible refine (spec_l01Digits.calls k _ _ l0_0 a2 t105 _ (c2_ HR0_0 HB) HC0_0.out A5.out).mono ?_
 rintro e w9 ⟨v106, rfl, ho0, hb⟩
 refine ⟨_, rfl, ?_⟩
 have HO107 := Aside0.mk (Kd.R_lower (Kd.R_new' ho0 (Kd.R_lt (rb_ HO104.out))) (below_size (gb_ HB.out)))
 replace HO104 := a5_ HO104 ho0 hb
 replace BK101 := a2_ BK101 hb
 replace HB := b1_ HB hb
 (try clear hb ho0)
 refine hK.out _ _ ((blk_cell BK101.out 0).trans rfl) (fun hHeld => ?_)
 clear hK K
 refine nm_ ?_
 refine pv_ 6 7 HT_ ?_
 refine pv_ 7 8 HT_ ?_
 refine done_ (done_of HT_.out (by kernel_rfl)) ?_
 obtain ⟨Ao10, co10, eo10⟩ := Kd.R_slice HO104.out
 subst eo10
 try go_wp2
 go_loopg [18] k (fun kq v18 w' => ∃ (x7_1 : List Int) (x18_1 : Int), v18 = .int .i64 x18_1 ∧ Aside0 (spec_l01Sum.l0 kq x7_1 t105 (t102.length : Int) x18_1 l0_0 = some r) ∧ Aside0 (kq ≤ k) ∧ Aside0 (Kd.R (Kd.int .i64) 2 w' w.heap.size (fun k_ => OB_ k_ v106) (.slice Ao10 t102.length co10) x7_1) ∧ Aside0 (Kd.R (Kd.int .i64) 2 w' w.heap.size (fun k_ => OB_ k_ (.slice Ao10 t102.length co10)) v106 t105) ∧ Aside0 (w'.heap[gb101]? = some (.cells #[(.slice A0_0 l0_0.length c0_0)] 26 (0, 0))) ∧ Aside0 (Below w.heap.size w w'))
 case atStart => exact ⟨(t102), (0), t2_, H', ⟨Nat.le_refl _⟩, ⟨rb_ (Kd.R_mono HO104.out (fun _ hk => hk.2))⟩, ⟨rb_ (Kd.R_mono HO107.out (fun _ hk => hk.2))⟩, ⟨bb_ BK101.out⟩, ⟨gb_ HB.out⟩⟩
 clear H'
 try clear p2
 try clear c7
 obtain ⟨x7_1, x18_1, rfl, HA, HK1, HO_7, HO_8, BK101, HB⟩ := hrel
 have hl7_1 := (Kd.R_reads' HO_7.out).1
 rw [hl7_1] at HO_7
 (try simp only [hl7_1])
 (try simp only [hl7_1] at BK101)
 (try simp only [hl7_1] at HO_8)
 obtain _ | k1 := gk
 ·exact absurd HA.out (by simp [spec_l01Sum.l0])
 have H := HA.out
 clear HA
 simp only [spec_l01Sum.l0] at H
 by_cases c11 : x18_1 < (t102.length : Int)
 rotate_left
 ·rw [if_neg c11] at H
  have c11b0 := decide_eq_false c11
  (try (have c11z := c11b0; simp only [hl7_1] at c11z))
  clear c11
  replace H := bd_ H
  obtain ⟨t112, A21, H⟩ := H
  obtain rfl := Option.some.inj H
  have hcz22_0 := hz_ BK101
  have hfz22_0 := blk_frozen BK101.out 0
  go_wp2_with (first | ((with_reducible refine gate_callee (f := 77) rfl ?_); refine gl_ (some 42) rfl rfl Tryz.func77 #[.agg #[.slice A0_0 l0_0.length c0_0], .slice Ao10 x7_1.length co10] rfl ?_; (with_reducible refine (spec_l01Word.calls k1 _ _ l0_0 _ _ x7_1 t112 _ ?side1 ?side2 ?side3 ?side4 A21.out).mono ?_); (case side1 => exact c2_ HR0_0 HB); (case side2 => exact HC0_0.out); (case side3 => exact c1_ HO_7); (case side4 => exact (Kd.R_reads' HO_7.out).2.1); rintro e w23 ⟨rfl, hb⟩; refine ⟨_, rfl, ?_⟩; replace HO_7 := a1_ HO_7 hb; replace HO_8 := a1_ HO_8 hb; replace BK101 := a2_ BK101 hb; replace HB := b1_ HB hb; (try clear hb); (try clear hb2); (try clear hk); (try clear hi)))
  go_ret
  exact ⟨t5_, gb_ HB.out⟩

 rw [if_pos c11] at H
 have c11b0 := decide_eq_true c11
 (try (have c11z := c11b0; simp only [hl7_1] at c11z))
 clear c11
 replace H := id_ H
 obtain ⟨c12b0, H⟩ := H
 replace H := ip_ H
 obtain ⟨c13, H⟩ := H
 have c13b0 := decide_eq_true c13
 (try (have c13z := c13b0; simp only [hl7_1] at c13z))
 clear c13
 replace H := ip_ H
 obtain ⟨c14, H⟩ := H
 have c14b0 := decide_eq_true c14
 (try (have c14z := c14b0; simp only [hl7_1] at c14z))
 clear c14
 replace H := ip_ H
 obtain ⟨c15, H⟩ := H
 have c15b0 := decide_eq_true c15
 (try (have c15z := c15b0; simp only [hl7_1] at c15z))
 clear c15
 by_cases c16 : (rd l0_0 x18_1) = 0
 ·rw [if_pos c16] at H
  exact absurd H (by simp)
 rw [if_neg c16] at H
 have c16b0 : ((rd l0_0 x18_1) == 0) = false := beq_eq_false_iff_ne.mpr c16
 have c16b1 : ((rd l0_0 x18_1) != 0) = true := bne_iff_ne.mpr c16
 obtain ⟨y111, hy111⟩ : ∃ y_ : List Int, y_ = (x7_1.set (x18_1 : Int).toNat (Int.tmod (wrap64 ((rd x7_1 x18_1) + (rd t105 x18_1))) (rd l0_0 x18_1))) := ⟨_, rfl⟩
 replace H : (spec_l01Sum.l0 k1 y111 t105 (t102.length : Int) (wrap64 (x18_1 + 1)) l0_0) = some r := y_ H
 have Ny111 := Aside0.mk hy111
 clear hy111
 have H' := Aside0.mk H
 clear H
 try go_wp2
 replace HO_7 := Aside0.mk (Kd.R_drew HO_7.out)
 replace HO_8 := Aside0.mk (Kd.R_drew HO_8.out)
 replace BK101 := Aside0.mk (blk_drew BK101.out)
 replace HB := Aside0.mk (below_drew1 HB.out)
 have p108 : 0 ≤ (x18_1 : Int) := of_decide_eq_true t6_
 have q108 : x18_1 < (x7_1.length : Int) := of_decide_eq_true t6_
 (try (obtain ⟨Aoz, coz, eoz⟩ := Kd.R_slice HO_7.out; subst eoz))
 obtain ⟨ad108, e108, hx108_0⟩ := Kd.at_int (Kd.R_reads' HO_7.out).2.2 x18_1 p108 q108
 cases e108
 replace p108 := eq_true p108
 replace q108 := eq_true q108
 obtain ⟨Ao19, co19, eo19⟩ := Kd.R_slice HO_8.out
 (first | subst eo19 | (injection eo19 with f1_ f2_ f3_; have f4_ := f1_.symm; have f5_ := f3_.symm; clear f1_ f2_ f3_; subst f4_; subst f5_))
 have p109 : 0 ≤ (x18_1 : Int) := of_decide_eq_true t6_
 have q109 : x18_1 < (t105.length : Int) := of_decide_eq_true t6_
 (try (obtain ⟨Aoz, coz, eoz⟩ := Kd.R_slice HO_8.out; subst eoz))
 obtain ⟨ad109, e109, hx109_0⟩ := Kd.at_int (Kd.R_reads' HO_8.out).2.2 x18_1 p109 q109
 cases e109
 replace p109 := eq_true p109
 replace q109 := eq_true q109
 obtain ⟨ad110, e110, hw110_0, hx110_0, p110, q110⟩ := at1_ HR0_0 HB x18_1
 cases e110
 have p17 : 0 ≤ (x18_1 : Int) := of_decide_eq_true t6_
 have q17 : (x18_1 : Int) < ((x7_1.length : Int) : Int) := of_decide_eq_true t6_
 obtain ⟨go17, co17, eo17, gb17, gl17, cl17, HG17⟩ := Kd.R_form HO_7.out (by omega)
 (first | cases eo17 | (injection eo17 with ea_ en_ ec_; (first | subst ea_ | (injection ea_ with ea_; subst ea_)); subst ec_; clear en_))
 have GB17 := Aside0.mk gb17
 have GG17 := Aside0.mk HG17
 clear gb17 gl17 HG17
 (first | simp only [add_plain] at hx108_0 | skip)
 obtain ⟨hx17_0, hf17_0⟩ := Kd.R_celln 0 HO_7.out (x18_1 : Int) p17 q17
 replace p17 := eq_true p17
 replace q17 := eq_true q17
 have HP20 := Kd.R_putn HO_7.out (x18_1 : Int) (Int.tmod (wrap64 ((rd x7_1 x18_1) + (rd t105 x18_1))) (rd l0_0 x18_1))
 rw [← Ny111.out] at HP20
 have HQ20 := Aside0.mk HP20
 clear HP20
 refine sr_ (n := 19) (S := fun w' => w'.cell? ⟨gb101, 0, none⟩ = some (.slice (some ad110) l0_0.length c0_0) ∧ w'.cell? ⟨go17, (x18_1).toNat, none⟩ = some (.int .i64 (rd x7_1 x18_1)) ∧ w'.cell? (ad109.add (x18_1).toNat) = some (.int .i64 (rd t105 x18_1)) ∧ w'.cell? (ad110.add (x18_1).toNat) = some (.int .i64 (rd l0_0 x18_1))) (ds := [18]) ⟨(blk_cell BK101.out 0).trans rfl, hx108_0, hx109_0, (hc_ HB hw110_0)⟩ spec_l01Sum.tab5 spec_l01Sum.bits5 fun hHeld HT_ HW_ => ?_
 generalize wr.drew = w18 at HO_7 HO_8 BK101 HB GG17 HQ20 hf17_0 hx108_0 hx109_0 hx110_0 hx17_0 hHeld ⊢
 refine pv_ 0 21 HT_ ?_
 refine pv_ 1 22 HT_ ?_
 refine pv_ 2 23 HT_ ?_
 refine pv_ 3 24 HT_ ?_
 refine pv_ 4 25 HT_ ?_
 refine pv_ 6 27 HT_ ?_
 refine pv_ 7 28 HT_ ?_
 refine pv_ 8 29 HT_ ?_
 refine pv_ 11 32 HT_ ?_
 refine pv_ 13 34 HT_ ?_
 refine tk_ (i := 5) (N := some 26) (v := ?_) (a' := ?_) #[true, true, true, true, true, true, true, true, true, false, false, true, false, true, false, false, false, false, false] rfl rfl HT_ HW_ (Or.inl ⟨by rfl, ?_⟩) hHeld ?_ ?_
 rotate_left
 ·rintro w' ⟨s0, s1, s2, s3⟩
  (try simp only [add_plain] at s0 s1 s2 s3)
  go_simp
  with_reducible rfl
 rotate_left
 ·exact t4_
 refine tk_ (i := 9) (N := some 30) (v := ?_) (a' := ?_) #[true, true, true, true, true, true, true, true, true, true, false, true, false, true, false, false, false, false, false] rfl rfl HT_ HW_ (Or.inl ⟨by rfl, ?_⟩) hHeld ?_ ?_
 rotate_left
 ·rintro w' ⟨s0, s1, s2, s3⟩
  (try simp only [add_plain] at s0 s1 s2 s3)
  go_simp
  with_reducible rfl
 rotate_left
 ·exact t4_
 refine pv_ 10 31 HT_ ?_
 refine tk_ (i := 12) (N := some 33) (v := ?_) (a' := ?_) #[true, true, true, true, true, true, true, true, true, true, true, true, true, true, false, false, false, false, false] rfl rfl HT_ HW_ (Or.inl ⟨by rfl, ?_⟩) hHeld ?_ ?_
 rotate_left
 ·rintro w' ⟨s0, s1, s2, s3⟩
  (try simp only [add_plain] at s0 s1 s2 s3)
  go_simp
  with_reducible rfl
 rotate_left
 ·exact t4_
 refine pv_ 14 35 HT_ ?_
 refine tk_ (i := 15) (N := some 36) (v := ?_) (a' := ?_) #[true, true, true, true, true, true, true, true, true, true, true, true, true, true, true, true, false, false, false] rfl rfl HT_ HW_ (Or.inl ⟨by rfl, ?_⟩) hHeld ?_ ?_
 rotate_left
 ·rintro w' ⟨s0, s1, s2, s3⟩
  (try simp only [add_plain] at s0 s1 s2 s3)
  go_simp
  with_reducible rfl
 rotate_left
 ·exact t4_
 refine pv_ 16 37 HT_ ?_
 refine pv_ 17 38 HT_ ?_
 refine last_ (i := 18) (N := none) #[true, true, true, true, true, true, true, true, true, true, true, true, true, true, true, true, true, true, true] rfl rfl (one_of HT_.out (by kernel_rfl)) (by decide) (fun K hK => ?_)
 refine skip_ (w1 := ?_) (by rfl) rfl ?_ ?_
 rotate_left
 ·go_simp
  rfl
 refine hK.out _ _ ?_
 clear hK K
 refine done_ (done_of HT_.out (by kernel_rfl)) ?_
 try go_wp2
 (try simp only [← hl7_1])
 go_roundg k1
 case measure => have := HK1.out; omega
 case rel => exact ⟨(y111), (wrap64 (x18_1 + 1)), t2_, H', ⟨by have := HK1.out; omega⟩, ⟨by (try simp only [hl7_1]); (with_reducible repeat (first | apply Kd.R_alloc | apply Kd.R_drewN | apply Kd.R_drew)); exact HQ20.out⟩, ⟨by (try simp only [hl7_1]); (with_reducible repeat (first | apply Kd.R_alloc | apply Kd.R_drewN | apply Kd.R_drew)); exact Kd.R_mono (Kd.R_far (p := ⟨go17, (x18_1 : Int).toNat, none⟩) (Kd.R_mono HO_8.out (fun k_ hk => (⟨hk, fun e_ => hk (by rw [e_]; rfl)⟩ : _ ∧ k_ ≠ go17))) (fun _ hk => hk.2) (.int .i64 (Int.tmod (wrap64 ((rd x7_1 x18_1) + (rd t105 x18_1))) (rd l0_0 x18_1)))) (fun _ hk => hk.1)⟩, ⟨by (try simp only [hl7_1]); (with_reducible repeat (first | refine blk_drewN ?_ _ | refine blk_drew ?_ | refine blk_alloc ?_ _)); refine blk_far ?_ (by have h_ := Kd.R_ne HO_7.out BK101.out (by decide); intro e_; exact h_ (by rw [e_]; rfl)) _; (with_reducible repeat (first | refine blk_drewN ?_ _ | refine blk_drew ?_ | refine blk_alloc ?_ _)); exact BK101.out⟩, ⟨gb_ HB.out⟩⟩
mutual
def spec_l03Places.l0 : Nat → List Int → List Int → Int → Int → List Int → List Int → Option (List Int × List Int)
  | 0, _, _, _, _, _, _ => none
  | k + 1, x1, x2, x20, x21, x102000, x107000 => if x21 < x20 then (if 0 ≤ x21 then (if x21 < (x2.length : Int) then (if x21 < (x102000.length : Int) then (if 0 ≤ (rd x2 x21) then (if (rd x2 x21) < (x107000.length : Int) then (spec_l03Places.l0 k x1 x2 x20 (wrap64 (x21 + 1)) x102000 (x107000.set ((rd x2 x21) : Int).toNat (rd x102000 x21))) else (none)) else (none)) else (none)) else (none)) else (none)) else (spec_l03Places.l1 k x1 x2 (([] : List Int)) (x1.length : Int) 0 x102000 x107000)
def spec_l03Places.l1 : Nat → List Int → List Int → List Int → Int → Int → List Int → List Int → Option (List Int × List Int)
  | 0, _, _, _, _, _, _, _ => none
  | k + 1, x1, x2, x10, x39, x40, x102000, x107000 => if x40 < x39 then (if 0 ≤ x40 then (if x40 < (x1.length : Int) then ((spec_l01Digits.f k x102000 (rd x1 x40)).bind fun t114 => (if 0 ≤ (x2.length : Int) then (if ((x2.length : Int) : Int).toNat ≤ 35184372088832 then (spec_l03Places.l2 k x1 x2 x10 t114 (List.replicate ((x2.length : Int) : Int).toNat 0) x39 x40 (x2.length : Int) 0 x102000 x107000) else (none)) else (none))) else (none)) else (none)) else (some (x107000, x10))
def spec_l03Places.l2 : Nat → List Int → List Int → List Int → List Int → List Int → Int → Int → Int → Int → List Int → List Int → Option (List Int × List Int)
  | 0, _, _, _, _, _, _, _, _, _, _, _ => none
  | k + 1, x1, x2, x10, x12, x13, x39, x40, x53, x54, x102000, x107000 => if x54 < x53 then (if 0 ≤ x54 then (if x54 < (x2.length : Int) then (if x54 < (x12.length : Int) then (if 0 ≤ (rd x2 x54) then (if (rd x2 x54) < (x13.length : Int) then (spec_l03Places.l2 k x1 x2 x10 x12 (x13.set ((rd x2 x54) : Int).toNat (rd x12 x54)) x39 x40 x53 (wrap64 (x54 + 1)) x102000 x107000) else (none)) else (none)) else (none)) else (none)) else (none)) else ((spec_l01Word.f k x107000 x13).bind fun t123 => ((spec_l01Put.f k x10 t123).bind fun t124 => (spec_l03Places.l1 k x1 x2 t124 x39 (wrap64 (x40 + 1)) x102000 x107000)))
end
def spec_l03Places.f (k : Nat) (l0_0 : List Int) (l1 : List Int) (l2 : List Int) : Option (List Int × List Int) := if 0 ≤ (l2.length : Int) then (if ((l2.length : Int) : Int).toNat ≤ 35184372088832 then (spec_l03Places.l0 k l1 l2 (l2.length : Int) 0 l0_0 (List.replicate ((l2.length : Int) : Int).toNat 0)) else (none)) else (none)
def spec_l03Places.T5 : Bool × List (List Nat × List Nat) := (true, [([], []), ([0], [0]), ([], []), ([], []), ([2, 3], [2, 3]), ([4], [4]), ([], []), ([6], [6]), ([], []), ([7, 8], [7, 8]), ([9], [9]), ([1, 5, 0, 1, 2, 3, 4, 5, 6, 7, 8, 9, 10], [1, 5]), ([11, 10, 0, 1, 2, 3, 4, 5, 6, 7, 8, 9, 10], [10, 11])])
def spec_l03Places.B5 : List Nat := [0, 1, 0, 0, 12, 28, 0, 64, 0, 448, 960, 2047, 4095]
theorem spec_l03Places.tab5 : rtab .any (opsOf Tryz.f56 5) = spec_l03Places.T5 := by kernel_rfl
theorem spec_l03Places.bits5 : waitsOk spec_l03Places.T5.2 spec_l03Places.B5 = true := by kernel_rfl
def spec_l03Places.T11 : Bool × List (List Nat × List Nat) := (true, [([], []), ([], []), ([], []), ([1, 2], [1, 2]), ([3], [3]), ([0, 4], [0, 4]), ([], []), ([6], [6]), ([7, 7], [7]), ([5, 5, 0, 1, 2, 3, 4, 5], [5]), ([8, 9, 0, 1, 2, 3, 4, 5, 6, 7, 8, 9], [8])])
def spec_l03Places.B11 : List Nat := [0, 0, 0, 6, 14, 31, 0, 64, 192, 63, 1023]
theorem spec_l03Places.tab11 : rtab .any (opsOf Tryz.f56 11) = spec_l03Places.T11 := by kernel_rfl
theorem spec_l03Places.bits11 : waitsOk spec_l03Places.T11.2 spec_l03Places.B11 = true := by kernel_rfl
def spec_l03Places.T15 : Bool × List (List Nat × List Nat) := (true, [([], []), ([], []), ([], []), ([1, 2], [1, 2]), ([3], [3]), ([], []), ([], []), ([5, 6], [5, 6]), ([7], [7]), ([0, 4, 0, 1, 2, 3, 4, 5, 6, 7, 8], [0, 4]), ([9, 8, 0, 1, 2, 3, 4, 5, 6, 7, 8], [8, 9])])
def spec_l03Places.B15 : List Nat := [0, 0, 0, 6, 14, 0, 0, 96, 224, 511, 1023]
theorem spec_l03Places.tab15 : rtab .any (opsOf Tryz.f56 15) = spec_l03Places.T15 := by kernel_rfl
theorem spec_l03Places.bits15 : waitsOk spec_l03Places.T15.2 spec_l03Places.B15 = true := by kernel_rfl
set_option maxHeartbeats 8000000 in
set_option maxRecDepth 100000 in
theorem spec_l03Places.calls (k : Nat) (A0_0 : Option Addr) (c0_0 : Nat) (l0_0 : List Int) (A1 : Option Addr) (c1 : Nat) (l1 : List Int) (A2 : Option Addr) (c2 : Nat) (l2 : List Int) (r1 : List Int) (r2 : List Int) (w : World) (hr0_0 : Kd.C (Kd.int .i64) w A0_0 l0_0.length l0_0) (hc0_0 : l0_0.length ≤ c0_0) (hr1 : Kd.C (Kd.int .i64) w A1 l1.length l1) (hc1 : l1.length ≤ c1) (hr2 : Kd.C (Kd.int .i64) w A2 l2.length l2) (hc2 : l2.length ≤ c2) (h : spec_l03Places.f k l0_0 l1 l2 = some (r1, r2)) :
  Calls Tryz.prog 56 #[.agg #[.slice A0_0 l0_0.length c0_0], .slice A1 l1.length c1, .slice A2 l2.length c2] w fun e w' => ∃ v0_ v1_ : Value, e = .returned (.tuple #[.agg #[v0_], v1_]) ∧ Kd.R (Kd.int .i64) 2 w' w.heap.size (fun k_ => OB_ k_ v1_) v0_ r1 ∧ Kd.R (Kd.int .i64) 2 w' w.heap.size (fun k_ => OB_ k_ v0_) v1_ r2 ∧ Below w.heap.size w w' := by
 have hu26 := Tryz.underlying26
 have HR0_0 := Aside0.mk hr0_0
 have HC0_0 := Aside0.mk hc0_0
 clear hr0_0 hc0_0
 have HR1 := Aside0.mk hr1
 have HC1 := Aside0.mk hc1
 clear hr1 hc1
 have HR2 := Aside0.mk hr2
 have HC2 := Aside0.mk hc2
 clear hr2 hc2
 have HB := Aside0.mk (Below.refl w.heap.size w)
 have H := h
 clear h
 unfold spec_l03Places.f at H
 replace H := ip_ H
 obtain ⟨c4, H⟩ := H
 have c4b0 := eq_true c4
 have c4b1 := decide_eq_true c4
 clear c4
 replace H := ip_ H
 obtain ⟨c5, H⟩ := H
 have c5b0 := eq_true c5
 have c5b1 := decide_eq_true c5
 clear c5
 obtain ⟨y103, hy103⟩ : ∃ y_ : List Int, y_ = (List.replicate ((l2.length : Int) : Int).toNat 0) := ⟨_, rfl⟩
 replace H : (spec_l03Places.l0 k l1 l2 (l2.length : Int) 0 l0_0 y103) = some (r1, r2) := y_ H
 have Ny103 := Aside0.mk hy103
 clear hy103
 have H' := Aside0.mk H
 clear H
 go_enter Tryz.func56, Tryz.ntmps56
 go_wp2_with (first | ((with_reducible refine gate_dst (N := 3) rfl ?_); refine bx_ (N := 3) (cs := #[.slice A0_0 l0_0.length c0_0]) (t := 26) rfl rfl ?_; intro gb101 hg w6 hbox hb; have BK101 := Aside0.mk (hbox); have GW101 := ge_ hg HB; have GE101 := ge_ hg HB; replace HB := b1_ HB hb; clear hb hbox hg) | ((with_reducible refine gate_dst (N := 6) rfl ?_); refine bx_ (N := 6) (cs := #[.slice none 0 0]) (t := 26) rfl rfl ?_; intro gb102 hg w7 hbox hb; have BK102 := Aside0.mk (hbox); have GW102 := ge_ hg HB; have GE102 := ge_ hg HB; replace HB := b1_ HB hb; have NB101_102 := nl_ hg BK101; have NB102_101 := nr_ hg BK101; replace BK101 := a2_ BK101 hb; clear hb hbox hg) | ((with_reducible refine gate_dst (N := 17) rfl ?_); refine Kd.R_make (Kd.int .i64) _ 2 rfl (N := 17) rfl 24 _ _ rfl (l2.length : Int) rfl rfl Tryz.underlying24 (.int .i64 0) 8 info2 rfl (by decide) (by omega) 0 (ok := fun _ => True) (okp := fun _ => True) rfl (fun _ hk => hk) trivial (of_decide_eq_true t6_) (Nat.le_trans (Nat.mul_le_mul_right _ (of_decide_eq_true t6_ : (l2.length : Int).toNat ≤ 35184372088832)) (by omega)) (Below.refl _ _) (Nat.le_refl _) ?_; intro v104 w8 ho9 hb hg_ hnew_; clear hg_ hnew_; (first | rw [← Ny103.out] at ho9 | (simp only [Int.reduceToNat] at ho9; rw [← Ny103.out] at ho9)); have HO105 := Aside0.mk (Kd.R_lower ho9 (below_size (gb_ HB.out))); replace BK101 := a2_ BK101 hb; replace BK102 := a2_ BK102 hb; replace HB := b1_ HB hb; clear hb ho9; obtain ⟨Ao10, co10, eo10⟩ := Kd.R_slice HO105.out; subst eo10) | ((with_reducible refine gate_dst (N := 8) rfl ?_); refine bx_ (N := 8) (cs := #[.slice none 0 0]) (t := 26) rfl rfl ?_; intro gb106 hg w11 hbox hb; replace HO105 := a1_ HO105 hb; have BK106 := Aside0.mk (hbox); have GW106 := ge_ hg HB; have GE106 := ge_ hg HB; replace HB := b1_ HB hb; have NB101_106 := nl_ hg BK101; have NB106_101 := nr_ hg BK101; replace BK101 := a2_ BK101 hb; have NB102_106 := nl_ hg BK102; have NB106_102 := nr_ hg BK102; replace BK102 := a2_ BK102 hb; clear hb hbox hg; have hnb12 := NB106_101.out; have hnc12 := NB101_106.out; have hnb13 := NB106_102.out; have hnc13 := NB102_106.out; have hcz14_0 := hz_ BK106; have hfz14_0 := blk_frozen BK106.out 0))
 go_loopg [21] k (fun kq v21 w' => ∃ (x21_1 : Int) (x107000_1 : List Int) (u107000 : Value), v21 = .int .i64 x21_1 ∧ Aside0 (spec_l03Places.l0 kq l1 l2 (l2.length : Int) x21_1 l0_0 x107000_1 = some (r1, r2)) ∧ Aside0 (kq ≤ k) ∧ Aside0 (Kd.R (Kd.int .i64) 2 w' w.heap.size (fun _ => True) u107000 x107000_1) ∧ Aside0 (w'.heap[gb101]? = some (.cells #[(.slice A0_0 l0_0.length c0_0)] 26 (0, 0))) ∧ Aside0 (w'.heap[gb102]? = some (.cells #[(.slice none 0 0)] 26 (0, 0))) ∧ Aside0 (w'.heap[gb106]? = some (.cells #[u107000] 26 (0, 0))) ∧ Aside0 (Below w.heap.size w w'))
 case atStart => exact ⟨(0), (y103), (.slice Ao10 y103.length co10), t2_, H', ⟨Nat.le_refl _⟩, ⟨by (with_reducible repeat (first | apply Kd.R_alloc | apply Kd.R_drewN | apply Kd.R_drew)); exact Kd.R_mono (Kd.R_far (p := ⟨gb106, 0, none⟩) (Kd.R_types HO105.out BK106.out (by decide)) (fun _ hk => hk.2) (.slice Ao10 y103.length co10)) (fun _ hk => trivial)⟩, ⟨by (with_reducible repeat (first | refine blk_drewN ?_ _ | refine blk_drew ?_ | refine blk_alloc ?_ _)); refine blk_far ?_ NB101_106.out _; (with_reducible repeat (first | refine blk_drewN ?_ _ | refine blk_drew ?_ | refine blk_alloc ?_ _)); exact BK101.out⟩, ⟨by (with_reducible repeat (first | refine blk_drewN ?_ _ | refine blk_drew ?_ | refine blk_alloc ?_ _)); refine blk_far ?_ NB102_106.out _; (with_reducible repeat (first | refine blk_drewN ?_ _ | refine blk_drew ?_ | refine blk_alloc ?_ _)); exact BK102.out⟩, ⟨by (with_reducible repeat (first | refine blk_drewN ?_ _ | refine blk_drew ?_ | refine blk_alloc ?_ _)); refine blk_put (cs := #[.slice none 0 0]) ?_ 0 _ rfl; (with_reducible repeat (first | refine blk_drewN ?_ _ | refine blk_drew ?_ | refine blk_alloc ?_ _)); exact BK106.out⟩, ⟨gb_ HB.out⟩⟩
 clear H'
 try clear c1
 try clear c2
 try clear p2
 try clear c4
 try clear c4b0
 try clear c4b1
 try clear c5
 try clear c5b0
 try clear c5b1
 try clear c12
 try clear c13
 try clear hcz14_0
 try clear hfz14_0
 obtain ⟨x21_1, x107000_1, u107000, rfl, HA, HK1, HO_107000, BK101, BK102, BK106, HB⟩ := hrel
 obtain _ | k1 := gk
 ·exact absurd HA.out (by simp [spec_l03Places.l0])
 have H := HA.out
 clear HA
 simp only [spec_l03Places.l0] at H
 by_cases c15 : x21_1 < (l2.length : Int)
 ·rw [if_pos c15] at H
  have c15b0 := decide_eq_true c15
  clear c15
  replace H := id_ H
  obtain ⟨c16b0, H⟩ := H
  replace H := id_ H
  obtain ⟨c17b0, H⟩ := H
  replace H := id_ H
  obtain ⟨c18b0, H⟩ := H
  replace H := id_ H
  obtain ⟨c19b0, H⟩ := H
  replace H := id_ H
  obtain ⟨c20b0, H⟩ := H
  obtain ⟨y109, hy109⟩ : ∃ y_ : List Int, y_ = (x107000_1.set ((rd l2 x21_1) : Int).toNat (rd l0_0 x21_1)) := ⟨_, rfl⟩
  replace H : (spec_l03Places.l0 k1 l1 l2 (l2.length : Int) (wrap64 (x21_1 + 1)) l0_0 y109) = some (r1, r2) := y_ H
  have Ny109 := Aside0.mk hy109
  clear hy109
  have H' := Aside0.mk H
  clear H
  try go_wp2
  replace HO_107000 := Aside0.mk (Kd.R_drew HO_107000.out)
  replace BK101 := Aside0.mk (blk_drew BK101.out)
  replace BK102 := Aside0.mk (blk_drew BK102.out)
  replace BK106 := Aside0.mk (blk_drew BK106.out)
  replace HB := Aside0.mk (below_drew1 HB.out)
  obtain ⟨ad107, e107, hw107_0, hx107_0, p107, q107⟩ := at1_ HR2 HB x21_1
  cases e107
  obtain ⟨ad108, e108, hw108_0, hx108_0, p108, q108⟩ := at1_ HR0_0 HB x21_1
  cases e108
  have p21 : 0 ≤ ((rd l2 x21_1) : Int) := of_decide_eq_true t6_
  have q21 : ((rd l2 x21_1) : Int) < ((x107000_1.length : Int) : Int) := of_decide_eq_true t6_
  obtain ⟨go21, co21, eo21, gb21, gl21, cl21, HG21⟩ := Kd.R_form HO_107000.out (by omega)
  (first | cases eo21 | (injection eo21 with ea_ en_ ec_; (first | subst ea_ | (injection ea_ with ea_; subst ea_)); subst ec_; clear en_))
  have GB21 := Aside0.mk gb21
  have GG21 := Aside0.mk HG21
  clear gb21 gl21 HG21
  obtain ⟨hx21_0, hf21_0⟩ := Kd.R_celln 0 HO_107000.out ((rd l2 x21_1) : Int) p21 q21
  replace p21 := eq_true p21
  replace q21 := eq_true q21
  have HP23 := Kd.R_putn HO_107000.out ((rd l2 x21_1) : Int) (rd l0_0 x21_1)
  rw [← Ny109.out] at HP23
  have HQ23 := Aside0.mk HP23
  clear HP23
  refine sr_ (n := 13) (S := fun w' => w'.cell? ⟨gb106, 0, none⟩ = some (.slice (some ⟨go21, 0, none⟩) x107000_1.length co21) ∧ w'.cell? ⟨gb101, 0, none⟩ = some (.slice (some ad108) l0_0.length c0_0) ∧ w'.cell? (ad107.add (x21_1).toNat) = some (.int .i64 (rd l2 x21_1)) ∧ w'.cell? (ad108.add (x21_1).toNat) = some (.int .i64 (rd l0_0 x21_1))) (ds := [12]) ⟨(blk_cell BK106.out 0).trans rfl, (blk_cell BK101.out 0).trans rfl, (hc_ HB hw107_0), (hc_ HB hw108_0)⟩ spec_l03Places.tab5 spec_l03Places.bits5 fun hHeld HT_ HW_ => ?_
  generalize wr.drew = w22 at HO_107000 BK101 BK102 BK106 HB GG21 HQ23 hf21_0 hx107_0 hx108_0 hx21_0 hHeld ⊢
  refine pv_ 0 24 HT_ ?_
  refine pv_ 2 26 HT_ ?_
  refine pv_ 3 27 HT_ ?_
  refine pv_ 4 28 HT_ ?_
  refine pv_ 6 30 HT_ ?_
  refine pv_ 8 32 HT_ ?_
  refine tv4_ 1 25 HT_ HW_ hHeld ?_
  refine tv4_ 5 29 HT_ HW_ hHeld ?_
  refine tv4_ 7 31 HT_ HW_ hHeld ?_
  refine pv_ 9 33 HT_ ?_
  refine tv4_ 10 34 HT_ HW_ hHeld ?_
  refine pv_ 11 35 HT_ ?_
  refine last_ (i := 12) (N := none) #[true, true, true, true, true, true, true, true, true, true, true, true, true] rfl rfl (one_of HT_.out (by kernel_rfl)) (by decide) (fun K hK => ?_)
  refine skip_ (w1 := ?_) (by rfl) rfl ?_ ?_
  rotate_left
  ·go_simp
   rfl
  refine hK.out _ _ ?_
  clear hK K
  refine done_ (done_of HT_.out (by kernel_rfl)) ?_
  try go_wp2
  go_roundg k1
  case measure => have := HK1.out; omega
  case rel => exact ⟨(wrap64 (x21_1 + 1)), (y109), (.slice (some ⟨go21, 0, none⟩) x107000_1.length co21), t2_, H', ⟨by have := HK1.out; omega⟩, ⟨rb_ HQ23.out⟩, ⟨by (with_reducible repeat (first | refine blk_drewN ?_ _ | refine blk_drew ?_ | refine blk_alloc ?_ _)); refine blk_far ?_ (by have h_ := Kd.R_ne HO_107000.out BK101.out (by decide); intro e_; exact h_ (by rw [e_]; rfl)) _; (with_reducible repeat (first | refine blk_drewN ?_ _ | refine blk_drew ?_ | refine blk_alloc ?_ _)); exact BK101.out⟩, ⟨by (with_reducible repeat (first | refine blk_drewN ?_ _ | refine blk_drew ?_ | refine blk_alloc ?_ _)); refine blk_far ?_ (by have h_ := Kd.R_ne HO_107000.out BK102.out (by decide); intro e_; exact h_ (by rw [e_]; rfl)) _; (with_reducible repeat (first | refine blk_drewN ?_ _ | refine blk_drew ?_ | refine blk_alloc ?_ _)); exact BK102.out⟩, ⟨by (with_reducible repeat (first | refine blk_drewN ?_ _ | refine blk_drew ?_ | refine blk_alloc ?_ _)); refine blk_far ?_ (by have h_ := Kd.R_ne HO_107000.out BK106.out (by decide); intro e_; exact h_ (by rw [e_]; rfl)) _; (with_reducible repeat (first | refine blk_drewN ?_ _ | refine blk_drew ?_ | refine blk_alloc ?_ _)); exact BK106.out⟩, ⟨gb_ HB.out⟩⟩
 rw [if_neg c15] at H
 have c15b0 := decide_eq_false c15
 clear c15
 obtain ⟨y110, hy110⟩ : ∃ y_ : List Int, y_ = (([] : List Int)) := ⟨_, rfl⟩
 replace H : (spec_l03Places.l1 k1 l1 l2 y110 (l1.length : Int) 0 l0_0 x107000_1) = some (r1, r2) := y_ H
 have Ny110 := Aside0.mk hy110
 clear hy110
 have H' := Aside0.mk H
 clear H
 go_wp2_with (first | ((with_reducible refine gate_dst (N := 37) rfl ?_); refine Kd.R_lit (Kd.int .i64) _ 2 ?hg (N := 37) ?hd (xs := ([] : List Int)) (inner := []) (ok := fun _ => True) (okp := fun _ => True) ?hr ?hp (fun _ hk => hk) trivial (Below.refl _ _) (Nat.le_refl _) (by simp) ?_; (case hd => rfl); (case hg => rfl); (case hr => exact t3_); (case hp => exact (Reps.none _ _)); intro v111 w24 ho25 hb hg_ hnew_; clear hg_ hnew_; (first | rw [← Ny110.out] at ho25 | (simp only [Int.reduceToNat] at ho25; rw [← Ny110.out] at ho25)); have HO112 := Aside0.mk (Kd.R_lower (Kd.R_new' ho25 (Kd.R_lt (rb_ HO_107000.out))) (below_size (gb_ HB.out))); replace HO_107000 := a5_ HO_107000 ho25 hb; replace BK101 := a2_ BK101 hb; replace BK102 := a2_ BK102 hb; replace BK106 := a2_ BK106 hb; replace HB := b1_ HB hb; clear hb ho25))
 go_loopg [10, 40] k1 (fun kq v10 v40 w' => ∃ (x10_2 : List Int) (x40_2 : Int) (x107000_2 : List Int) (u107000 : Value), v40 = .int .i64 x40_2 ∧ Aside0 (spec_l03Places.l1 kq l1 l2 x10_2 (l1.length : Int) x40_2 l0_0 x107000_2 = some (r1, r2)) ∧ Aside0 (kq ≤ k1) ∧ Aside0 (Kd.R (Kd.int .i64) 2 w' w.heap.size (fun k_ => OB_ k_ u107000) v10 x10_2) ∧ Aside0 (Kd.R (Kd.int .i64) 2 w' w.heap.size (fun k_ => OB_ k_ v10) u107000 x107000_2) ∧ Aside0 (w'.heap[gb101]? = some (.cells #[(.slice A0_0 l0_0.length c0_0)] 26 (0, 0))) ∧ Aside0 (w'.heap[gb102]? = some (.cells #[(.slice none 0 0)] 26 (0, 0))) ∧ Aside0 (w'.heap[gb106]? = some (.cells #[u107000] 26 (0, 0))) ∧ Aside0 (Below w.heap.size w w'))
 case atStart => exact ⟨(y110), (0), (x107000_1), (u107000), t2_, H', ⟨Nat.le_refl _⟩, ⟨rb_ (Kd.R_mono HO112.out (fun _ hk => hk.2))⟩, ⟨rb_ (Kd.R_mono HO_107000.out (fun _ hk => hk.2))⟩, ⟨bb_ BK101.out⟩, ⟨bb_ BK102.out⟩, ⟨bb_ BK106.out⟩, ⟨gb_ HB.out⟩⟩
 clear H'
 try clear c1
 try clear p1
 try clear q1
 try clear hx1
 try clear c2
 try clear p2
 try clear q2
 try clear hx2
 try clear c4
 try clear c4b0
 try clear c4b1
 try clear c5
 try clear c5b0
 try clear c5b1
 try clear p6
 try clear p10
 try clear q10
 try clear hx10
 try clear c12
 try clear c13
 try clear c15
 try clear c15b0
 try clear c16
 try clear c16b0
 try clear c17
 try clear c17b0
 try clear c18
 try clear c18b0
 try clear c19
 try clear c19b0
 try clear c20
 try clear c20b0
 try clear p21
 try clear q21
 try clear hx21
 try clear hf21
 try clear hcz14_0
 try clear hfz14_0
 try clear hx107_0
 try clear hx108_0
 try clear hx21_0
 try clear p107
 try clear p108
 try clear p2
 try clear p21
 try clear q107
 try clear q108
 try clear q21
 obtain ⟨x10_2, x40_2, x107000_2, u107000, rfl, HA, HK2, HO_10, HO_107000, BK101, BK102, BK106, HB⟩ := hrel
 obtain _ | k2 := gk
 ·exact absurd HA.out (by simp [spec_l03Places.l1])
 have H := HA.out
 clear HA
 simp only [spec_l03Places.l1] at H
 replace H := ie_ H
 obtain ⟨c26b0, H⟩ | ⟨c26b0, H⟩ := H
 ·simp only [Option.some.injEq, Prod.mk.injEq] at H
  obtain ⟨rfl, rfl⟩ := H
  have hnb57 := NB106_101.out
  have hnc57 := NB101_106.out
  have hnb58 := NB106_102.out
  have hnc58 := NB102_106.out
  have hcz59_0 := hz_ BK106
  have hfz59_0 := blk_frozen BK106.out 0
  obtain ⟨Ao60, co60, eo60⟩ := Kd.R_slice HO_107000.out
  subst eo60
  have hnb61 := NB102_101.out
  have hnc61 := NB101_102.out
  have hcz62_0 := hz_ BK102
  have hfz62_0 := blk_frozen BK102.out 0
  go_wp2
  refine bodyPost_ret (results_ct rfl _ _ gb102 26 #[.slice Ao60 x107000_2.length co60] (0, 0) _ rfl (by (with_reducible repeat (first | refine blk_drewN ?_ _ | refine blk_drew ?_ | refine blk_alloc ?_ _)); refine blk_put (cs := #[.slice none 0 0]) ?_ 0 _ rfl; (with_reducible repeat (first | refine blk_drewN ?_ _ | refine blk_drew ?_ | refine blk_alloc ?_ _)); exact BK102.out) Tryz.underlying26 rfl (by kernel_rfl)) rfl ?_
  exact ⟨_, _, t5_, by (with_reducible repeat (first | apply Kd.R_alloc | apply Kd.R_drewN | apply Kd.R_drew)); exact Kd.R_mono (Kd.R_far (p := ⟨gb102, 0, none⟩) (Kd.R_types HO_107000.out BK102.out (by decide)) (fun _ hk => hk.2) (.slice Ao60 x107000_2.length co60)) (fun _ hk => hk.1), by (with_reducible repeat (first | apply Kd.R_alloc | apply Kd.R_drewN | apply Kd.R_drew)); exact Kd.R_mono (Kd.R_far (p := ⟨gb102, 0, none⟩) (Kd.R_types HO_10.out BK102.out (by decide)) (fun _ hk => hk.2) (.slice Ao60 x107000_2.length co60)) (fun _ hk => hk.1), gb_ HB.out⟩
 replace H := id_ H
 obtain ⟨c27b0, H⟩ := H
 replace H := id_ H
 obtain ⟨c28b0, H⟩ := H
 replace H := bd_ H
 obtain ⟨t114, A29, H⟩ := H
 replace H := ip_ H
 obtain ⟨c30, H⟩ := H
 have c30b0 := eq_true c30
 have c30b1 := decide_eq_true c30
 clear c30
 replace H := ip_ H
 obtain ⟨c31, H⟩ := H
 have c31b0 := eq_true c31
 have c31b1 := decide_eq_true c31
 clear c31
 obtain ⟨y117, hy117⟩ : ∃ y_ : List Int, y_ = (List.replicate ((l2.length : Int) : Int).toNat 0) := ⟨_, rfl⟩
 replace H : (spec_l03Places.l2 k2 l1 l2 x10_2 t114 y117 (l1.length : Int) x40_2 (l2.length : Int) 0 l0_0 x107000_2) = some (r1, r2) := y_ H
 have Ny117 := Aside0.mk hy117
 clear hy117
 have H' := Aside0.mk H
 clear H
 try go_wp2
 replace HO_10 := Aside0.mk (Kd.R_drew HO_10.out)
 replace HO_107000 := Aside0.mk (Kd.R_drew HO_107000.out)
 replace BK101 := Aside0.mk (blk_drew BK101.out)
 replace BK102 := Aside0.mk (blk_drew BK102.out)
 replace BK106 := Aside0.mk (blk_drew BK106.out)
 replace HB := Aside0.mk (below_drew1 HB.out)
 obtain ⟨ad113, e113, hw113_0, hx113_0, p113, q113⟩ := at1_ HR1 HB x40_2
 cases e113
 refine sr_ (n := 11) (S := fun w' => w'.cell? ⟨gb101, 0, none⟩ = some (.slice A0_0 l0_0.length c0_0) ∧ w'.cell? (ad113.add (x40_2).toNat) = some (.int .i64 (rd l1 x40_2))) (ds := []) ⟨(blk_cell BK101.out 0).trans rfl, (hc_ HB hw113_0)⟩ spec_l03Places.tab11 spec_l03Places.bits11 fun hHeld HT_ HW_ => ?_
 generalize wr.drew = w32 at HO_10 HO_107000 BK101 BK102 BK106 HB hx113_0 hHeld ⊢
 refine pv_ 1 44 HT_ ?_
 refine pv_ 2 45 HT_ ?_
 refine pv_ 3 46 HT_ ?_
 refine pv_ 6 49 HT_ ?_
 refine pv_ 7 50 HT_ ?_
 refine tv2_ 0 43 HT_ HW_ hHeld ?_
 refine tv2_ 4 47 HT_ HW_ hHeld ?_
 refine join_ (σ := Value × Value) 1 #[true, true, true, true, true, true, true, true, true, true, false] (fun s_ => [(48, s_.1), (51, s_.2), (12, s_.1)]) (fun s_ w' => (w'.cell? ⟨gb101, 0, none⟩ = some (.slice A0_0 l0_0.length c0_0) ∧ w'.cell? (ad113.add (x40_2).toNat) = some (.int .i64 (rd l1 x40_2))) ∧ (Kd.R (Kd.int .i64) 2 w' w.heap.size (fun k_ => OB_ k_ s_.2 ∧ OB_ k_ u10 ∧ OB_ k_ u107000) s_.1 t114) ∧ (Kd.R (Kd.int .i64) 2 w' w.heap.size (fun k_ => OB_ k_ s_.1 ∧ OB_ k_ u10 ∧ OB_ k_ u107000) s_.2 y117) ∧ (Kd.R (Kd.int .i64) 2 w' w.heap.size (fun k_ => OB_ k_ s_.1 ∧ OB_ k_ s_.2 ∧ OB_ k_ u107000) u10 x10_2) ∧ (Kd.R (Kd.int .i64) 2 w' w.heap.size (fun k_ => OB_ k_ s_.1 ∧ OB_ k_ s_.2 ∧ OB_ k_ u10) u107000 x107000_2) ∧ (w'.heap[gb101]? = some (.cells #[.slice A0_0 l0_0.length c0_0] 26 (0, 0))) ∧ (w'.heap[gb102]? = some (.cells #[.slice none 0 0] 26 (0, 0))) ∧ (w'.heap[gb106]? = some (.cells #[u107000] 26 (0, 0))) ∧ (Below w.heap.size w w')) ?_ ?_
 rotate_left
 ·intro hCont
  refine two_ (i := 5) (j := 8) (Ni := some 48) (Nj := some 51) #[true, true, true, true, true, true, true, true, false, false, false] #[true, true, true, true, true, false, true, true, true, false, false] rfl rfl rfl rfl (two_of HT_.out (by kernel_rfl)) (by decide) (by decide) (fun K hK => ?_) (fun K hK => ?_)
  ·skip
   refine goes_ Tryz.func76 (by kernel_rfl) rfl #[.agg #[.slice A0_0 l0_0.length c0_0], .int .i64 (rd l1 x40_2)] (by rfl) rfl rfl t1_ ?_
   with_reducible refine (spec_l01Digits.calls k2 _ _ l0_0 (rd l1 x40_2) t114 _ (c2_ HR0_0 HB) HC0_0.out A29.out).mono ?_
   rintro e w33 ⟨v115, rfl, ho0, hb⟩
   refine ⟨_, rfl, ?_⟩
   have HO116 := Aside0.mk (Kd.R_lower (Kd.R_new' (Kd.R_new' ho0 (Kd.R_lt (rb_ HO_10.out))) (Kd.R_lt (rb_ HO_107000.out))) (below_size (gb_ HB.out)))
   replace HO_10 := a5_ HO_10 ho0 hb
   replace HO_107000 := a5_ HO_107000 ho0 hb
   replace BK101 := a2_ BK101 hb
   replace BK102 := a2_ BK102 hb
   replace BK106 := a2_ BK106 hb
   replace HB := b1_ HB hb
   (try clear hb ho0)
   refine hK.out _ _ ⟨(blk_cell BK101.out 0).trans rfl, (hc_ HB hw113_0)⟩ (fun hHeld => ?_)
   clear hK K
   refine nm_ ?_
   refine pv_ 9 12 HT_ ?_
   refine ow_ 8 51 HT_ fun K hK => ?_
   refine Kd.R_make_step (Kd.int .i64) _ 2 (by rfl) (N := 51) rfl 24 _ _ rfl (l2.length : Int) rfl rfl Tryz.underlying24 (.int .i64 0) 8 info2 rfl (by decide) (by omega) 0 (ok := fun _ => True) (okp := fun _ => True) rfl (fun _ hk => hk) trivial (of_decide_eq_true t6_) (Nat.le_trans (Nat.mul_le_mul_right _ (of_decide_eq_true t6_ : (l2.length : Int).toNat ≤ 35184372088832)) (by omega)) (Below.refl _ _) (Nat.le_refl _) ?_
   intro v118 w34 ho35 hb hg_ hnew_
   clear hg_ hnew_
   (first | rw [← Ny117.out] at ho35 | (simp only [Int.reduceToNat] at ho35; rw [← Ny117.out] at ho35))
   have HO119 := Aside0.mk (Kd.R_lower (Kd.R_new' (Kd.R_new' (Kd.R_new' ho35 (Kd.R_lt (rb_ HO_10.out))) (Kd.R_lt (rb_ HO_107000.out))) (Kd.R_lt (rb_ HO116.out))) (below_size (gb_ HB.out)))
   replace HO_10 := a5_ HO_10 ho35 hb
   replace HO_107000 := a5_ HO_107000 ho35 hb
   replace HO116 := a5_ HO116 ho35 hb
   replace BK101 := a2_ BK101 hb
   replace BK102 := a2_ BK102 hb
   replace BK106 := a2_ BK106 hb
   replace HB := b1_ HB hb
   clear hb ho35
   refine hK.out _ _ ⟨(blk_cell BK101.out 0).trans rfl, (hc_ HB hw113_0)⟩ (fun hHeld => ?_)
   clear hK K
   refine nm_ ?_
   exact norm_ (by simp only [putAll, Act.put, List.setIfInBounds_toArray, List.set_cons_zero, List.set_cons_succ]) (hCont (v115, v118) _ ⟨hHeld, (rb_ (Kd.R_mono HO116.out (fun _ hk => ⟨hk.2, ⟨hk.1.1.2, hk.1.2⟩⟩))), (rb_ (Kd.R_mono HO119.out (fun _ hk => ⟨hk.2, ⟨hk.1.1.2, hk.1.2⟩⟩))), (rb_ (Kd.R_mono HO_10.out (fun _ hk => ⟨hk.1.2, ⟨hk.2, hk.1.1⟩⟩))), (rb_ (Kd.R_mono HO_107000.out (fun _ hk => ⟨hk.1.2, ⟨hk.2, hk.1.1⟩⟩))), (bb_ BK101.out), (bb_ BK102.out), (bb_ BK106.out), (gb_ HB.out)⟩)
  ·skip
   refine Kd.R_make_step (Kd.int .i64) _ 2 (by rfl) (N := 51) rfl 24 _ _ rfl (l2.length : Int) rfl rfl Tryz.underlying24 (.int .i64 0) 8 info2 rfl (by decide) (by omega) 0 (ok := fun _ => True) (okp := fun _ => True) rfl (fun _ hk => hk) trivial (of_decide_eq_true t6_) (Nat.le_trans (Nat.mul_le_mul_right _ (of_decide_eq_true t6_ : (l2.length : Int).toNat ≤ 35184372088832)) (by omega)) (Below.refl _ _) (Nat.le_refl _) ?_
   intro v118 w33 ho34 hb hg_ hnew_
   clear hg_ hnew_
   (first | rw [← Ny117.out] at ho34 | (simp only [Int.reduceToNat] at ho34; rw [← Ny117.out] at ho34))
   have HO119 := Aside0.mk (Kd.R_lower (Kd.R_new' (Kd.R_new' ho34 (Kd.R_lt (rb_ HO_10.out))) (Kd.R_lt (rb_ HO_107000.out))) (below_size (gb_ HB.out)))
   replace HO_10 := a5_ HO_10 ho34 hb
   replace HO_107000 := a5_ HO_107000 ho34 hb
   replace BK101 := a2_ BK101 hb
   replace BK102 := a2_ BK102 hb
   replace BK106 := a2_ BK106 hb
   replace HB := b1_ HB hb
   clear hb ho34
   refine hK.out _ _ ⟨(blk_cell BK101.out 0).trans rfl, (hc_ HB hw113_0)⟩ (fun hHeld => ?_)
   clear hK K
   refine nm_ ?_
   refine ow_ 5 48 HT_ fun K hK => ?_
   refine goes_ Tryz.func76 (by kernel_rfl) rfl #[.agg #[.slice A0_0 l0_0.length c0_0], .int .i64 (rd l1 x40_2)] (by rfl) rfl rfl t1_ ?_
   with_reducible refine (spec_l01Digits.calls k2 _ _ l0_0 (rd l1 x40_2) t114 _ (c2_ HR0_0 HB) HC0_0.out A29.out).mono ?_
   rintro e w35 ⟨v115, rfl, ho0, hb⟩
   refine ⟨_, rfl, ?_⟩
   have HO116 := Aside0.mk (Kd.R_lower (Kd.R_new' (Kd.R_new' (Kd.R_new' ho0 (Kd.R_lt (rb_ HO_10.out))) (Kd.R_lt (rb_ HO_107000.out))) (Kd.R_lt (rb_ HO119.out))) (below_size (gb_ HB.out)))
   replace HO_10 := a5_ HO_10 ho0 hb
   replace HO_107000 := a5_ HO_107000 ho0 hb
   replace HO119 := a5_ HO119 ho0 hb
   replace BK101 := a2_ BK101 hb
   replace BK102 := a2_ BK102 hb
   replace BK106 := a2_ BK106 hb
   replace HB := b1_ HB hb
   (try clear hb ho0)
   refine hK.out _ _ ⟨(blk_cell BK101.out 0).trans rfl, (hc_ HB hw113_0)⟩ (fun hHeld => ?_)
   clear hK K
   refine nm_ ?_
   refine pv_ 9 12 HT_ ?_
   exact norm_ (by simp only [putAll, Act.put, List.setIfInBounds_toArray, List.set_cons_zero, List.set_cons_succ]) (hCont (v115, v118) _ ⟨hHeld, (rb_ (Kd.R_mono HO116.out (fun _ hk => ⟨hk.2, ⟨hk.1.1.2, hk.1.2⟩⟩))), (rb_ (Kd.R_mono HO119.out (fun _ hk => ⟨hk.2, ⟨hk.1.1.2, hk.1.2⟩⟩))), (rb_ (Kd.R_mono HO_10.out (fun _ hk => ⟨hk.2, ⟨hk.1.2, hk.1.1⟩⟩))), (rb_ (Kd.R_mono HO_107000.out (fun _ hk => ⟨hk.2, ⟨hk.1.2, hk.1.1⟩⟩))), (bb_ BK101.out), (bb_ BK102.out), (bb_ BK106.out), (gb_ HB.out)⟩)
 rintro ⟨v115, v118⟩ w36 ⟨hS_, h0_, h1_, h2_, h3_, h4_, h5_, h6_, h7_⟩
 have n0_ : Aside0 (Kd.R (Kd.int .i64) 2 w36 w.heap.size (fun k_ => OB_ k_ v118 ∧ OB_ k_ u10 ∧ OB_ k_ u107000) v115 t114) := ⟨h0_⟩
 have n1_ : Aside0 (Kd.R (Kd.int .i64) 2 w36 w.heap.size (fun k_ => OB_ k_ v115 ∧ OB_ k_ u10 ∧ OB_ k_ u107000) v118 y117) := ⟨h1_⟩
 have n2_ : Aside0 (Kd.R (Kd.int .i64) 2 w36 w.heap.size (fun k_ => OB_ k_ v115 ∧ OB_ k_ v118 ∧ OB_ k_ u107000) u10 x10_2) := ⟨h2_⟩
 have n3_ : Aside0 (Kd.R (Kd.int .i64) 2 w36 w.heap.size (fun k_ => OB_ k_ v115 ∧ OB_ k_ v118 ∧ OB_ k_ u10) u107000 x107000_2) := ⟨h3_⟩
 have n4_ : Aside0 (w36.heap[gb101]? = some (.cells #[.slice A0_0 l0_0.length c0_0] 26 (0, 0))) := ⟨h4_⟩
 have n5_ : Aside0 (w36.heap[gb102]? = some (.cells #[.slice none 0 0] 26 (0, 0))) := ⟨h5_⟩
 have n6_ : Aside0 (w36.heap[gb106]? = some (.cells #[u107000] 26 (0, 0))) := ⟨h6_⟩
 have n7_ : Aside0 (Below w.heap.size w w36) := ⟨h7_⟩
 clear HO_10 HO_107000 BK101 BK102 BK106 HB h0_ h1_ h2_ h3_ h4_ h5_ h6_ h7_
 have HO116 := n0_
 have HO119 := n1_
 have HO_10 := n2_
 have HO_107000 := n3_
 have BK101 := n4_
 have BK102 := n5_
 have BK106 := n6_
 have HB := n7_
 clear n0_ n1_ n2_ n3_ n4_ n5_ n6_ n7_
 have hHeld : w36.cell? ⟨gb101, 0, none⟩ = some (.slice A0_0 l0_0.length c0_0) ∧ w36.cell? (ad113.add (x40_2).toNat) = some (.int .i64 (rd l1 x40_2)) := hS_
 refine nj_ ?_
 refine pv_ 10 13 HT_ ?_
 refine done_ (done_of HT_.out (by kernel_rfl)) ?_
 try go_wp2
 go_loopg [54] k2 (fun kq v54 w' => ∃ (x13_3 : List Int) (x54_3 : Int), v54 = .int .i64 x54_3 ∧ Aside0 (spec_l03Places.l2 kq l1 l2 x10_2 t114 x13_3 (l1.length : Int) x40_2 (l2.length : Int) x54_3 l0_0 x107000_2 = some (r1, r2)) ∧ Aside0 (kq ≤ k2) ∧ Aside0 (Kd.R (Kd.int .i64) 2 w' w.heap.size (fun k_ => OB_ k_ v115 ∧ OB_ k_ v118 ∧ OB_ k_ u107000) u10 x10_2) ∧ Aside0 (Kd.R (Kd.int .i64) 2 w' w.heap.size (fun k_ => OB_ k_ u10 ∧ OB_ k_ v118 ∧ OB_ k_ u107000) v115 t114) ∧ Aside0 (Kd.R (Kd.int .i64) 2 w' w.heap.size (fun k_ => OB_ k_ u10 ∧ OB_ k_ v115 ∧ OB_ k_ u107000) v118 x13_3) ∧ Aside0 (Kd.R (Kd.int .i64) 2 w' w.heap.size (fun k_ => OB_ k_ u10 ∧ OB_ k_ v115 ∧ OB_ k_ v118) u107000 x107000_2) ∧ Aside0 (w'.heap[gb101]? = some (.cells #[(.slice A0_0 l0_0.length c0_0)] 26 (0, 0))) ∧ Aside0 (w'.heap[gb102]? = some (.cells #[(.slice none 0 0)] 26 (0, 0))) ∧ Aside0 (w'.heap[gb106]? = some (.cells #[u107000] 26 (0, 0))) ∧ Aside0 (Below w.heap.size w w'))
 case atStart => exact ⟨(y117), (0), t2_, H', ⟨Nat.le_refl _⟩, ⟨rb_ HO_10.out⟩, ⟨rb_ (Kd.R_mono HO116.out (fun _ hk => ⟨hk.2.1, ⟨hk.1, hk.2.2⟩⟩))⟩, ⟨rb_ (Kd.R_mono HO119.out (fun _ hk => ⟨hk.2.1, ⟨hk.1, hk.2.2⟩⟩))⟩, ⟨rb_ (Kd.R_mono HO_107000.out (fun _ hk => ⟨hk.2.2, ⟨hk.1, hk.2.1⟩⟩))⟩, ⟨bb_ BK101.out⟩, ⟨bb_ BK102.out⟩, ⟨bb_ BK106.out⟩, ⟨gb_ HB.out⟩⟩
 clear H'
 try clear c1
 try clear p1
 try clear q1
 try clear hx1
 try clear c2
 try clear p2
 try clear q2
 try clear hx2
 try clear c3
 try clear c4
 try clear c4b0
 try clear c4b1
 try clear c5
 try clear c5b0
 try clear c5b1
 try clear p6
 try clear c7
 try clear p10
 try clear q10
 try clear hx10
 try clear p11
 try clear q11
 try clear hx11
 try clear c12
 try clear c13
 try clear c15
 try clear c15b0
 try clear c16
 try clear c16b0
 try clear c17
 try clear c17b0
 try clear c18
 try clear c18b0
 try clear c19
 try clear c19b0
 try clear c20
 try clear c20b0
 try clear p21
 try clear q21
 try clear hx21
 try clear hf21
 try clear c26
 try clear c26b0
 try clear c27
 try clear c27b0
 try clear c28
 try clear c28b0
 try clear c30
 try clear c30b0
 try clear c30b1
 try clear c31
 try clear c31b0
 try clear c31b1
 try clear hcz14_0
 try clear hfz14_0
 try clear hx107_0
 try clear hx108_0
 try clear hx113_0
 try clear hx21_0
 try clear p1
 try clear p10
 try clear p107
 try clear p108
 try clear p113
 try clear p2
 try clear p21
 try clear p6
 try clear q1
 try clear q10
 try clear q107
 try clear q108
 try clear q113
 try clear q2
 try clear q21
 obtain ⟨x13_3, x54_3, rfl, HA, HK3, HO_10, HO_12, HO_13, HO_107000, BK101, BK102, BK106, HB⟩ := hrel
 obtain _ | k3 := gk
 ·exact absurd HA.out (by simp [spec_l03Places.l2])
 have H := HA.out
 clear HA
 simp only [spec_l03Places.l2] at H
 replace H := ie_ H
 obtain ⟨c37b0, H⟩ | ⟨c37b0, H⟩ := H
 ·replace H := bd_ H
  obtain ⟨t123, A47, H⟩ := H
  replace H := bd_ H
  obtain ⟨t124, A48, H⟩ := H
  have H' := Aside0.mk H
  clear H
  have hnb49 := NB106_101.out
  have hnc49 := NB101_106.out
  have hnb50 := NB106_102.out
  have hnc50 := NB102_106.out
  have hcz51_0 := hz_ BK106
  have hfz51_0 := blk_frozen BK106.out 0
  obtain ⟨Ao52, co52, eo52⟩ := Kd.R_slice HO_107000.out
  subst eo52
  obtain ⟨Ao53, co53, eo53⟩ := Kd.R_slice HO_13.out
  subst eo53
  go_wp2_with (first | ((with_reducible refine gate_callee (f := 77) rfl ?_); refine gl_ (some 71) rfl rfl Tryz.func77 #[.agg #[.slice Ao52 x107000_2.length co52], .slice Ao53 x13_3.length co53] rfl ?_; (with_reducible refine (spec_l01Word.calls k3 _ _ x107000_2 _ _ x13_3 t123 _ ?side1 ?side2 ?side3 ?side4 A47.out).mono ?_); (case side1 => exact c1_ HO_107000); (case side2 => exact (Kd.R_reads' HO_107000.out).2.1); (case side3 => exact c1_ HO_13); (case side4 => exact (Kd.R_reads' HO_13.out).2.1); rintro e w54 ⟨rfl, hb⟩; refine ⟨_, rfl, ?_⟩; replace HO_10 := a1_ HO_10 hb; replace HO_12 := a1_ HO_12 hb; replace HO_13 := a1_ HO_13 hb; replace HO_107000 := a1_ HO_107000 hb; replace BK101 := a2_ BK101 hb; replace BK102 := a2_ BK102 hb; replace BK106 := a2_ BK106 hb; replace HB := b1_ HB hb; (try clear hb); (try clear hb2); (try clear hk); (try clear hi); obtain ⟨Ao55, co55, eo55⟩ := Kd.R_slice HO_10.out; subst eo55) | ((with_reducible refine gate_callee (f := 36) rfl ?_); refine gl_ (some 72) rfl rfl Tryz.func36 #[.slice Ao55 x10_2.length co55, .int .i64 t123] rfl ?_; (with_reducible refine (spec_l01Put.calls k3 (fun k_ => some k_ = (.slice Ao55 x10_2.length co55 : Value).ownBlock) (.slice Ao55 x10_2.length co55) x10_2 t123 t124 w _ ?side1 ?side2 A48.out).mono ?_); (case side1 => exact gb_ HB.out); (case side2 => exact Kd.R_tight rfl HO_10.out); rintro e w56 ⟨v125, rfl, ho0, hb, hkp⟩; refine ⟨_, rfl, ?_⟩; replace BK101 := a7_ BK101 hkp HO_10; replace BK102 := a7_ BK102 hkp HO_10; replace BK106 := a7_ BK106 hkp HO_10; have HO126 := Aside0.mk (Kd.R_mono (ok' := fun k_ => OB_ k_ v115 ∧ OB_ k_ (.slice Ao53 x13_3.length co53) ∧ OB_ k_ (.slice Ao52 x107000_2.length co52)) ho0 (fun k_ hk_ => ⟨Or.elim hk_ (fun hs_ => fun e_ => (((HO_12.out).1 k_ e_.symm).1) hs_) (fun hn_ => (Kd.fresh' (Kd.R_lt (rb_ HO_12.out)) k_ hn_)), Or.elim hk_ (fun hs_ => fun e_ => (((HO_13.out).1 k_ e_.symm).1) hs_) (fun hn_ => (Kd.fresh' (Kd.R_lt (rb_ HO_13.out)) k_ hn_)), Or.elim hk_ (fun hs_ => fun e_ => (((HO_107000.out).1 k_ e_.symm).1) hs_) (fun hn_ => (Kd.fresh' (Kd.R_lt (rb_ HO_107000.out)) k_ hn_))⟩)); replace HO_12 := Aside0.mk (Kd.R_mono (ok' := fun k_ => OB_ k_ (.slice Ao53 x13_3.length co53) ∧ OB_ k_ (.slice Ao52 x107000_2.length co52) ∧ OB_ k_ v125) (Kd.R_keptB (HO_12.out) hkp (fun k_ hk_ hs_ => (hk_.1) hs_)) (fun k_ hk_ => ⟨hk_.1.2.1, hk_.1.2.2, fun e_ => Or.elim (ho0.1 k_ e_.symm) (fun hs_ => hk_.2.1 hs_) (fun hn_ => Nat.not_le.2 hk_.2.2 hn_)⟩)); replace HO_13 := Aside0.mk (Kd.R_mono (ok' := fun k_ => OB_ k_ v115 ∧ OB_ k_ (.slice Ao52 x107000_2.length co52) ∧ OB_ k_ v125) (Kd.R_keptB (HO_13.out) hkp (fun k_ hk_ hs_ => (hk_.1) hs_)) (fun k_ hk_ => ⟨hk_.1.2.1, hk_.1.2.2, fun e_ => Or.elim (ho0.1 k_ e_.symm) (fun hs_ => hk_.2.1 hs_) (fun hn_ => Nat.not_le.2 hk_.2.2 hn_)⟩)); replace HO_107000 := Aside0.mk (Kd.R_mono (ok' := fun k_ => OB_ k_ v115 ∧ OB_ k_ (.slice Ao53 x13_3.length co53) ∧ OB_ k_ v125) (Kd.R_keptB (HO_107000.out) hkp (fun k_ hk_ hs_ => (hk_.1) hs_)) (fun k_ hk_ => ⟨hk_.1.2.1, hk_.1.2.2, fun e_ => Or.elim (ho0.1 k_ e_.symm) (fun hs_ => hk_.2.1 hs_) (fun hn_ => Nat.not_le.2 hk_.2.2 hn_)⟩)); replace HB := Aside0.mk (hb); clear HO_10; (try clear hb); (try clear hkp); (try clear ho0)))
  go_roundg k3
  case measure => have := HK1.out; have := HK2.out; have := HK3.out; omega
  case rel => exact ⟨(t124), (wrap64 (x40_2 + 1)), (x107000_2), (.slice Ao52 x107000_2.length co52), t2_, H', ⟨by have := HK1.out; have := HK2.out; have := HK3.out; omega⟩, ⟨rb_ (Kd.R_mono HO126.out (fun _ hk => hk.2.2))⟩, ⟨rb_ (Kd.R_mono HO_107000.out (fun _ hk => hk.2.2))⟩, ⟨bb_ BK101.out⟩, ⟨bb_ BK102.out⟩, ⟨bb_ BK106.out⟩, ⟨gb_ HB.out⟩⟩
 replace H := id_ H
 obtain ⟨c38b0, H⟩ := H
 replace H := id_ H
 obtain ⟨c39b0, H⟩ := H
 replace H := id_ H
 obtain ⟨c40b0, H⟩ := H
 replace H := id_ H
 obtain ⟨c41b0, H⟩ := H
 replace H := id_ H
 obtain ⟨c42b0, H⟩ := H
 obtain ⟨y122, hy122⟩ : ∃ y_ : List Int, y_ = (x13_3.set ((rd l2 x54_3) : Int).toNat (rd t114 x54_3)) := ⟨_, rfl⟩
 replace H : (spec_l03Places.l2 k3 l1 l2 x10_2 t114 y122 (l1.length : Int) x40_2 (l2.length : Int) (wrap64 (x54_3 + 1)) l0_0 x107000_2) = some (r1, r2) := y_ H
 have Ny122 := Aside0.mk hy122
 clear hy122
 have H' := Aside0.mk H
 clear H
 try go_wp2
 replace HO_10 := Aside0.mk (Kd.R_drew HO_10.out)
 replace HO_12 := Aside0.mk (Kd.R_drew HO_12.out)
 replace HO_13 := Aside0.mk (Kd.R_drew HO_13.out)
 replace HO_107000 := Aside0.mk (Kd.R_drew HO_107000.out)
 replace BK101 := Aside0.mk (blk_drew BK101.out)
 replace BK102 := Aside0.mk (blk_drew BK102.out)
 replace BK106 := Aside0.mk (blk_drew BK106.out)
 replace HB := Aside0.mk (below_drew1 HB.out)
 obtain ⟨ad120, e120, hw120_0, hx120_0, p120, q120⟩ := at1_ HR2 HB x54_3
 cases e120
 obtain ⟨Ao45, co45, eo45⟩ := Kd.R_slice HO_12.out
 (first | subst eo45 | (injection eo45 with f1_ f2_ f3_; have f4_ := f1_.symm; have f5_ := f3_.symm; clear f1_ f2_ f3_; subst f4_; subst f5_))
 have p121 : 0 ≤ (x54_3 : Int) := of_decide_eq_true t6_
 have q121 : x54_3 < (t114.length : Int) := of_decide_eq_true t6_
 obtain ⟨ad121, e121, hx121_0⟩ := Kd.at_int (Kd.R_reads' HO_12.out).2.2 x54_3 p121 q121
 cases e121
 replace p121 := eq_true p121
 replace q121 := eq_true q121
 have p43 : 0 ≤ ((rd l2 x54_3) : Int) := of_decide_eq_true t6_
 have q43 : ((rd l2 x54_3) : Int) < ((x13_3.length : Int) : Int) := of_decide_eq_true t6_
 obtain ⟨go43, co43, eo43, gb43, gl43, cl43, HG43⟩ := Kd.R_form HO_13.out (by omega)
 (first | cases eo43 | (injection eo43 with ea_ en_ ec_; (first | subst ea_ | (injection ea_ with ea_; subst ea_)); subst ec_; clear en_))
 have GB43 := Aside0.mk gb43
 have GG43 := Aside0.mk HG43
 clear gb43 gl43 HG43
 obtain ⟨hx43_0, hf43_0⟩ := Kd.R_celln 0 HO_13.out ((rd l2 x54_3) : Int) p43 q43
 replace p43 := eq_true p43
 replace q43 := eq_true q43
 have HP46 := Kd.R_putn HO_13.out ((rd l2 x54_3) : Int) (rd t114 x54_3)
 rw [← Ny122.out] at HP46
 have HQ46 := Aside0.mk HP46
 clear HP46
 refine sr_ (n := 11) (S := fun w' => w'.cell? (ad120.add (x54_3).toNat) = some (.int .i64 (rd l2 x54_3)) ∧ w'.cell? (ad121.add (x54_3).toNat) = some (.int .i64 (rd t114 x54_3))) (ds := [10]) ⟨(hc_ HB hw120_0), hx121_0⟩ spec_l03Places.tab15 spec_l03Places.bits15 fun hHeld HT_ HW_ => ?_
 generalize wr.drew = w44 at HO_10 HO_12 HO_13 HO_107000 BK101 BK102 BK106 HB GG43 HQ46 hf43_0 hx120_0 hx121_0 hx43_0 hHeld ⊢
 refine pv_ 0 57 HT_ ?_
 refine pv_ 1 58 HT_ ?_
 refine pv_ 2 59 HT_ ?_
 refine pv_ 3 60 HT_ ?_
 refine pv_ 5 62 HT_ ?_
 refine pv_ 6 63 HT_ ?_
 refine pv_ 7 64 HT_ ?_
 refine tv2_ 4 61 HT_ HW_ hHeld ?_
 refine tv2_ 8 65 HT_ HW_ hHeld ?_
 refine pv_ 9 66 HT_ ?_
 refine last_ (i := 10) (N := none) #[true, true, true, true, true, true, true, true, true, true, true] rfl rfl (one_of HT_.out (by kernel_rfl)) (by decide) (fun K hK => ?_)
 refine skip_ (w1 := ?_) (by rfl) rfl ?_ ?_
 rotate_left
 ·go_simp
  rfl
 refine hK.out _ _ ?_
 clear hK K
 refine done_ (done_of HT_.out (by kernel_rfl)) ?_
 try go_wp2
 go_roundg k3
 case measure => have := HK1.out; have := HK2.out; have := HK3.out; omega
 case rel => exact ⟨(y122), (wrap64 (x54_3 + 1)), t2_, H', ⟨by have := HK1.out; have := HK2.out; have := HK3.out; omega⟩, ⟨by (with_reducible repeat (first | apply Kd.R_alloc | apply Kd.R_drewN | apply Kd.R_drew)); exact Kd.R_mono (Kd.R_far (p := ⟨go43, ((rd l2 x54_3) : Int).toNat, none⟩) (Kd.R_mono HO_10.out (fun k_ hk => (⟨hk, fun e_ => hk.2.1 (by rw [e_]; rfl)⟩ : _ ∧ k_ ≠ go43))) (fun _ hk => hk.2) (.int .i64 (rd t114 x54_3))) (fun _ hk => ⟨hk.1.1, ⟨hk.1.2.1, hk.1.2.2⟩⟩)⟩, ⟨by (with_reducible repeat (first | apply Kd.R_alloc | apply Kd.R_drewN | apply Kd.R_drew)); exact Kd.R_mono (Kd.R_far (p := ⟨go43, ((rd l2 x54_3) : Int).toNat, none⟩) (Kd.R_mono HO_12.out (fun k_ hk => (⟨hk, fun e_ => hk.2.1 (by rw [e_]; rfl)⟩ : _ ∧ k_ ≠ go43))) (fun _ hk => hk.2) (.int .i64 (rd t114 x54_3))) (fun _ hk => ⟨hk.1.1, ⟨hk.1.2.1, hk.1.2.2⟩⟩)⟩, ⟨rb_ HQ46.out⟩, ⟨by (with_reducible repeat (first | apply Kd.R_alloc | apply Kd.R_drewN | apply Kd.R_drew)); exact Kd.R_mono (Kd.R_far (p := ⟨go43, ((rd l2 x54_3) : Int).toNat, none⟩) (Kd.R_mono HO_107000.out (fun k_ hk => (⟨hk, fun e_ => hk.2.2 (by rw [e_]; rfl)⟩ : _ ∧ k_ ≠ go43))) (fun _ hk => hk.2) (.int .i64 (rd t114 x54_3))) (fun _ hk => ⟨hk.1.1, ⟨hk.1.2.1, hk.1.2.2⟩⟩)⟩, ⟨by (with_reducible repeat (first | refine blk_drewN ?_ _ | refine blk_drew ?_ | refine blk_alloc ?_ _)); refine blk_far ?_ (by have h_ := Kd.R_ne HO_13.out BK101.out (by decide); intro e_; exact h_ (by rw [e_]; rfl)) _; (with_reducible repeat (first | refine blk_drewN ?_ _ | refine blk_drew ?_ | refine blk_alloc ?_ _)); exact BK101.out⟩, ⟨by (with_reducible repeat (first | refine blk_drewN ?_ _ | refine blk_drew ?_ | refine blk_alloc ?_ _)); refine blk_far ?_ (by have h_ := Kd.R_ne HO_13.out BK102.out (by decide); intro e_; exact h_ (by rw [e_]; rfl)) _; (with_reducible repeat (first | refine blk_drewN ?_ _ | refine blk_drew ?_ | refine blk_alloc ?_ _)); exact BK102.out⟩, ⟨by (with_reducible repeat (first | refine blk_drewN ?_ _ | refine blk_drew ?_ | refine blk_alloc ?_ _)); refine blk_far ?_ (by have h_ := Kd.R_ne HO_13.out BK106.out (by decide); intro e_; exact h_ (by rw [e_]; rfl)) _; (with_reducible repeat (first | refine blk_drewN ?_ _ | refine blk_drew ?_ | refine blk_alloc ?_ _)); exact BK106.out⟩, ⟨gb_ HB.out⟩⟩
def impl_formCode.l0 : Nat → List (List Int) → Int → Int → List Int → Option (Int)
  | 0, _, _, _, _ => none
  | k + 1, x8, x9, x10, x102000 => if x10 < x9 then (if 0 ≤ x10 then (if x10 < (x8.length : Int) then ((impl_codeCode.f k x102000 (rd_L2 x8 x10) ([] : List Int)).bind fun t103 => (if t103 = 0 then (impl_formCode.l0 k x8 x9 (wrap64 (x10 + 1)) x102000) else (some t103))) else (none)) else (none)) else ((impl_count.f k x102000).bind fun t104 => (if t104 > 81 then (some 3) else (some 0)))
def impl_formCode.f (k : Nat) (l0_0 : List Int) (l1 : List (List Int)) : Option (Int) := impl_formCode.l0 k l1 (l1.length : Int) 0 l0_0
set_option maxHeartbeats 8000000 in
set_option maxRecDepth 100000 in
theorem impl_formCode.calls (k : Nat) (A0_0 : Option Addr) (c0_0 : Nat) (l0_0 : List Int) (A1 : Option Addr) (c1 : Nat) (l1 : List (List Int)) (r : Int) (w : World) (hr0_0 : Kd.C (Kd.int .i64) w A0_0 l0_0.length l0_0) (hc0_0 : l0_0.length ≤ c0_0) (hr1 : Kd.C (Kd.slice 2 (Kd.int .i64)) w A1 l1.length l1) (hc1 : l1.length ≤ c1) (h : impl_formCode.f k l0_0 l1 = some r) :
  Calls Tryz.prog 21 #[.agg #[.slice A0_0 l0_0.length c0_0], .slice A1 l1.length c1] w fun e w' => e = .returned (.int .i64 r) ∧ Below w.heap.size w w' := by
 have hu26 := Tryz.underlying26
 have HR0_0 := Aside0.mk hr0_0
 have HC0_0 := Aside0.mk hc0_0
 clear hr0_0 hc0_0
 have HR1 := Aside0.mk hr1
 have HC1 := Aside0.mk hc1
 clear hr1 hc1
 have HB := Aside0.mk (Below.refl w.heap.size w)
 have H := h
 clear h
 unfold impl_formCode.f at H
 have H' := Aside0.mk H
 clear H
 go_enter Tryz.func21, Tryz.ntmps21
 go_wp2_with (first | ((with_reducible refine gate_dst (N := 2) rfl ?_); refine bx_ (N := 2) (cs := #[.slice A0_0 l0_0.length c0_0]) (t := 26) rfl rfl ?_; intro gb101 hg w3 hbox hb; have BK101 := Aside0.mk (hbox); have GW101 := ge_ hg HB; have GE101 := ge_ hg HB; replace HB := b1_ HB hb; clear hb hbox hg))
 go_loopg [10] k (fun kq v10 w' => ∃ (x10_1 : Int), v10 = .int .i64 x10_1 ∧ Aside0 (impl_formCode.l0 kq l1 (l1.length : Int) x10_1 l0_0 = some r) ∧ Aside0 (kq ≤ k) ∧ Aside0 (w'.heap[gb101]? = some (.cells #[(.slice A0_0 l0_0.length c0_0)] 26 (0, 0))) ∧ Aside0 (Below w.heap.size w w'))
 case atStart => exact ⟨(0), t2_, H', ⟨Nat.le_refl _⟩, ⟨bb_ BK101.out⟩, ⟨gb_ HB.out⟩⟩
 clear H'
 try clear c1
 try clear c2
 try clear p2
 obtain ⟨x10_1, rfl, HA, HK1, BK101, HB⟩ := hrel
 obtain _ | k1 := gk
 ·exact absurd HA.out (by simp [impl_formCode.l0])
 have H := HA.out
 clear HA
 simp only [impl_formCode.l0] at H
 replace H := ie_ H
 obtain ⟨c4b0, H⟩ | ⟨c4b0, H⟩ := H
 ·replace H := bd_ H
  obtain ⟨t104, A13, H⟩ := H
  by_cases c14 : t104 > 81
  ·rw [if_pos c14] at H
   have c14b0 : decide (81 < t104) = true := decide_eq_true c14
   clear c14
   obtain rfl := Option.some.inj H
   have hcz15_0 := hz_ BK101
   have hfz15_0 := blk_frozen BK101.out 0
   go_wp2_with (first | ((with_reducible refine gate_callee (f := 43) rfl ?_); refine gl_ (some 22) rfl rfl Tryz.func43 #[.agg #[.slice A0_0 l0_0.length c0_0]] rfl ?_; (with_reducible refine (impl_count.calls k1 _ _ l0_0 t104 _ (c2_ HR0_0 HB) HC0_0.out A13.out).mono ?_); rintro e w16 ⟨rfl, hb⟩; refine ⟨_, rfl, ?_⟩; replace BK101 := a2_ BK101 hb; replace HB := b1_ HB hb; (try clear hb); (try clear hb2); (try clear hk); (try clear hi)))
   go_ret
   exact ⟨t5_, gb_ HB.out⟩
  rw [if_neg c14] at H
  have c14b0 : decide (81 < t104) = false := decide_eq_false c14
  clear c14
  obtain rfl := Option.some.inj H
  have hcz17_0 := hz_ BK101
  have hfz17_0 := blk_frozen BK101.out 0
  go_wp2_with (first | ((with_reducible refine gate_callee (f := 43) rfl ?_); refine gl_ (some 22) rfl rfl Tryz.func43 #[.agg #[.slice A0_0 l0_0.length c0_0]] rfl ?_; (with_reducible refine (impl_count.calls k1 _ _ l0_0 t104 _ (c2_ HR0_0 HB) HC0_0.out A13.out).mono ?_); rintro e w18 ⟨rfl, hb⟩; refine ⟨_, rfl, ?_⟩; replace BK101 := a2_ BK101 hb; replace HB := b1_ HB hb; (try clear hb); (try clear hb2); (try clear hk); (try clear hi)))
  go_ret
  exact ⟨t5_, gb_ HB.out⟩

 replace H := id_ H
 obtain ⟨c5b0, H⟩ := H
 replace H := id_ H
 obtain ⟨c6b0, H⟩ := H
 replace H := bd_ H
 obtain ⟨t103, A7, H⟩ := H
 by_cases c8 : t103 = 0
 rotate_left
 ·rw [if_neg c8] at H
  have c8b0 : (t103 == 0) = false := beq_eq_false_iff_ne.mpr c8
  have c8b1 : (t103 != 0) = true := bne_iff_ne.mpr c8
  obtain rfl := Option.some.inj H
  have p102 : 0 ≤ (x10_1 : Int) := of_decide_eq_true t6_
  have q102 : x10_1 < (l1.length : Int) := of_decide_eq_true t6_
  obtain ⟨ad102, A102_0, c102_0, e102, hx102_0, hl102_0, hi102_0⟩ := at_L2 HR1.out x10_1 p102 q102
  cases e102
  replace hx102_0 := hc_ HB hx102_0
  have HR102_0 := Aside0.mk hi102_0
  have HC102_0 := Aside0.mk hl102_0
  clear hi102_0 hl102_0
  replace p102 := eq_true p102
  replace q102 := eq_true q102
  have hcz11_0 := hz_ BK101
  have hfz11_0 := blk_frozen BK101.out 0
  go_wp2_with (first | ((with_reducible refine gate_callee (f := 44) rfl ?_); refine gl_ (some 16) rfl rfl Tryz.func44 #[.agg #[.slice A0_0 l0_0.length c0_0], .slice A102_0 (rd_L2 l1 x10_1).length c102_0, .slice none 0 0] rfl ?_; (refine (impl_codeCode.calls k1 _ _ l0_0 _ _ (rd_L2 l1 x10_1) _ _ ([] : List Int) t103 _ ?side1 ?side2 ?side3 ?side4 ?side5 ?side6 A7.out).mono ?_); (case side1 => exact c2_ HR0_0 HB); (case side2 => exact HC0_0.out); (case side3 => exact c2_ HR102_0 HB); (case side4 => exact HC102_0.out); (case side5 => exact Kd.C_nil _ _); (case side6 => exact Nat.le_refl _); rintro e w12 ⟨rfl, hb⟩; refine ⟨_, rfl, ?_⟩; replace BK101 := a2_ BK101 hb; replace HB := b1_ HB hb; (try clear hb); (try clear hb2); (try clear hk); (try clear hi)))
  go_ret
  exact ⟨t5_, gb_ HB.out⟩
 rw [if_pos c8] at H
 have c8b0 : (t103 == 0) = true := beq_iff_eq.mpr c8
 have c8b1 : (t103 != 0) = false := bne_eq_false_iff_eq.mpr c8
 clear c8
 have H' := Aside0.mk H
 clear H
 have p102 : 0 ≤ (x10_1 : Int) := of_decide_eq_true t6_
 have q102 : x10_1 < (l1.length : Int) := of_decide_eq_true t6_
 obtain ⟨ad102, A102_0, c102_0, e102, hx102_0, hl102_0, hi102_0⟩ := at_L2 HR1.out x10_1 p102 q102
 cases e102
 replace hx102_0 := hc_ HB hx102_0
 have HR102_0 := Aside0.mk hi102_0
 have HC102_0 := Aside0.mk hl102_0
 clear hi102_0 hl102_0
 replace p102 := eq_true p102
 replace q102 := eq_true q102
 have hcz9_0 := hz_ BK101
 have hfz9_0 := blk_frozen BK101.out 0
 go_wp2_with (first | ((with_reducible refine gate_callee (f := 44) rfl ?_); refine gl_ (some 16) rfl rfl Tryz.func44 #[.agg #[.slice A0_0 l0_0.length c0_0], .slice A102_0 (rd_L2 l1 x10_1).length c102_0, .slice none 0 0] rfl ?_; (refine (impl_codeCode.calls k1 _ _ l0_0 _ _ (rd_L2 l1 x10_1) _ _ ([] : List Int) t103 _ ?side1 ?side2 ?side3 ?side4 ?side5 ?side6 A7.out).mono ?_); (case side1 => exact c2_ HR0_0 HB); (case side2 => exact HC0_0.out); (case side3 => exact c2_ HR102_0 HB); (case side4 => exact HC102_0.out); (case side5 => exact Kd.C_nil _ _); (case side6 => exact Nat.le_refl _); rintro e w10 ⟨rfl, hb⟩; refine ⟨_, rfl, ?_⟩; replace BK101 := a2_ BK101 hb; replace HB := b1_ HB hb; (try clear hb); (try clear hb2); (try clear hk); (try clear hi)))
 go_roundg k1
 case measure => have := HK1.out; omega
 case rel => exact ⟨(wrap64 (x10_1 + 1)), t2_, H', ⟨by have := HK1.out; omega⟩, ⟨bb_ BK101.out⟩, ⟨gb_ HB.out⟩⟩
def impl_bothCode.f (k : Nat) (l0_0 : List Int) (l1 : List Int) (l2 : List Int) : Option (Int) := (impl_codeCode.f k l0_0 l1 ([] : List Int)).bind fun t102 => (if t102 = 0 then ((impl_codeCode.f k l0_0 l2 ([] : List Int)).bind fun t103 => (some t103)) else (some t102))
set_option maxHeartbeats 8000000 in
set_option maxRecDepth 100000 in
theorem impl_bothCode.calls (k : Nat) (A0_0 : Option Addr) (c0_0 : Nat) (l0_0 : List Int) (A1 : Option Addr) (c1 : Nat) (l1 : List Int) (A2 : Option Addr) (c2 : Nat) (l2 : List Int) (r : Int) (w : World) (hr0_0 : Kd.C (Kd.int .i64) w A0_0 l0_0.length l0_0) (hc0_0 : l0_0.length ≤ c0_0) (hr1 : Kd.C (Kd.int .i64) w A1 l1.length l1) (hc1 : l1.length ≤ c1) (hr2 : Kd.C (Kd.int .i64) w A2 l2.length l2) (hc2 : l2.length ≤ c2) (h : impl_bothCode.f k l0_0 l1 l2 = some r) :
  Calls Tryz.prog 30 #[.agg #[.slice A0_0 l0_0.length c0_0], .slice A1 l1.length c1, .slice A2 l2.length c2] w fun e w' => e = .returned (.int .i64 r) ∧ Below w.heap.size w w' := by
 have hu26 := Tryz.underlying26
 have HR0_0 := Aside0.mk hr0_0
 have HC0_0 := Aside0.mk hc0_0
 clear hr0_0 hc0_0
 have HR1 := Aside0.mk hr1
 have HC1 := Aside0.mk hc1
 clear hr1 hc1
 have HR2 := Aside0.mk hr2
 have HC2 := Aside0.mk hc2
 clear hr2 hc2
 have HB := Aside0.mk (Below.refl w.heap.size w)
 have H := h
 clear h
 unfold impl_bothCode.f at H
 replace H := bd_ H
 obtain ⟨t102, A4, H⟩ := H
 by_cases c5 : t102 = 0
 rotate_left
 ·rw [if_neg c5] at H
  have c5b0 : (t102 == 0) = false := beq_eq_false_iff_ne.mpr c5
  have c5b1 : (t102 != 0) = true := bne_iff_ne.mpr c5
  obtain rfl := Option.some.inj H
  go_enter Tryz.func30, Tryz.ntmps30
  go_wp2_with (first | ((with_reducible refine gate_dst (N := 3) rfl ?_); refine bx_ (N := 3) (cs := #[.slice A0_0 l0_0.length c0_0]) (t := 26) rfl rfl ?_; intro gb101 hg w12 hbox hb; have BK101 := Aside0.mk (hbox); have GW101 := ge_ hg HB; have GE101 := ge_ hg HB; replace HB := b1_ HB hb; clear hb hbox hg; have hcz13_0 := hz_ BK101; have hfz13_0 := blk_frozen BK101.out 0) | ((with_reducible refine gate_callee (f := 44) rfl ?_); refine gl_ (some 10) rfl rfl Tryz.func44 #[.agg #[.slice A0_0 l0_0.length c0_0], .slice A1 l1.length c1, .slice none 0 0] rfl ?_; (refine (impl_codeCode.calls k _ _ l0_0 _ _ l1 _ _ ([] : List Int) t102 _ ?side1 ?side2 ?side3 ?side4 ?side5 ?side6 A4.out).mono ?_); (case side1 => exact c2_ HR0_0 HB); (case side2 => exact HC0_0.out); (case side3 => exact c2_ HR1 HB); (case side4 => exact HC1.out); (case side5 => exact Kd.C_nil _ _); (case side6 => exact Nat.le_refl _); rintro e w14 ⟨rfl, hb⟩; refine ⟨_, rfl, ?_⟩; replace BK101 := a2_ BK101 hb; replace HB := b1_ HB hb; (try clear hb); (try clear hb2); (try clear hk); (try clear hi)))
  go_ret
  exact ⟨t5_, gb_ HB.out⟩

 rw [if_pos c5] at H
 have c5b0 : (t102 == 0) = true := beq_iff_eq.mpr c5
 have c5b1 : (t102 != 0) = false := bne_eq_false_iff_eq.mpr c5
 clear c5
 replace H := bd_ H
 obtain ⟨t103, A6, H⟩ := H
 obtain rfl := Option.some.inj H
 go_enter Tryz.func30, Tryz.ntmps30
 go_wp2_with (first | ((with_reducible refine gate_dst (N := 3) rfl ?_); refine bx_ (N := 3) (cs := #[.slice A0_0 l0_0.length c0_0]) (t := 26) rfl rfl ?_; intro gb101 hg w7 hbox hb; have BK101 := Aside0.mk (hbox); have GW101 := ge_ hg HB; have GE101 := ge_ hg HB; replace HB := b1_ HB hb; clear hb hbox hg; have hcz8_0 := hz_ BK101; have hfz8_0 := blk_frozen BK101.out 0) | ((with_reducible refine gate_callee (f := 44) rfl ?_); refine gl_ (some 10) rfl rfl Tryz.func44 #[.agg #[.slice A0_0 l0_0.length c0_0], .slice A1 l1.length c1, .slice none 0 0] rfl ?_; (refine (impl_codeCode.calls k _ _ l0_0 _ _ l1 _ _ ([] : List Int) t102 _ ?side1 ?side2 ?side3 ?side4 ?side5 ?side6 A4.out).mono ?_); (case side1 => exact c2_ HR0_0 HB); (case side2 => exact HC0_0.out); (case side3 => exact c2_ HR1 HB); (case side4 => exact HC1.out); (case side5 => exact Kd.C_nil _ _); (case side6 => exact Nat.le_refl _); rintro e w9 ⟨rfl, hb⟩; refine ⟨_, rfl, ?_⟩; replace BK101 := a2_ BK101 hb; replace HB := b1_ HB hb; (try clear hb); (try clear hb2); (try clear hk); (try clear hi); have hcz10_0 := hz_ BK101; have hfz10_0 := blk_frozen BK101.out 0) | ((with_reducible refine gate_callee (f := 44) rfl ?_); refine gl_ (some 16) rfl rfl Tryz.func44 #[.agg #[.slice A0_0 l0_0.length c0_0], .slice A2 l2.length c2, .slice none 0 0] rfl ?_; (refine (impl_codeCode.calls k _ _ l0_0 _ _ l2 _ _ ([] : List Int) t103 _ ?side1 ?side2 ?side3 ?side4 ?side5 ?side6 A6.out).mono ?_); (case side1 => exact c2_ HR0_0 HB); (case side2 => exact HC0_0.out); (case side3 => exact c2_ HR2 HB); (case side4 => exact HC2.out); (case side5 => exact Kd.C_nil _ _); (case side6 => exact Nat.le_refl _); rintro e w11 ⟨rfl, hb⟩; refine ⟨_, rfl, ?_⟩; replace BK101 := a2_ BK101 hb; replace HB := b1_ HB hb; (try clear hb); (try clear hb2); (try clear hk); (try clear hi)))
 go_ret
 exact ⟨t5_, gb_ HB.out⟩
def spec_l03Two.f (k : Nat) (l0_0 : List Int) (l1 : List Int) (l2 : List Int) : Option (Int) := (spec_l01Given.f k l0_0 l1).bind fun t102 => (if t102 = 0 then ((spec_l01Given.f k l0_0 l2).bind fun t103 => (some t103)) else (some t102))
set_option maxHeartbeats 8000000 in
set_option maxRecDepth 100000 in
theorem spec_l03Two.calls (k : Nat) (A0_0 : Option Addr) (c0_0 : Nat) (l0_0 : List Int) (A1 : Option Addr) (c1 : Nat) (l1 : List Int) (A2 : Option Addr) (c2 : Nat) (l2 : List Int) (r : Int) (w : World) (hr0_0 : Kd.C (Kd.int .i64) w A0_0 l0_0.length l0_0) (hc0_0 : l0_0.length ≤ c0_0) (hr1 : Kd.C (Kd.int .i64) w A1 l1.length l1) (hc1 : l1.length ≤ c1) (hr2 : Kd.C (Kd.int .i64) w A2 l2.length l2) (hc2 : l2.length ≤ c2) (h : spec_l03Two.f k l0_0 l1 l2 = some r) :
  Calls Tryz.prog 34 #[.agg #[.slice A0_0 l0_0.length c0_0], .slice A1 l1.length c1, .slice A2 l2.length c2] w fun e w' => e = .returned (.int .i64 r) ∧ Below w.heap.size w w' := by
 have hu26 := Tryz.underlying26
 have HR0_0 := Aside0.mk hr0_0
 have HC0_0 := Aside0.mk hc0_0
 clear hr0_0 hc0_0
 have HR1 := Aside0.mk hr1
 have HC1 := Aside0.mk hc1
 clear hr1 hc1
 have HR2 := Aside0.mk hr2
 have HC2 := Aside0.mk hc2
 clear hr2 hc2
 have HB := Aside0.mk (Below.refl w.heap.size w)
 have H := h
 clear h
 unfold spec_l03Two.f at H
 replace H := bd_ H
 obtain ⟨t102, A4, H⟩ := H
 by_cases c5 : t102 = 0
 rotate_left
 ·rw [if_neg c5] at H
  have c5b0 : (t102 == 0) = false := beq_eq_false_iff_ne.mpr c5
  have c5b1 : (t102 != 0) = true := bne_iff_ne.mpr c5
  obtain rfl := Option.some.inj H
  go_enter Tryz.func34, Tryz.ntmps34
  go_wp2_with (first | ((with_reducible refine gate_dst (N := 3) rfl ?_); refine bx_ (N := 3) (cs := #[.slice A0_0 l0_0.length c0_0]) (t := 26) rfl rfl ?_; intro gb101 hg w12 hbox hb; have BK101 := Aside0.mk (hbox); have GW101 := ge_ hg HB; have GE101 := ge_ hg HB; replace HB := b1_ HB hb; clear hb hbox hg; have hcz13_0 := hz_ BK101; have hfz13_0 := blk_frozen BK101.out 0) | ((with_reducible refine gate_callee (f := 69) rfl ?_); refine gl_ (some 10) rfl rfl Tryz.func69 #[.agg #[.slice A0_0 l0_0.length c0_0], .slice A1 l1.length c1] rfl ?_; (with_reducible refine (spec_l01Given.calls k _ _ l0_0 _ _ l1 t102 _ (c2_ HR0_0 HB) HC0_0.out (c2_ HR1 HB) HC1.out A4.out).mono ?_); rintro e w14 ⟨rfl, hb⟩; refine ⟨_, rfl, ?_⟩; replace BK101 := a2_ BK101 hb; replace HB := b1_ HB hb; (try clear hb); (try clear hb2); (try clear hk); (try clear hi)))
  go_ret
  exact ⟨t5_, gb_ HB.out⟩

 rw [if_pos c5] at H
 have c5b0 : (t102 == 0) = true := beq_iff_eq.mpr c5
 have c5b1 : (t102 != 0) = false := bne_eq_false_iff_eq.mpr c5
 clear c5
 replace H := bd_ H
 obtain ⟨t103, A6, H⟩ := H
 obtain rfl := Option.some.inj H
 go_enter Tryz.func34, Tryz.ntmps34
 go_wp2_with (first | ((with_reducible refine gate_dst (N := 3) rfl ?_); refine bx_ (N := 3) (cs := #[.slice A0_0 l0_0.length c0_0]) (t := 26) rfl rfl ?_; intro gb101 hg w7 hbox hb; have BK101 := Aside0.mk (hbox); have GW101 := ge_ hg HB; have GE101 := ge_ hg HB; replace HB := b1_ HB hb; clear hb hbox hg; have hcz8_0 := hz_ BK101; have hfz8_0 := blk_frozen BK101.out 0) | ((with_reducible refine gate_callee (f := 69) rfl ?_); refine gl_ (some 10) rfl rfl Tryz.func69 #[.agg #[.slice A0_0 l0_0.length c0_0], .slice A1 l1.length c1] rfl ?_; (with_reducible refine (spec_l01Given.calls k _ _ l0_0 _ _ l1 t102 _ (c2_ HR0_0 HB) HC0_0.out (c2_ HR1 HB) HC1.out A4.out).mono ?_); rintro e w9 ⟨rfl, hb⟩; refine ⟨_, rfl, ?_⟩; replace BK101 := a2_ BK101 hb; replace HB := b1_ HB hb; (try clear hb); (try clear hb2); (try clear hk); (try clear hi); have hcz10_0 := hz_ BK101; have hfz10_0 := blk_frozen BK101.out 0) | ((with_reducible refine gate_callee (f := 69) rfl ?_); refine gl_ (some 15) rfl rfl Tryz.func69 #[.agg #[.slice A0_0 l0_0.length c0_0], .slice A2 l2.length c2] rfl ?_; (with_reducible refine (spec_l01Given.calls k _ _ l0_0 _ _ l2 t103 _ (c2_ HR0_0 HB) HC0_0.out (c2_ HR2 HB) HC2.out A6.out).mono ?_); rintro e w11 ⟨rfl, hb⟩; refine ⟨_, rfl, ?_⟩; replace BK101 := a2_ BK101 hb; replace HB := b1_ HB hb; (try clear hb); (try clear hb2); (try clear hk); (try clear hi)))
 go_ret
 exact ⟨t5_, gb_ HB.out⟩
mutual
def spec_l03Orders.l0 : Nat → List Int → List (List Int) → Int → List Int → Option ((List (List Int)))
  | 0, _, _, _, _ => none
  | k + 1, x1, x5, x6, x102000 => if x6 < (x102000.length : Int) then ((spec_l01Has.f k x1 x6).bind fun t108 => (if t108 = true then (spec_l03Orders.j1 k x1 x5 x6 false x102000) else (if 0 ≤ x6 then (if 0 ≤ (x1.length : Int) then (if (x1.length : Int) < (x102000.length : Int) then (spec_l03Orders.j1 k x1 x5 x6 ((rd x102000 x6) == (rd x102000 (x1.length : Int))) x102000) else (none)) else (none)) else (none)))) else (some x5)
def spec_l03Orders.j1 : Nat → List Int → List (List Int) → Int → Bool → List Int → Option ((List (List Int)))
  | 0, _, _, _, _, _ => none
  | k + 1, x1, x5, x6, x40, x102000 => if x40 = true then ((spec_l01Own.f x1).bind fun t111 => ((some (([x6] : List Int) : List Int)).bind fun y114 => (if t111.length + y114.length < 17592186044416 then ((spec_l03Orders.f k x102000 (t111 ++ y114)).bind fun t120 => (if x5.length + t120.length < 5864062014805 then (spec_l03Orders.l0 k x1 (x5 ++ t120) (wrap64 (x6 + 1)) x102000) else (none))) else (none)))) else (spec_l03Orders.l0 k x1 x5 (wrap64 (x6 + 1)) x102000)
def spec_l03Orders.f : Nat → List Int → List Int → Option ((List (List Int)))
  | 0, _, _ => none
  | k + 1, l0_0, l1 => if (l1.length : Int) = (l0_0.length : Int) then (some (([l1] : List (List Int)))) else (spec_l03Orders.l0 k l1 (([] : List (List Int))) 0 l0_0)
end
def spec_l03Orders.T7 : Bool × List (List Nat × List Nat) := (true, [([], []), ([], []), ([0, 1], [0, 1]), ([2], [2]), ([3, 2], [3]), ([4], [4]), ([5, 4], [4, 5]), ([4], [4]), ([6, 7, 4], [4, 6, 7]), ([8, 4], [4, 8]), ([4], [4]), ([10, 4], [4, 10]), ([4], [4]), ([12, 4], [4, 12]), ([11, 13, 4], [4, 11, 13]), ([14, 4], [4, 14]), ([9, 15, 4], [4, 9, 15]), ([4, 16], [4, 16])])
def spec_l03Orders.B7 : List Nat := [0, 0, 3, 7, 15, 31, 63, 31, 255, 511, 31, 1055, 31, 4127, 15391, 31775, 65535, 131071]
theorem spec_l03Orders.tab7 : rtab .any (opsOf Tryz.f55 7) = spec_l03Orders.T7 := by kernel_rfl
theorem spec_l03Orders.bits7 : waitsOk spec_l03Orders.T7.2 spec_l03Orders.B7 = true := by kernel_rfl
def spec_l03Orders.T8 : Bool × List (List Nat × List Nat) := (true, [([], []), ([], []), ([], []), ([2], [2]), ([], []), ([4], [4]), ([3, 5, 3], [3, 5]), ([1, 6, 6], [1, 6]), ([0, 7, 7], [0, 7]), ([8, 8, 0, 1, 2, 3, 4, 5, 6, 7, 8], [0, 8])])
def spec_l03Orders.B8 : List Nat := [0, 0, 0, 4, 0, 16, 60, 126, 255, 511]
theorem spec_l03Orders.tab8 : rtab .any (opsOf Tryz.f55 8) = spec_l03Orders.T8 := by kernel_rfl
theorem spec_l03Orders.bits8 : waitsOk spec_l03Orders.T8.2 spec_l03Orders.B8 = true := by kernel_rfl
set_option maxHeartbeats 8000000 in
set_option maxRecDepth 100000 in
theorem spec_l03Orders.calls (k : Nat) : ∀ (A0_0 : Option Addr) (c0_0 : Nat) (l0_0 : List Int) (P1_ : Nat → Prop) (A1 : Option Addr) (c1 : Nat) (l1 : List Int) (r : List (List Int)) (w : World) (hr0_0 : Kd.C (Kd.int .i64) w A0_0 l0_0.length l0_0) (hc0_0 : l0_0.length ≤ c0_0) (hs1 : Kd.V (Kd.int .i64) 2 w w.heap.size (fun k_ => P1_ k_) (.slice A1 l1.length c1) l1) (h : spec_l03Orders.f k l0_0 l1 = some r),
  Calls Tryz.prog 55 #[.agg #[.slice A0_0 l0_0.length c0_0], .slice A1 l1.length c1] w fun e w' => ∃ v0_ : Value, e = .returned (v0_) ∧ Kd.N (Kd.slice 2 (Kd.int .i64)) 24 w' w.heap.size (fun k_ => (P1_ k_ ∨ w.heap.size ≤ k_)) v0_ r ∧ Below w.heap.size w w' := by
 induction k using Nat.strongRecOn with
 | _ k ih =>
 intro A0_0 c0_0 l0_0 P1_ A1 c1 l1 r w hr0_0 hc0_0 hs1 h
 cases k with
 | zero => exact absurd h (by simp [spec_l03Orders.f])
 | succ k =>
 simp only [spec_l03Orders.f] at h
 have hu26 := Tryz.underlying26
 have HR0_0 := Aside0.mk hr0_0
 have HC0_0 := Aside0.mk hc0_0
 clear hr0_0 hc0_0
 have HO1 := Aside0.mk (show Kd.V (Kd.int .i64) 2 w w.heap.size (fun k_ => (P1_ k_ ∨ w.heap.size ≤ k_)) (.slice A1 l1.length c1) l1 from Kd.V_mono hs1 (fun k_ hk => .inl hk))
 have HB := Aside0.mk (Below.refl w.heap.size w)
 have H := h
 clear h
 unfold spec_l03Orders.f at H
 by_cases c3 : (l1.length : Int) = (l0_0.length : Int)
 ·rw [if_pos c3] at H
  have c3b0 : ((l1.length : Int) == (l0_0.length : Int)) = true := beq_iff_eq.mpr c3
  have c3b1 : ((l1.length : Int) != (l0_0.length : Int)) = false := bne_eq_false_iff_eq.mpr c3
  have c3b2 : (l1.length == l0_0.length) = true := by first | simpa using c3 | (simp at c3 ⊢; omega)
  clear c3
  obtain ⟨y102, hy102⟩ : ∃ y_ : List (List Int), y_ = (([l1] : List (List Int))) := ⟨_, rfl⟩
  replace H : (some y102) = some r := y_ H
  have Ny102 := Aside0.mk hy102
  clear hy102
  obtain rfl := Option.some.inj H
  go_enter Tryz.func55, Tryz.ntmps55
  go_wp2_with (first | ((with_reducible refine gate_dst (N := 2) rfl ?_); refine bx_ (N := 2) (cs := #[.slice A0_0 l0_0.length c0_0]) (t := 26) rfl rfl ?_; intro gb101 hg w4 hbox hb; have n0_ := Aside0.mk (Kd.V_below (Kd.V_elderB (vb_ HO1.out) gb101 (Nat.le_of_eq hg.symm)) hb); have n1_ := b1_ HB hb; have n2_ := Aside0.mk (hbox); have n3_ := ge_ hg HB; have n4_ := ge_ hg HB; clear HO1 HB; have HO1 := n0_; have HB := n1_; have BK101 := n2_; have GW101 := n3_; have GE101 := n4_; clear n0_ n1_ n2_ n3_ n4_ hb hbox hg; have hcz5_0 := hz_ BK101; have hfz5_0 := blk_frozen BK101.out 0) | ((with_reducible refine gate_dst (N := 14) rfl ?_); refine Kd.N_lit (Kd.slice 2 (Kd.int .i64)) _ 24 ?hg (N' := 14) ?hd (xs := ([l1] : List (List Int))) (inner := [.slice A1 l1.length c1]) (ok := (fun k_ => (P1_ k_ ∨ w.heap.size ≤ k_) ∧ k_ ≠ gb101)) (okp := (fun k_ => (P1_ k_ ∨ w.heap.size ≤ k_) ∧ k_ ≠ gb101)) ?hr ?hp (fun _ hk => hk) ((show ∀ k_, w4.heap.size ≤ k_ → (fun k_ => (P1_ k_ ∨ w.heap.size ≤ k_) ∧ k_ ≠ gb101) k_ from fun k_ hk => ⟨(.inr (Nat.le_trans (below_size (gb_ HB.out)) hk)), Kd.freshB (g := gb101) (o := .cells #[.slice A0_0 l0_0.length c0_0] 26 (0, 0)) (bb_ BK101.out) k_ hk⟩) _ (Nat.le_refl _)) (Below.refl _ _) (Nat.le_refl _) (by simp) ?_; (case hd => rfl); (case hg => rfl); (case hr => exact t3_); (case hp => exact (Reps.one (show Kd.FK (Kd.slice 2 (Kd.int .i64)) _ _ l1 [.slice A1 l1.length c1] from (Kd.FK_slice_mk (Kd.V_reads' (Kd.V_mono (ok' := (fun k_ => (P1_ k_ ∨ w.heap.size ≤ k_) ∧ k_ ≠ gb101)) (HO1.out) (fun k_ hk => ⟨hk.1, hk.2⟩))).2.1 (Kd.V_F (Kd.V_mono (ok' := (fun k_ => (P1_ k_ ∨ w.heap.size ≤ k_) ∧ k_ ≠ gb101)) (HO1.out) (fun k_ hk => ⟨hk.1, hk.2⟩))))) (Reps.none _ _))); intro v103 w6 ho7 hb hg_ hnew_; clear hg_ hnew_; (first | rw [← Ny102.out] at ho7 | (simp only [Int.reduceToNat] at ho7; rw [← Ny102.out] at ho7)); have n0_ := Aside0.mk (Kd.V_elder' (vb_ HO1.out) (Kd.N_base ho7) hb); have n1_ := Aside0.mk (Kd.N_lower ho7 (below_size (gb_ HB.out))); have n2_ := a2_ BK101 hb; have n3_ := b1_ HB hb; clear HO1 BK101 HB; have HO1 := n0_; have HO104 := n1_; have BK101 := n2_; have HB := n3_; clear n0_ n1_ n2_ n3_ hb ho7))
  go_ret
  exact ⟨_, t5_, nb_ (Kd.N_mono HO104.out (fun _ hk => hk.1)), gb_ HB.out⟩
 rw [if_neg c3] at H
 have c3b0 : ((l1.length : Int) == (l0_0.length : Int)) = false := beq_eq_false_iff_ne.mpr c3
 have c3b1 : ((l1.length : Int) != (l0_0.length : Int)) = true := bne_iff_ne.mpr c3
 have c3b2 : (l1.length == l0_0.length) = false := by first | simpa using c3 | (simp at c3 ⊢; omega)
 obtain ⟨y105, hy105⟩ : ∃ y_ : List (List Int), y_ = (([] : List (List Int))) := ⟨_, rfl⟩
 replace H : (spec_l03Orders.l0 k l1 y105 0 l0_0) = some r := y_ H
 have Ny105 := Aside0.mk hy105
 clear hy105
 have H' := Aside0.mk H
 clear H
 go_enter Tryz.func55, Tryz.ntmps55
 go_wp2_with (first | ((with_reducible refine gate_dst (N := 2) rfl ?_); refine bx_ (N := 2) (cs := #[.slice A0_0 l0_0.length c0_0]) (t := 26) rfl rfl ?_; intro gb101 hg w8 hbox hb; have n0_ := Aside0.mk (Kd.V_below (Kd.V_elderB (vb_ HO1.out) gb101 (Nat.le_of_eq hg.symm)) hb); have n1_ := b1_ HB hb; have n2_ := Aside0.mk (hbox); have n3_ := ge_ hg HB; have n4_ := ge_ hg HB; clear HO1 HB; have HO1 := n0_; have HB := n1_; have BK101 := n2_; have GW101 := n3_; have GE101 := n4_; clear n0_ n1_ n2_ n3_ n4_ hb hbox hg; have hcz9_0 := hz_ BK101; have hfz9_0 := blk_frozen BK101.out 0) | ((with_reducible refine gate_dst (N := 15) rfl ?_); refine Kd.N_lit (Kd.slice 2 (Kd.int .i64)) _ 24 ?hg (N' := 15) ?hd (xs := ([] : List (List Int))) (inner := []) (ok := (fun k_ => (P1_ k_ ∨ w.heap.size ≤ k_) ∧ k_ ≠ gb101)) (okp := (fun k_ => (P1_ k_ ∨ w.heap.size ≤ k_) ∧ k_ ≠ gb101)) ?hr ?hp (fun _ hk => hk) ((show ∀ k_, w8.heap.size ≤ k_ → (fun k_ => (P1_ k_ ∨ w.heap.size ≤ k_) ∧ k_ ≠ gb101) k_ from fun k_ hk => ⟨(.inr (Nat.le_trans (below_size (gb_ HB.out)) hk)), Kd.freshB (g := gb101) (o := .cells #[.slice A0_0 l0_0.length c0_0] 26 (0, 0)) (bb_ BK101.out) k_ hk⟩) _ (Nat.le_refl _)) (Below.refl _ _) (Nat.le_refl _) (by simp) ?_; (case hd => rfl); (case hg => rfl); (case hr => exact t3_); (case hp => exact (Reps.none _ _)); intro v106 w10 ho11 hb hg_ hnew_; clear hg_ hnew_; (first | rw [← Ny105.out] at ho11 | (simp only [Int.reduceToNat] at ho11; rw [← Ny105.out] at ho11)); have n0_ := Aside0.mk (Kd.V_elder' (vb_ HO1.out) (Kd.N_base ho11) hb); have n1_ := Aside0.mk (Kd.N_lower ho11 (below_size (gb_ HB.out))); have n2_ := a2_ BK101 hb; have n3_ := b1_ HB hb; clear HO1 BK101 HB; have HO1 := n0_; have HO107 := n1_; have BK101 := n2_; have HB := n3_; clear n0_ n1_ n2_ n3_ hb ho11))
 go_loopg [5, 6] k (fun kq v5 v6 w' => ∃ (x5_1 : List (List Int)) (x6_1 : Int), v6 = .int .i64 x6_1 ∧ Aside0 (spec_l03Orders.l0 kq l1 x5_1 x6_1 l0_0 = some r) ∧ Aside0 (kq ≤ k) ∧ Aside0 (Kd.V (Kd.int .i64) 2 w' w.heap.size (fun k_ => (P1_ k_ ∨ w.heap.size ≤ k_) ∧ OB_ k_ v5 ∧ k_ ≠ gb101) (.slice A1 l1.length c1) l1) ∧ Aside0 (Kd.N (Kd.slice 2 (Kd.int .i64)) 24 w' w.heap.size (fun k_ => (P1_ k_ ∨ w.heap.size ≤ k_) ∧ k_ ≠ gb101) v5 x5_1) ∧ Aside0 (w'.heap[gb101]? = some (.cells #[(.slice A0_0 l0_0.length c0_0)] 26 (0, 0))) ∧ Aside0 (Below w.heap.size w w'))
 case atStart => exact ⟨(y105), (0), t2_, H', ⟨Nat.le_refl _⟩, ⟨vb_ (Kd.V_mono HO1.out (fun _ hk => ⟨hk.1.1, ⟨hk.2, hk.1.2⟩⟩))⟩, ⟨nb_ HO107.out⟩, ⟨bb_ BK101.out⟩, ⟨gb_ HB.out⟩⟩
 clear H'
 try clear c1
 try clear p2
 try clear c3
 try clear c3b0
 try clear c3b1
 try clear c3b2
 try clear c5
 try clear hcz5_0
 try clear hcz9_0
 try clear hfz5_0
 try clear hfz9_0
 obtain ⟨x5_1, x6_1, rfl, HA, HK1, HO_1, HO_5, BK101, HB⟩ := hrel
 obtain _ | k1 := gk
 ·exact absurd HA.out (by simp [spec_l03Orders.l0])
 have H := HA.out
 clear HA
 simp only [spec_l03Orders.l0] at H
 replace H := ie_ H
 obtain ⟨c12b0, H⟩ | ⟨c12b0, H⟩ := H
 ·obtain rfl := Option.some.inj H
  have hcz39_0 := hz_ BK101
  have hfz39_0 := blk_frozen BK101.out 0
  go_wp2
  go_ret
  exact ⟨_, t5_, nb_ (Kd.N_mono HO_5.out (fun _ hk => hk.1)), gb_ HB.out⟩

 have HC13 := Aside0.mk H
 clear H
 have hcz14_0 := hz_ BK101
 have hfz14_0 := blk_frozen BK101.out 0
 go_upto_region 7 with (fail)
 go_cut [40] (fun cs_40 wc => ∃ (kq : Nat) (x40_12 : Bool), cs_40 = .bool x40_12 ∧ Aside0 (spec_l03Orders.j1 kq l1 x5_1 x6_1 x40_12 l0_0 = some r) ∧ Aside0 (kq ≤ k1) ∧ Aside0 (Kd.V (Kd.int .i64) 2 wc w.heap.size (fun k_ => (P1_ k_ ∨ w.heap.size ≤ k_) ∧ OB_ k_ u5 ∧ k_ ≠ gb101) (.slice A1 l1.length c1) l1) ∧ Aside0 (Kd.N (Kd.slice 2 (Kd.int .i64)) 24 wc w.heap.size (fun k_ => (P1_ k_ ∨ w.heap.size ≤ k_) ∧ k_ ≠ gb101) u5 x5_1) ∧ Aside0 (wc.heap[gb101]? = some (.cells #[(.slice A0_0 l0_0.length c0_0)] 26 (0, 0))) ∧ Aside0 (Below w.heap.size w wc))
 case first =>
  have H := HC13.out
  clear HC13
  replace H := bd_ H
  obtain ⟨t108, A15, H⟩ := H
  by_cases c16 : t108 = true
  ·subst c16
   have H1 : (spec_l03Orders.j1 k1 l1 x5_1 x6_1 false l0_0) = some r := by rw [if_pos rfl] at H; exact H
   clear H
   have H := H1
   clear H1
   have H' := Aside0.mk H
   clear H
   try go_wp2
   replace HO_1 := Aside0.mk (Kd.V_drew HO_1.out)
   replace HO_5 := Aside0.mk (Kd.N_drew HO_5.out)
   replace BK101 := Aside0.mk (blk_drew BK101.out)
   replace HB := Aside0.mk (below_drew1 HB.out)
   refine start_ (n := 18) (S := fun w' => True) (ds := []) #[false, false, false, false, false, false, false, false, false, false, false, false, false, false, false, false, false, false] (by kernel_rfl) rfl rfl trivial (fun hHeld => ?_); refine with_tabW spec_l03Orders.tab7 spec_l03Orders.bits7 (fun HT_ HW_ => ?_)
   generalize wr.drew = w17 at HO_1 HO_5 BK101 HB hHeld ⊢
   refine pv_ 0 23 HT_ ?_
   refine pv_ 1 24 HT_ ?_
   refine ow_ 2 25 HT_ fun K hK => ?_
   refine goes_ Tryz.func41 (by kernel_rfl) rfl #[.slice A1 l1.length c1, .int .i64 x6_1] (by rfl) rfl rfl t1_ ?_
   with_reducible refine (spec_l01Has.calls k1 _ _ l1 x6_1 true _ ?side1 ?side2 A15.out).mono ?_
   (case side1 => repeat (first | exact (Kd.V_reads' HO_1.out).2.2 | (with_reducible refine Kd.C_alloc ?_ _) | (with_reducible refine Kd.C_drewN ?_ _) | (with_reducible refine Kd.C_drew ?_)))
   (case side2 => exact (Kd.V_reads' HO_1.out).2.1)
   rintro e w' ⟨rfl, ⟨nd, rfl⟩⟩
   refine ⟨_, rfl, ?_⟩
   refine hK.out _ _ trivial (fun hHeld => ?_)
   clear hK K
   refine nm_ ?_
   refine pv_ 3 26 HT_ ?_
   refine pv_ 4 27 HT_ ?_
   refine pw_ 5 28 HT_ ?_
   refine pw_ 6 29 HT_ ?_
   refine pw_ 7 30 HT_ ?_
   refine pw_ 8 31 HT_ ?_
   refine pw_ 9 32 HT_ ?_
   refine pw_ 10 33 HT_ ?_
   refine pw_ 11 34 HT_ ?_
   refine pw_ 12 35 HT_ ?_
   refine pw_ 13 36 HT_ ?_
   refine pw_ 14 37 HT_ ?_
   refine pw_ 15 38 HT_ ?_
   refine pw_ 16 39 HT_ ?_
   refine pv_ 17 40 HT_ ?_
   refine done_ (done_of HT_.out (by kernel_rfl)) ?_
   try go_wp2
   go_meet
   case rel => exact ⟨_, (false), t2_, H', ⟨by have := HK1.out; first | omega | exact Nat.le_refl _⟩, ⟨vb_ HO_1.out⟩, ⟨nb_ HO_5.out⟩, ⟨bb_ BK101.out⟩, ⟨gb_ HB.out⟩⟩
  replace c16 := Bool.eq_false_iff.mpr c16
  subst c16
  have H1 : (if 0 ≤ x6_1 then (if 0 ≤ (l1.length : Int) then (if (l1.length : Int) < (l0_0.length : Int) then (spec_l03Orders.j1 k1 l1 x5_1 x6_1 ((rd l0_0 x6_1) == (rd l0_0 (l1.length : Int))) l0_0) else (none)) else (none)) else (none)) = some r := by rw [if_neg (show ¬ (false = true) by decide)] at H; exact H
  clear H
  have H := H1
  clear H1
  replace H := id_ H
  obtain ⟨c18b0, H⟩ := H
  (first | rw [c18b0] | (simp only [i64_w, i32_w]; rw [c18b0]) | skip)
  replace H := ip_ H
  obtain ⟨c19, H⟩ := H
  have c19b0 := decide_eq_true c19
  have c19b1 : decide (0 ≤ l1.length) = true := decide_eq_true (by omega)
  clear c19
  replace H := ip_ H
  obtain ⟨c20, H⟩ := H
  have c20b0 := decide_eq_true c20
  have c20b1 : decide (l1.length < l0_0.length) = true := decide_eq_true (Int.ofNat_lt.mp c20)
  clear c20
  have H' := Aside0.mk H
  clear H
  try go_wp2
  replace HO_1 := Aside0.mk (Kd.V_drew HO_1.out)
  replace HO_5 := Aside0.mk (Kd.N_drew HO_5.out)
  replace BK101 := Aside0.mk (blk_drew BK101.out)
  replace HB := Aside0.mk (below_drew1 HB.out)
  obtain ⟨ad109, e109, hw109_0, hx109_0, p109, q109⟩ := at1_ HR0_0 HB x6_1
  cases e109
  have p110 : 0 ≤ ((l1.length : Int) : Int) := of_decide_eq_true t6_
  have q110 : (l1.length : Int) < (l0_0.length : Int) := of_decide_eq_true t6_
  obtain ⟨ad110, e110, hx110_0⟩ := Kd.at_int HR0_0.out (l1.length : Int) p110 q110
  have hw110_0 := hx110_0
  obtain rfl : ad109 = ad110 := (by injection e110)
  replace hx110_0 := hc_ HB hx110_0
  (try simp only [Go.IntWalk.toNatUp] at hx110_0)
  replace p110 := eq_true p110
  replace q110 := eq_true q110
  refine sr_ (n := 18) (S := fun w' => w'.cell? ⟨gb101, 0, none⟩ = some (.slice (some ad109) l0_0.length c0_0) ∧ w'.cell? (ad109.add (x6_1).toNat) = some (.int .i64 (rd l0_0 x6_1)) ∧ w'.cell? (ad109.add ((l1.length : Int)).toNat) = some (.int .i64 (rd l0_0 (l1.length : Int)))) (ds := []) ⟨(blk_cell BK101.out 0).trans rfl, (hc_ HB hw109_0), (hc_ HB hw110_0)⟩ spec_l03Orders.tab7 spec_l03Orders.bits7 fun hHeld HT_ HW_ => ?_
  generalize wr.drew = w21 at HO_1 HO_5 BK101 HB hx109_0 hx110_0 hHeld ⊢
  refine pv_ 0 23 HT_ ?_
  refine pv_ 1 24 HT_ ?_
  refine ow_ 2 25 HT_ fun K hK => ?_
  refine goes_ Tryz.func41 (by kernel_rfl) rfl #[.slice A1 l1.length c1, .int .i64 x6_1] (by rfl) rfl rfl t1_ ?_
  with_reducible refine (spec_l01Has.calls k1 _ _ l1 x6_1 false _ ?side1 ?side2 A15.out).mono ?_
  (case side1 => repeat (first | exact (Kd.V_reads' HO_1.out).2.2 | (with_reducible refine Kd.C_alloc ?_ _) | (with_reducible refine Kd.C_drewN ?_ _) | (with_reducible refine Kd.C_drew ?_)))
  (case side2 => exact (Kd.V_reads' HO_1.out).2.1)
  rintro e w' ⟨rfl, ⟨nd, rfl⟩⟩
  refine ⟨_, rfl, ?_⟩
  refine hK.out _ _ ⟨(blk_cell BK101.out 0).trans rfl, (hc_ HB hw109_0), (hc_ HB hw110_0)⟩ (fun hHeld => ?_)
  clear hK K
  refine nm_ ?_
  refine pv_ 3 26 HT_ ?_
  refine pv_ 4 27 HT_ ?_
  refine pv_ 5 28 HT_ ?_
  refine pv_ 7 30 HT_ ?_
  refine pv_ 10 33 HT_ ?_
  refine pv_ 12 35 HT_ ?_
  refine pv_ 13 36 HT_ ?_
  refine tv3n_ 6 29 HT_ HW_ hHeld ?_
  refine pv_ 8 31 HT_ ?_
  refine tv3n_ 9 32 HT_ HW_ hHeld ?_
  refine tv3n_ 11 34 HT_ HW_ hHeld ?_
  refine pv_ 14 37 HT_ ?_
  refine tv3n_ 15 38 HT_ HW_ hHeld ?_
  refine pv_ 16 39 HT_ ?_
  refine pv_ 17 40 HT_ ?_
  refine done_ (done_of HT_.out (by kernel_rfl)) ?_
  try go_wp2
  go_meet
  case rel => exact ⟨_, (((rd l0_0 x6_1) == (rd l0_0 (l1.length : Int)))), t2_, H', ⟨by have := HK1.out; first | omega | exact Nat.le_refl _⟩, ⟨vb_ HO_1.out⟩, ⟨nb_ HO_5.out⟩, ⟨bb_ BK101.out⟩, ⟨gb_ HB.out⟩⟩
 clear HC13
 try clear c1
 try clear p1
 try clear q1
 try clear hx1
 try clear c2
 try clear p2
 try clear c3
 try clear c3b0
 try clear c3b1
 try clear c3b2
 try clear c4
 try clear c5
 try clear p10
 try clear q10
 try clear hx10
 try clear p11
 try clear q11
 try clear hx11
 try clear c12
 try clear c12b0
 try clear c16
 try clear c18
 try clear c18b0
 try clear c19
 try clear c19b0
 try clear c19b1
 try clear c20
 try clear c20b0
 try clear c20b1
 try clear hcz14_0
 try clear hcz5_0
 try clear hcz9_0
 try clear hfz14_0
 try clear hfz5_0
 try clear hfz9_0
 try clear hx109_0
 try clear hx110_0
 try clear p109
 try clear p110
 try clear p2
 try clear q109
 try clear q110
 obtain ⟨kq, x40_12, rfl, HA, HJ12, HO_1, HO_5, BK101, HB⟩ := hcut
 cases kq with
 | zero => exact absurd HA.out (by simp [spec_l03Orders.j1])
 | succ kj12 =>
  have H := HA.out
  clear HA
  simp only [spec_l03Orders.j1] at H
  by_cases c22 : x40_12 = true
  rotate_left
  ·replace c22 := Bool.eq_false_iff.mpr c22
   subst c22
   have H1 : (spec_l03Orders.l0 kj12 l1 x5_1 (wrap64 (x6_1 + 1)) l0_0) = some r := by rw [if_neg (show ¬ (false = true) by decide)] at H; exact H
   clear H
   have H := H1
   clear H1
   have H' := Aside0.mk H
   clear H
   go_wp2
   go_roundg kj12
   case measure => have := HK1.out; have := HJ12.out; omega
   case rel => exact ⟨(x5_1), (wrap64 (x6_1 + 1)), t2_, H', ⟨by have := HK1.out; have := HJ12.out; omega⟩, ⟨vb_ HO_1.out⟩, ⟨nb_ HO_5.out⟩, ⟨bb_ BK101.out⟩, ⟨gb_ HB.out⟩⟩
  subst c22
  have H1 : ((spec_l01Own.f l1).bind fun t111 => ((some (([x6_1] : List Int) : List Int)).bind fun y114 => (if t111.length + y114.length < 17592186044416 then ((spec_l03Orders.f kj12 l0_0 (t111 ++ y114)).bind fun t120 => (if x5_1.length + t120.length < 5864062014805 then (spec_l03Orders.l0 kj12 l1 (x5_1 ++ t120) (wrap64 (x6_1 + 1)) l0_0) else (none))) else (none)))) = some r := by rw [if_pos rfl] at H; exact H
  clear H
  have H := H1
  clear H1
  replace H := bd_ H
  obtain ⟨t111, A23, H⟩ := H
  replace H := yb_ H
  obtain ⟨y114, Ny114, H⟩ := H
  replace H := ip_ H
  obtain ⟨c24, H⟩ := H
  have LMc24 := Aside0.mk c24
  clear c24
  obtain ⟨y117, hy117⟩ : ∃ y_ : List Int, y_ = (t111 ++ y114) := ⟨_, rfl⟩
  replace H : ((spec_l03Orders.f kj12 l0_0 y117).bind fun t120 => (if x5_1.length + t120.length < 5864062014805 then (spec_l03Orders.l0 kj12 l1 (x5_1 ++ t120) (wrap64 (x6_1 + 1)) l0_0) else (none))) = some r := y_ H
  have Ny117 := Aside0.mk hy117
  clear hy117
  replace H := bd_ H
  obtain ⟨t120, A25, H⟩ := H
  replace H := ip_ H
  obtain ⟨c26, H⟩ := H
  have LMc26 := Aside0.mk c26
  clear c26
  obtain ⟨y123, hy123⟩ : ∃ y_ : List (List Int), y_ = (x5_1 ++ t120) := ⟨_, rfl⟩
  replace H : (spec_l03Orders.l0 kj12 l1 y123 (wrap64 (x6_1 + 1)) l0_0) = some r := y_ H
  have Ny123 := Aside0.mk hy123
  clear hy123
  have H' := Aside0.mk H
  clear H
  obtain ⟨Ao27, co27, eo27⟩ := Kd.N_slice HO_5.out
  subst eo27
  try go_wp2
  replace HO_1 := Aside0.mk (Kd.V_drew HO_1.out)
  replace HO_5 := Aside0.mk (Kd.N_drew HO_5.out)
  replace BK101 := Aside0.mk (blk_drew BK101.out)
  replace HB := Aside0.mk (below_drew1 HB.out)
  refine start_ (n := 10) (S := fun w' => w'.cell? ⟨gb101, 0, none⟩ = some (.slice A0_0 l0_0.length c0_0)) (ds := []) #[false, false, false, false, false, false, false, false, false, false] (by kernel_rfl) rfl rfl ((blk_cell BK101.out 0).trans rfl) (fun hHeld => ?_); refine with_tabW spec_l03Orders.tab8 spec_l03Orders.bits8 (fun HT_ HW_ => ?_)
  generalize wc.drew = w28 at HO_1 HO_5 BK101 HB hHeld ⊢
  refine pv_ 0 41 HT_ ?_
  refine pv_ 2 43 HT_ ?_
  refine pv_ 4 45 HT_ ?_
  refine tv1_ 1 42 HT_ HW_ hHeld ?_
  refine join_ (σ := Value × Value) 4 #[true, true, true, true, true, true, false, false, false, false] (fun s_ => [(44, s_.1), (46, s_.2)]) (fun s_ w' => (w'.cell? ⟨gb101, 0, none⟩ = some (.slice A0_0 l0_0.length c0_0)) ∧ (Kd.R (Kd.int .i64) 2 w' w.heap.size (fun k_ => (w.heap.size ≤ k_) ∧ OB_ k_ s_.2) s_.1 t111) ∧ (Kd.R (Kd.int .i64) 2 w' w.heap.size (fun k_ => (w.heap.size ≤ k_) ∧ OB_ k_ s_.1) s_.2 y114) ∧ (Kd.V (Kd.int .i64) 2 w' w.heap.size (fun k_ => (P1_ k_ ∨ w.heap.size ≤ k_) ∧ OB_ k_ s_.1 ∧ OB_ k_ s_.2 ∧ OB_ k_ (.slice Ao27 x5_1.length co27) ∧ k_ ≠ gb101) (.slice A1 l1.length c1) l1) ∧ (Kd.N (Kd.slice 2 (Kd.int .i64)) 24 w' w.heap.size (fun k_ => (P1_ k_ ∨ w.heap.size ≤ k_) ∧ OB_ k_ s_.1 ∧ OB_ k_ s_.2 ∧ k_ ≠ gb101) (.slice Ao27 x5_1.length co27) x5_1) ∧ (w'.heap[gb101]? = some (.cells #[.slice A0_0 l0_0.length c0_0] 26 (0, 0))) ∧ (Below w.heap.size w w')) ?_ ?_
  rotate_left
  ·intro hCont
   refine two_ (i := 3) (j := 5) (Ni := some 44) (Nj := some 46) #[true, true, true, true, true, false, false, false, false, false] #[true, true, true, false, true, true, false, false, false, false] rfl rfl rfl rfl (two_of HT_.out (by kernel_rfl)) (by decide) (by decide) (fun K hK => ?_) (fun K hK => ?_)
   ·skip
    refine goes_ Tryz.func35 (by kernel_rfl) rfl #[.slice A1 l1.length c1] (by rfl) rfl rfl t1_ ?_
    with_reducible refine (spec_l01Own.calls _ _ l1 t111 _ ?side1 ?side2 A23.out).mono ?_
    (case side1 => repeat (first | exact (Kd.V_reads' HO_1.out).2.2 | (with_reducible refine Kd.C_alloc ?_ _) | (with_reducible refine Kd.C_drewN ?_ _) | (with_reducible refine Kd.C_drew ?_)))
    (case side2 => exact (Kd.V_reads' HO_1.out).2.1)
    rintro e w29 ⟨v112, rfl, ho0, hb⟩
    refine ⟨_, rfl, ?_⟩
    replace HO_1 := Aside0.mk (Kd.V_elder' (vb_ HO_1.out) (Kd.R_base ho0) hb)
    replace HO_5 := Aside0.mk (Kd.N_elder' (nb_ HO_5.out) (Kd.R_base ho0) hb)
    have HO113 := Aside0.mk (Kd.R_lower (Kd.R_newM (M := fun k_ => (w.heap.size ≤ k_)) ho0 (below_size (gb_ HB.out)) (fun k_ h_ => h_)) (below_size (gb_ HB.out)))
    replace BK101 := a2_ BK101 hb
    replace HB := b1_ HB hb
    (try clear hb ho0)
    refine hK.out _ _ ((blk_cell BK101.out 0).trans rfl) (fun hHeld => ?_)
    clear hK K
    refine nm_ ?_
    refine ow_ 5 46 HT_ fun K hK => ?_
    refine Kd.R_lit_step (Kd.int .i64) _ 2 ?hg (N := 46) ?hd (xs := ([x6_1] : List Int)) (inner := [.int .i64 x6_1]) (ok := fun _ => True) (okp := fun _ => True) ?hr ?hp (fun _ hk => hk) trivial (Below.refl _ _) (Nat.le_refl _) (by simp) ?_; (case hd => rfl); (case hg => rfl); (case hr => exact t3_); (case hp => exact (Reps.one (show Kd.M (Kd.int .i64) _ _ _ x6_1 [.int .i64 x6_1] from rfl) (Reps.none _ _)))
    intro v115 w30 ho31 hb hg_ hnew_
    clear hg_ hnew_
    (first | rw [← Ny114.out] at ho31 | (simp only [Int.reduceToNat] at ho31; rw [← Ny114.out] at ho31))
    have n0_ := Aside0.mk (Kd.V_elder' (vb_ HO_1.out) (Kd.R_base ho31) hb)
    have n1_ := Aside0.mk (Kd.N_elder' (nb_ HO_5.out) (Kd.R_base ho31) hb)
    have n2_ := a5_ HO113 ho31 hb
    have n3_ := Aside0.mk (Kd.R_lower (Kd.R_new' (Kd.R_newM (M := fun k_ => (w.heap.size ≤ k_)) ho31 (below_size (gb_ HB.out)) (fun k_ h_ => h_)) (Kd.R_lt (rb_ HO113.out))) (below_size (gb_ HB.out)))
    have n4_ := a2_ BK101 hb
    have n5_ := b1_ HB hb
    clear HO_1 HO_5 HO113 BK101 HB
    have HO_1 := n0_
    have HO_5 := n1_
    have HO113 := n2_
    have HO116 := n3_
    have BK101 := n4_
    have HB := n5_
    clear n0_ n1_ n2_ n3_ n4_ n5_ hb ho31
    refine hK.out _ _ ((blk_cell BK101.out 0).trans rfl) (fun hHeld => ?_)
    clear hK K
    refine nm_ ?_
    exact norm_ (by simp only [putAll, Act.put, List.setIfInBounds_toArray, List.set_cons_zero, List.set_cons_succ]) (hCont (v112, v115) _ ⟨hHeld, (rb_ (Kd.R_mono HO113.out (fun _ hk => ⟨hk.1.1, hk.2⟩))), (rb_ (Kd.R_mono HO116.out (fun _ hk => ⟨hk.1.1, hk.2⟩))), (vb_ (Kd.V_mono HO_1.out (fun _ hk => ⟨hk.1.1.1, ⟨hk.1.2, ⟨hk.2, ⟨hk.1.1.2.1, hk.1.1.2.2⟩⟩⟩⟩))), (nb_ (Kd.N_mono HO_5.out (fun _ hk => ⟨hk.1.1.1, ⟨hk.1.2, ⟨hk.2, hk.1.1.2⟩⟩⟩))), (bb_ BK101.out), (gb_ HB.out)⟩)
   ·skip
    refine Kd.R_lit_step (Kd.int .i64) _ 2 ?hg (N := 46) ?hd (xs := ([x6_1] : List Int)) (inner := [.int .i64 x6_1]) (ok := fun _ => True) (okp := fun _ => True) ?hr ?hp (fun _ hk => hk) trivial (Below.refl _ _) (Nat.le_refl _) (by simp) ?_; (case hd => rfl); (case hg => rfl); (case hr => exact t3_); (case hp => exact (Reps.one (show Kd.M (Kd.int .i64) _ _ _ x6_1 [.int .i64 x6_1] from rfl) (Reps.none _ _)))
    intro v115 w29 ho30 hb hg_ hnew_
    clear hg_ hnew_
    (first | rw [← Ny114.out] at ho30 | (simp only [Int.reduceToNat] at ho30; rw [← Ny114.out] at ho30))
    have n0_ := Aside0.mk (Kd.V_elder' (vb_ HO_1.out) (Kd.R_base ho30) hb)
    have n1_ := Aside0.mk (Kd.N_elder' (nb_ HO_5.out) (Kd.R_base ho30) hb)
    have n2_ := Aside0.mk (Kd.R_lower (Kd.R_newM (M := fun k_ => (w.heap.size ≤ k_)) ho30 (below_size (gb_ HB.out)) (fun k_ h_ => h_)) (below_size (gb_ HB.out)))
    have n3_ := a2_ BK101 hb
    have n4_ := b1_ HB hb
    clear HO_1 HO_5 BK101 HB
    have HO_1 := n0_
    have HO_5 := n1_
    have HO116 := n2_
    have BK101 := n3_
    have HB := n4_
    clear n0_ n1_ n2_ n3_ n4_ hb ho30
    refine hK.out _ _ ((blk_cell BK101.out 0).trans rfl) (fun hHeld => ?_)
    clear hK K
    refine nm_ ?_
    refine ow_ 3 44 HT_ fun K hK => ?_
    refine goes_ Tryz.func35 (by kernel_rfl) rfl #[.slice A1 l1.length c1] (by rfl) rfl rfl t1_ ?_
    with_reducible refine (spec_l01Own.calls _ _ l1 t111 _ ?side1 ?side2 A23.out).mono ?_
    (case side1 => repeat (first | exact (Kd.V_reads' HO_1.out).2.2 | (with_reducible refine Kd.C_alloc ?_ _) | (with_reducible refine Kd.C_drewN ?_ _) | (with_reducible refine Kd.C_drew ?_)))
    (case side2 => exact (Kd.V_reads' HO_1.out).2.1)
    rintro e w31 ⟨v112, rfl, ho0, hb⟩
    refine ⟨_, rfl, ?_⟩
    replace HO_1 := Aside0.mk (Kd.V_elder' (vb_ HO_1.out) (Kd.R_base ho0) hb)
    replace HO_5 := Aside0.mk (Kd.N_elder' (nb_ HO_5.out) (Kd.R_base ho0) hb)
    have HO113 := Aside0.mk (Kd.R_lower (Kd.R_new' (Kd.R_newM (M := fun k_ => (w.heap.size ≤ k_)) ho0 (below_size (gb_ HB.out)) (fun k_ h_ => h_)) (Kd.R_lt (rb_ HO116.out))) (below_size (gb_ HB.out)))
    replace HO116 := a5_ HO116 ho0 hb
    replace BK101 := a2_ BK101 hb
    replace HB := b1_ HB hb
    (try clear hb ho0)
    refine hK.out _ _ ((blk_cell BK101.out 0).trans rfl) (fun hHeld => ?_)
    clear hK K
    refine nm_ ?_
    exact norm_ (by simp only [putAll, Act.put, List.setIfInBounds_toArray, List.set_cons_zero, List.set_cons_succ]) (hCont (v112, v115) _ ⟨hHeld, (rb_ (Kd.R_mono HO113.out (fun _ hk => ⟨hk.1.1, hk.2⟩))), (rb_ (Kd.R_mono HO116.out (fun _ hk => ⟨hk.1.1, hk.2⟩))), (vb_ (Kd.V_mono HO_1.out (fun _ hk => ⟨hk.1.1.1, ⟨hk.2, ⟨hk.1.2, ⟨hk.1.1.2.1, hk.1.1.2.2⟩⟩⟩⟩))), (nb_ (Kd.N_mono HO_5.out (fun _ hk => ⟨hk.1.1.1, ⟨hk.2, ⟨hk.1.2, hk.1.1.2⟩⟩⟩))), (bb_ BK101.out), (gb_ HB.out)⟩)
  rintro ⟨v112, v115⟩ w32 ⟨hS_, h0_, h1_, h2_, h3_, h4_, h5_⟩
  have n0_ : Aside0 (Kd.R (Kd.int .i64) 2 w32 w.heap.size (fun k_ => (w.heap.size ≤ k_) ∧ OB_ k_ v115) v112 t111) := ⟨h0_⟩
  have n1_ : Aside0 (Kd.R (Kd.int .i64) 2 w32 w.heap.size (fun k_ => (w.heap.size ≤ k_) ∧ OB_ k_ v112) v115 y114) := ⟨h1_⟩
  have n2_ : Aside0 (Kd.V (Kd.int .i64) 2 w32 w.heap.size (fun k_ => (P1_ k_ ∨ w.heap.size ≤ k_) ∧ OB_ k_ v112 ∧ OB_ k_ v115 ∧ OB_ k_ (.slice Ao27 x5_1.length co27) ∧ k_ ≠ gb101) (.slice A1 l1.length c1) l1) := ⟨h2_⟩
  have n3_ : Aside0 (Kd.N (Kd.slice 2 (Kd.int .i64)) 24 w32 w.heap.size (fun k_ => (P1_ k_ ∨ w.heap.size ≤ k_) ∧ OB_ k_ v112 ∧ OB_ k_ v115 ∧ k_ ≠ gb101) (.slice Ao27 x5_1.length co27) x5_1) := ⟨h3_⟩
  have n4_ : Aside0 (w32.heap[gb101]? = some (.cells #[.slice A0_0 l0_0.length c0_0] 26 (0, 0))) := ⟨h4_⟩
  have n5_ : Aside0 (Below w.heap.size w w32) := ⟨h5_⟩
  clear HO_1 HO_5 BK101 HB h0_ h1_ h2_ h3_ h4_ h5_
  have HO113 := n0_
  have HO116 := n1_
  have HO_1 := n2_
  have HO_5 := n3_
  have BK101 := n4_
  have HB := n5_
  clear n0_ n1_ n2_ n3_ n4_ n5_
  have hHeld : w32.cell? ⟨gb101, 0, none⟩ = some (.slice A0_0 l0_0.length c0_0) := hS_
  obtain ⟨Ao34, co34, eo34⟩ := Kd.R_slice HO116.out
  (first | subst eo34 | (injection eo34 with f1_ f2_ f3_; have f4_ := f1_.symm; have f5_ := f3_.symm; clear f1_ f2_ f3_; subst f4_; subst f5_))
  refine nj_ ?_
  refine ow_ 6 47 HT_ fun K hK => ?_
  refine Kd.R_append_rows_step (Kd.int .i64) (w0 := w) w.heap.size (by rfl) (.tmp 44) (.tmp 46) 24 2 (.int .i64 0) 8 rfl Tryz.underlying24 info2 rfl (by decide) (by omega) v112 t111 y114 _ _ _ (fun k_ => (w.heap.size ≤ k_) ∧ OB_ k_ (.slice Ao34 y114.length co34)) (fun _ => False) rfl rfl ?aO ?aR (fun _ _ h => h) (fun _ h => h.elim) ?aF ?aB ?aS ?aL ?_
  (case aR => repeat (first | exact (Kd.R_reads' HO116.out).2.2 | (with_reducible refine Kd.C_alloc ?_ _) | (with_reducible refine Kd.C_drewN ?_ _) | (with_reducible refine Kd.C_drew ?_)))
  (case aB => exact (gb_ HB.out))
  (case aF => exact (fun k_ hk => ⟨(Nat.le_trans (below_size (gb_ HB.out)) hk), Kd.fresh' (Kd.R_lt (rb_ HO116.out)) k_ hk⟩))
  (case aO => exact (rb_ HO113.out))
  (case aS => exact (below_size (gb_ HB.out)))
  (case aL => have := LMc24.out; omega)
  intro v118 w33 ho hb hg hat
  rw [← Ny117.out] at ho
  have n0_ := Aside0.mk (Kd.V_afterv (ok := (fun k_ => (P1_ k_ ∨ w.heap.size ≤ k_) ∧ OB_ k_ (.slice Ao27 x5_1.length co27) ∧ OB_ k_ (.slice Ao34 y114.length co34) ∧ k_ ≠ gb101)) (vb_ (Kd.V_mono HO_1.out (fun _ hk => ⟨⟨hk.1, ⟨hk.2.2.2.1, ⟨hk.2.2.1, hk.2.2.2.2⟩⟩⟩, hk.2.1⟩))) hg hat)
  have n1_ := Aside0.mk (Kd.N_afterv (ok := (fun k_ => (P1_ k_ ∨ w.heap.size ≤ k_) ∧ OB_ k_ (.slice Ao34 y114.length co34) ∧ k_ ≠ gb101)) (nb_ (Kd.N_mono HO_5.out (fun _ hk => ⟨⟨hk.1, ⟨hk.2.2.1, hk.2.2.2⟩⟩, hk.2.1⟩))) hg hat)
  have n2_ := Aside0.mk (blk_grown (g := gb101) (o := .cells #[.slice A0_0 l0_0.length c0_0] 26 (0, 0)) (bb_ BK101.out) hg (Kd.R_ne HO113.out BK101.out (by decide)))
  have n3_ := Aside0.mk (Kd.R_after (ok := (fun k_ => (w.heap.size ≤ k_))) (rb_ HO116.out) hg hat)
  have n4_ := Aside0.mk (hb)
  have n5_ := Aside0.mk (ho)
  clear HO_1 HO_5 BK101 HO116 HB HO113
  have HO_1 := n0_
  have HO_5 := n1_
  have BK101 := n2_
  have HO116 := n3_
  have HB := n4_
  have HO119 := n5_
  clear n0_ n1_ n2_ n3_ n4_ n5_ ho hb hg hat
  obtain ⟨Ao35, co35, eo35⟩ := Kd.R_slice HO119.out
  (first | subst eo35 | (injection eo35 with f1_ f2_ f3_; have f4_ := f1_.symm; have f5_ := f3_.symm; clear f1_ f2_ f3_; subst f4_; subst f5_))
  refine hK.out _ _ ((blk_cell BK101.out 0).trans rfl) (fun hHeld => ?_)
  clear hK K
  refine nm_ ?_
  refine ow_ 7 48 HT_ fun K hK => ?_
  refine goes_ Tryz.func55 (by kernel_rfl) rfl #[.agg #[.slice A0_0 l0_0.length c0_0], .slice Ao35 y117.length co35] (by rfl) rfl rfl t1_ ?_
  with_reducible refine (ih kj12 (by have := HK1.out; have := HJ12.out; omega) _ _ l0_0 (fun k_ => some k_ = (.slice Ao35 y117.length co35 : Value).ownBlock) _ _ y117 t120 _ ?side1 ?side2 ?side3 A25.out).mono ?_
  (case side1 => exact c2_ HR0_0 HB)
  (case side2 => exact HC0_0.out)
  (case side3 => exact Kd.R_V (Kd.R_tight rfl (Kd.R_types (Kd.R_apart' (HO119.out) (Kd.N_typed HO_5.out) (by decide)) BK101.out (by decide))))
  rintro e w36 ⟨v121, rfl, ho0, hb⟩
  refine ⟨_, rfl, ?_⟩
  replace HO_1 := Aside0.mk (Kd.V_elder' (vb_ HO_1.out) (Kd.N_base ho0) hb)
  have HO122 := Aside0.mk (Kd.N_lower (Kd.N_mono (ok' := fun k_ => (P1_ k_ ∨ w.heap.size ≤ k_) ∧ OB_ k_ (.slice Ao27 x5_1.length co27) ∧ OB_ k_ (.slice Ao34 y114.length co34) ∧ k_ ≠ gb101) ho0 (fun k_ hk_ => ⟨Or.elim hk_ (fun hs_ => (.inr (((Kd.R_types (Kd.R_apart' (HO119.out) (Kd.N_typed HO_5.out) (by decide)) BK101.out (by decide)).1 k_ hs_.symm).1.1.1))) (fun hn_ => (.inr (Nat.le_trans (below_size (gb_ HB.out)) hn_))), Or.elim hk_ (fun hs_ => ((Kd.R_types (Kd.R_apart' (HO119.out) (Kd.N_typed HO_5.out) (by decide)) BK101.out (by decide)).1 k_ hs_.symm).1.2) (fun hn_ => (Kd.fresh' (Kd.N_lt (nb_ HO_5.out)) k_ hn_)), Or.elim hk_ (fun hs_ => ((Kd.R_types (Kd.R_apart' (HO119.out) (Kd.N_typed HO_5.out) (by decide)) BK101.out (by decide)).1 k_ hs_.symm).1.1.2) (fun hn_ => (Kd.fresh' (Kd.R_lt (rb_ HO116.out)) k_ hn_)), Or.elim hk_ (fun hs_ => ((Kd.R_types (Kd.R_apart' (HO119.out) (Kd.N_typed HO_5.out) (by decide)) BK101.out (by decide)).1 k_ hs_.symm).2) (fun hn_ => (Kd.freshB (g := gb101) (o := .cells #[.slice A0_0 l0_0.length c0_0] 26 (0, 0)) (bb_ BK101.out) k_ hn_))⟩)) (below_size (gb_ HB.out)))
  replace HO_5 := Aside0.mk (Kd.N_elder' (nb_ HO_5.out) (Kd.N_base ho0) hb)
  replace HO116 := a1_ HO116 hb
  replace HO119 := a1_ HO119 hb
  replace BK101 := a2_ BK101 hb
  replace HB := b1_ HB hb
  (try clear hb ho0)
  obtain ⟨Ao38, co38, eo38⟩ := Kd.N_slice HO122.out
  (first | subst eo38 | (injection eo38 with f1_ f2_ f3_; have f4_ := f1_.symm; have f5_ := f3_.symm; clear f1_ f2_ f3_; subst f4_; subst f5_))
  refine hK.out _ _ ((blk_cell BK101.out 0).trans rfl) (fun hHeld => ?_)
  clear hK K
  refine nm_ ?_
  refine ow_ 8 49 HT_ fun K hK => ?_
  refine Kd.N_append_rows_step (Kd.slice 2 (Kd.int .i64)) (w0 := w) w.heap.size (by rfl) (.tmp 41) (.tmp 48) 73 24 (.slice none 0 0) 24 rfl Tryz.underlying73 info24 rfl (by decide) (by omega) (.slice Ao27 x5_1.length co27) x5_1 t120 _ _ _ (fun k_ => (P1_ k_ ∨ w.heap.size ≤ k_) ∧ OB_ k_ (.slice Ao34 y114.length co34) ∧ k_ ≠ gb101) (fun k_ => ((fun k_ => (P1_ k_ ∨ w.heap.size ≤ k_) ∧ OB_ k_ (.slice Ao34 y114.length co34) ∧ k_ ≠ gb101)) k_ ∧ OB_ k_ (.slice Ao27 x5_1.length co27)) rfl rfl ?aO ?aR (fun _ hk => hk) ?aF ?aB ?aS ?aL ?_
  (case aR => exact (by skip; exact Kd.N_F (Kd.N_mono (ok' := (fun k_ => ((fun k_ => (P1_ k_ ∨ w.heap.size ≤ k_) ∧ OB_ k_ (.slice Ao34 y114.length co34) ∧ k_ ≠ gb101)) k_ ∧ OB_ k_ (.slice Ao27 x5_1.length co27))) (HO122.out) (fun k_ hk => ⟨⟨hk.1, ⟨hk.2.2.1, hk.2.2.2⟩⟩, hk.2.1⟩))))
  (case aB => exact (gb_ HB.out))
  (case aF => exact (fun k_ hk => ⟨(.inr (Nat.le_trans (below_size (gb_ HB.out)) hk)), Kd.fresh' (Kd.R_lt (rb_ HO116.out)) k_ hk, Kd.freshB (g := gb101) (o := .cells #[.slice A0_0 l0_0.length c0_0] 26 (0, 0)) (bb_ BK101.out) k_ hk⟩))
  (case aO => exact (nb_ (Kd.N_mono HO_5.out (fun _ hk => ⟨hk.1.1.1, ⟨hk.1.1.2.1, hk.1.1.2.2⟩⟩))))
  (case aS => exact (below_size (gb_ HB.out)))
  (case aL => have := LMc26.out; omega)
  intro v124 w37 ho hb hg hat
  rw [← Ny123.out] at ho
  have n0_ := Aside0.mk (Kd.V_afterv (ok := (fun k_ => (P1_ k_ ∨ w.heap.size ≤ k_) ∧ OB_ k_ (.slice Ao34 y114.length co34) ∧ OB_ k_ (.slice Ao35 y117.length co35) ∧ OB_ k_ (.slice Ao38 t120.length co38) ∧ k_ ≠ gb101)) (vb_ (Kd.V_mono HO_1.out (fun _ hk => ⟨⟨hk.1.1.1, ⟨hk.1.1.2.2.1, ⟨hk.1.2, ⟨hk.2, hk.1.1.2.2.2⟩⟩⟩⟩, hk.1.1.2.1⟩))) hg hat)
  have n1_ := Aside0.mk (blk_grown (g := gb101) (o := .cells #[.slice A0_0 l0_0.length c0_0] 26 (0, 0)) (bb_ BK101.out) hg (Kd.N_ne HO_5.out BK101.out (by decide)))
  have n2_ := Aside0.mk (Kd.R_over' (rb_ HO116.out) (Kd.N_typed (nb_ HO_5.out)) (by decide) hg)
  have n3_ := Aside0.mk (Kd.R_over' (rb_ HO119.out) (Kd.N_typed (nb_ HO_5.out)) (by decide) hg)
  have n4_ := Aside0.mk (Kd.N_afterv (ok := (fun k_ => (P1_ k_ ∨ w.heap.size ≤ k_) ∧ OB_ k_ (.slice Ao34 y114.length co34) ∧ k_ ≠ gb101)) (nb_ (Kd.N_mono HO122.out (fun _ hk => ⟨⟨hk.1, ⟨hk.2.2.1, hk.2.2.2⟩⟩, hk.2.1⟩))) hg hat)
  have n5_ := Aside0.mk (hb)
  have n6_ := Aside0.mk (ho)
  clear HO_1 BK101 HO116 HO119 HO122 HB HO_5
  have HO_1 := n0_
  have BK101 := n1_
  have HO116 := n2_
  have HO119 := n3_
  have HO122 := n4_
  have HB := n5_
  have HO125 := n6_
  clear n0_ n1_ n2_ n3_ n4_ n5_ n6_ ho hb hg hat
  refine hK.out _ _ ((blk_cell BK101.out 0).trans rfl) (fun hHeld => ?_)
  clear hK K
  refine nm_ ?_
  refine pv_ 9 5 HT_ ?_
  refine done_ (done_of HT_.out (by kernel_rfl)) ?_
  try go_wp2
  go_roundg kj12
  case measure => have := HK1.out; have := HJ12.out; omega
  case rel => exact ⟨(y123), (wrap64 (x6_1 + 1)), t2_, H', ⟨by have := HK1.out; have := HJ12.out; omega⟩, ⟨vb_ (Kd.V_mono HO_1.out (fun _ hk => ⟨hk.1.1, ⟨hk.2, hk.1.2.2.2.2⟩⟩))⟩, ⟨nb_ (Kd.N_mono HO125.out (fun _ hk => ⟨hk.1, hk.2.2⟩))⟩, ⟨bb_ BK101.out⟩, ⟨gb_ HB.out⟩⟩
end Go.Proofs.YtnkndaapamenmaaGreat.P
set_option linter.unusedVariables false
set_option linter.unusedSimpArgs false
namespace Go.Proofs.YtnkndaapamenmaaGreat.P
open Go.RowKit Go.Proofs.YtnkndaapamenmaaGreatW.PrintWords Go.Proofs.YtnkndaapamenmaaGreatW.PrintLast Go.Proofs.YtnkndaapamenmaaGreatW.PrintMore CC
def allOf (s C : List Int) (n : Nat) : List (List Int) := (C.take n).map fun x => dig8 s x
theorem take_rdO {d : List Int} {n : Nat} (hn : n < d.length) : d.take (n + 1) = d.take n ++ [rd d (n : Int)] := by
  rw [List.take_add_one]
  simp [rd, List.getD_eq_getElem?_getD, hn]
theorem flat8_of {s C : List Int} {n : Nat} (h : n < C.length) : flat8 (allOf s C (n + 1)) = flat8 (allOf s C n) ++ nums .u8 (dig8 s (rd C (n : Int))) := by
  simp [flat8, allOf, take_rdO h]
theorem code_rdO {s c : List Int} (hc : c.all (isW s) = true) {n : Nat} (h : n < c.length) : 0 ≤ rd c (n : Int) ∧ rd c (n : Int) < prd s := by
  have : rd c (n : Int) = c[n] := by simp [rd, List.getD_eq_getElem?_getD, h]
  rw [this, ← isW_iff]
  exact List.all_eq_true.1 hc _ (List.getElem_mem h)
set_option maxHeartbeats 4000000 in
set_option maxRecDepth 100000 in
theorem digitsOfAll_calls (A : Option Addr) (c : Nat) (s : List Int) (A1 : Option Addr) (c1 : Nat) (C : List Int) (w : World) (hr : Kd.C (Kd.int .i64) w A s.length s) (hc : s.length ≤ c) (hr1 : Kd.C (Kd.int .i64) w A1 C.length C) (hc1 : C.length ≤ c1) (hs : isSp s = true) (hC : C.all (isW s) = true) (hCl : C.length ≤ 1048576) :
    Calls Tryz.prog 47 #[.agg #[.slice A s.length c], .slice A1 C.length c1] w
      fun e w' => ∃ v, e = .returned v ∧ w'.ownsRow w.heap.size 66 8 v C.length (flat8 (allOf s C C.length)) ∧ Below w.heap.size w w' := by
  have huS := Tryz.underlying26
  have huD := Tryz.underlying66
  have HR := Aside0.mk hr
  have HR1 := Aside0.mk hr1
  have HS := Aside0.mk hs
  have HC := Aside0.mk hC
  have p1 := isSp_prd hs
  clear hr hr1 hs hC
  obtain ⟨i0, hi, hz0, hz1, hz2⟩ := info_parts infoD
  have HI := Aside0.mk (And.intro hi (And.intro hz0 (And.intro hz1 hz2)))
  clear hi hz0 hz1 hz2
  go_enter Tryz.func47, Tryz.ntmps47
  go_wp2_with fail
  have hcell : ((w.alloc (.cells #[.slice A s.length c] 26)).alloc (.cells #[] 66)).heap[w.heap.size]? = some (.cells #[.slice A s.length c] 26 (0, 0)) := blk_alloc (blk_new _ _) _
  have hB : Below w.heap.size w ((w.alloc (.cells #[.slice A s.length c] 26)).alloc (.cells #[] 66)) := ((Below.refl _ _).alloc (Nat.le_refl _) _).alloc (by simp) _
  have hO : ((w.alloc (.cells #[.slice A s.length c] 26)).alloc (.cells #[] 66)).ownsRow w.heap.size 66 8 (.slice (some ⟨w.heap.size + 1, 0, none⟩) 0 0) 0 [] :=
    ⟨rfl, .inr ⟨w.heap.size + 1, 0, #[], rfl, by omega, by simpa using blk_new (w.alloc (.cells #[.slice A s.length c] 26)) (.cells #[] 66), by omega, by unfold maxLen; omega, rfl, rfl⟩⟩
  have K1 := Aside0.mk hcell
  have B1 := Aside0.mk hB
  have O1 := Aside0.mk hO
  clear hcell hB hO
  go_loopw [5, 11] (fun v i W => ∃ (n : Nat), n ≤ C.length ∧ i = .int .i64 n ∧ Aside0 (W.ownsRow w.heap.size 66 8 v n (flat8 (allOf s C n))) ∧ Aside0 (W.heap[w.heap.size]? = some (.cells #[.slice A s.length c] 26 (0, 0))) ∧ Aside0 (Below w.heap.size w W)) (fun _ i _ => C.length - (intOf i).toNat)
  case atStart => exact ⟨0, by omega, rfl, ⟨O1.out⟩, K1, B1⟩
  case round =>
    obtain ⟨n, hn, rfl, HO, HK, HB⟩ := hrel
    clear K1 B1 O1
    by_cases hlt : n < C.length
    · obtain ⟨ad1, e1, _⟩ := Kd.at_int HR1.out (n : Int) (by omega) (by omega)
      subst e1
      have hx := rd_cell HR1.out HB.out n hlt
      obtain ⟨c0, c1'⟩ := code_rdO HC.out hlt
      have F8 := Aside0.mk (flat8_of (s := s) hlt)
      generalize rd C (n : Int) = x at *
      have hcz : wr.cell? ⟨w.heap.size, 0, none⟩ = some (.slice A s.length c) := blk_cell HK.out 0
      go_wp2_with fail
      refine (digitsOf_calls A c s x _ (Kd.C_below HR.out HB.out) hc HS.out (by omega) (by omega)).mono ?_
      rintro e w2 ⟨rfl, hb2⟩
      have O2 := Aside0.mk (pw_own_below HO.out hb2)
      have C2 := Aside0.mk (blk_below HK.out hb2)
      have B2 := Aside0.mk (below_then HB.out HB.out.size hb2)
      clear HO HK HB hcz hb2 hx
      have E8 := Aside0.mk (dig8_length s x)
      have hd8 : dloop s s.length x (List.replicate 8 0) = dig8 s x := rfl
      rw [hd8]
      clear hd8
      generalize dig8 s x = d at *
      obtain ⟨y0, y1, y2, y3, y4, y5, y6, y7, rfl⟩ := eight E8.out
      have ea : arr8 [y0, y1, y2, y3, y4, y5, y6, y7] = .agg #[.int .u8 y0, .int .u8 y1, .int .u8 y2, .int .u8 y3, .int .u8 y4, .int .u8 y5, .int .u8 y6, .int .u8 y7] := rfl
      rw [ea]
      clear ea
      go_wp2_with (at_builtin; obtain ⟨hi, hz0, hz1, hz2⟩ := HI.out; refine wpList_append_own _ rfl _ _ 63 rfl w.heap.size 66 i0 (.agg #[.int .u8 0, .int .u8 0, .int .u8 0, .int .u8 0, .int .u8 0, .int .u8 0, .int .u8 0, .int .u8 0]) 8 8 Tryz.underlying63 hi hz0 hz1 hz2 rfl (by decide) _ n (flat8 (allOf s C n)) rfl (O2.out.alloc _) ⟨w2.heap.size, 0, none⟩ 1 1 [.int .u8 y0, .int .u8 y1, .int .u8 y2, .int .u8 y3, .int .u8 y4, .int .u8 y5, .int .u8 y6, .int .u8 y7] rfl ?c0 ?c1 ?c2 ?c3 ?c4 ?c5 ?_; clear hi hz0 hz1 hz2)
      case c0 => rfl
      case c1 =>
        intro j u hj
        have hb := blk_cell (blk_new w2 (.cells #[.int .u8 y0, .int .u8 y1, .int .u8 y2, .int .u8 y3, .int .u8 y4, .int .u8 y5, .int .u8 y6, .int .u8 y7] 66)) j
        rw [add_plain, hb]
        simpa using hj
      case c2 => intro u hu; simp only [List.mem_cons, List.not_mem_nil, or_false] at hu; rcases hu with rfl | rfl | rfl | rfl | rfl | rfl | rfl | rfl <;> rfl
      case c3 => unfold maxLen; omega
      case c4 => omega
      case c5 => have := B2.out.size; simp; omega
      intro v' w3 O3 G3 _
      have O4 : Aside0 (w3.ownsRow w.heap.size 66 8 v' (n + 1) (flat8 (allOf s C (n + 1)))) := ⟨by rw [F8.out]; exact O3⟩
      have C3 := Aside0.mk (blk_grown (blk_alloc C2.out _) G3 (own_ne O2.out C2.out (by decide)))
      have B3 := Aside0.mk (pw_below_grown (below_alloc B2.out _) _ (by have := B2.out.size; simp; omega) G3 (fun k hk => own_base O2.out k hk))
      clear O3 G3 O2 C2 B2 F8 E8
      go_wp2
      go_roundw
      case rel => exact ⟨n + 1, by omega, by go_num, O4, C3, B3⟩
      case measure => simp [intOf]; omega
    · go_wp2
      go_ret
      have hn : n = C.length := by omega
      subst hn
      exact ⟨_, rfl, HO.out, HB.out⟩
end Go.Proofs.YtnkndaapamenmaaGreat.P
namespace Go.Proofs.YtnkndaapamenmaaGreat.P
open Go.RowKit Go.Proofs.YtnkndaapamenmaaGreatW.PrintWords Go.Proofs.YtnkndaapamenmaaGreatW.PrintLast Go.Proofs.YtnkndaapamenmaaGreatW.PrintMore
attribute [local go_sem] max2_int min2_int max_two min_two max_three min_three max_four min_four
set_option linter.unusedVariables false
set_option linter.unusedSimpArgs false
def spec_l01DrawOf.l0 : Nat → Int → Int → Int → List Int → Int → Int → List Int → Option (List Int × Int × Int)
  | 0, _, _, _, _, _, _, _ => none
  | k + 1, x1, x6, x7, x1000, x1001, x1002, x112000 => if x7 > 0 then (if x6 = 0 then ((spec_l01Pick.f x1000 x1001 x1002 (([2, 2, 3, 4] : List Int))).bind fun bt121 => ((spec_l01N.f k x112000).bind fun t124 => (if (wrap64 (t124 * bt121.1)) > x1 then (if (x112000.length : Int) = 0 then (if x112000.length < 17592186044416 then (some ((x112000 ++ [2]), bt121.2.1, bt121.2.2)) else (none)) else (some (x112000, bt121.2.1, bt121.2.2))) else (if x112000.length < 17592186044416 then (spec_l01DrawOf.l0 k x1 x6 (wrap64 (x7 - 1)) x1000 bt121.2.1 bt121.2.2 (x112000 ++ [bt121.1])) else (none))))) else ((spec_l01N.f k x112000).bind fun t131 => (if (wrap64 (t131 * x6)) > x1 then (if (x112000.length : Int) = 0 then (if x112000.length < 17592186044416 then (some ((x112000 ++ [2]), x1001, x1002)) else (none)) else (some (x112000, x1001, x1002))) else (if x112000.length < 17592186044416 then (spec_l01DrawOf.l0 k x1 x6 (wrap64 (x7 - 1)) x1000 x1001 x1002 (x112000 ++ [x6])) else (none))))) else (if (x112000.length : Int) = 0 then (if x112000.length < 17592186044416 then (some ((x112000 ++ [2]), x1001, x1002)) else (none)) else (some (x112000, x1001, x1002)))
def spec_l01DrawOf.f (k : Nat) (s0_0 : List Int) (s0_1 : Int) (s0_2 : Int) (a1 : Int) : Option (List Int × Int × Int) := (spec_l01Pick.f s0_0 s0_1 s0_2 (([0, 2, 2, 3, 3] : List Int))).bind fun bt108 => ((spec_l01Next.f s0_0 bt108.2.1 bt108.2.2 8).bind fun bt112 => (spec_l01DrawOf.l0 k a1 bt108.1 (wrap64 (1 + bt112.1)) s0_0 bt112.2.1 bt112.2.2 (([] : List Int))))
set_option maxHeartbeats 8000000 in
set_option maxRecDepth 100000 in
theorem spec_l01DrawOf.calls (k : Nat) (g : Nat) (s0_0 : List Int) (s0_1 : Int) (s0_2 : Int) (a1 : Int) (r1 : List Int) (r2 : Int) (r3 : Int) (w0 w : World) (hI : IsS93 w0 w g s0_0 s0_1 s0_2) (hB : Below w0.heap.size w0 w) (h : spec_l01DrawOf.f k s0_0 s0_1 s0_2 a1 = some (r1, r2, r3)) :
  Calls Tryz.prog 50 #[.pointer (some ⟨g, 0, none⟩), .int .i64 a1] w fun e w' => ∃ v0_ : Value, e = .returned (.agg #[v0_]) ∧ Kd.R (Kd.int .i64) 2 w' w.heap.size (fun _ => True) v0_ r1 ∧ IsS93 w0 w' g s0_0 r2 r3 ∧ Below w0.heap.size w0 w' ∧ KeepBut w w' g none := by
 have hu26 := Tryz.underlying26
 have HI0 := Aside0.mk hI
 have HK := Aside0.mk (KeepBut.refl w g none)
 have HL := Aside0.mk hB.size
 clear hI
 have HW0 := Aside0.mk hB.size
 have HB := Aside0.mk hB
 clear hB
 have H := h
 clear h
 unfold spec_l01DrawOf.f at H
 obtain ⟨y102, hy102⟩ : ∃ y_ : List Int, y_ = (([] : List Int)) := ⟨_, rfl⟩
 replace H : ((spec_l01Pick.f s0_0 s0_1 s0_2 (([0, 2, 2, 3, 3] : List Int))).bind fun bt108 => ((spec_l01Next.f s0_0 bt108.2.1 bt108.2.2 8).bind fun bt112 => (spec_l01DrawOf.l0 k a1 bt108.1 (wrap64 (1 + bt112.1)) s0_0 bt112.2.1 bt112.2.2 y102))) = some (r1, r2, r3) := y_ H
 have Ny102 := Aside0.mk hy102
 clear hy102
 obtain ⟨y105, hy105⟩ : ∃ y_ : List Int, y_ = (([0, 2, 2, 3, 3] : List Int)) := ⟨_, rfl⟩
 replace H : ((spec_l01Pick.f s0_0 s0_1 s0_2 y105).bind fun bt108 => ((spec_l01Next.f s0_0 bt108.2.1 bt108.2.2 8).bind fun bt112 => (spec_l01DrawOf.l0 k a1 bt108.1 (wrap64 (1 + bt112.1)) s0_0 bt112.2.1 bt112.2.2 y102))) = some (r1, r2, r3) := y_ H
 have Ny105 := Aside0.mk hy105
 clear hy105
 replace H := bd_ H
 obtain ⟨⟨t108, t109, t110⟩, A3, H⟩ := H
 try dsimp only at H
 replace H := bd_ H
 obtain ⟨⟨t112, t113, t114⟩, A4, H⟩ := H
 try dsimp only at H
 have H' := Aside0.mk H
 clear H
 go_enter Tryz.func50, Tryz.ntmps50
 go_wp2_with (first | ((with_reducible refine gate_dst (N := 4) rfl ?_); refine bx_ (N := 4) (cs := #[.slice none 0 0]) (t := 26) rfl rfl ?_; intro gb101 hg w5 hbox hb; have n0_ := i1_ HI0 hb; have n1_ := k1_ HK hb; have n2_ := b1_ HB hb; have n3_ := Aside0.mk (hbox); have n4_ := gk_ hg HK; have n5_ := Aside0.mk ((Nat.le_trans HW0.out (by rw [hg]; exact (keep_size (w := w) (g := g) (row := none) (kb_ HK)) : w.heap.size ≤ gb101) : w0.heap.size ≤ gb101)); have n6_ := il_ hg HI0; have n7_ := ir_ hg HI0; clear HI0 HK HB; have HI0 := n0_; have HK := n1_; have HB := n2_; have BK101 := n3_; have GW101 := n4_; have GE101 := n5_; have NB0_101 := n6_; have NB101_0 := n7_; clear n0_ n1_ n2_ n3_ n4_ n5_ n6_ n7_ hb hbox hg) | ((with_reducible refine gate_dst (N := 9) rfl ?_); refine Kd.R_lit (Kd.int .i64) _ 2 ?hg (N := 9) ?hd (xs := ([] : List Int)) (inner := []) (ok := fun _ => True) (okp := fun _ => True) ?hr ?hp (fun _ hk => hk) trivial (Below.refl _ _) (Nat.le_refl _) (by simp) ?_; (case hd => rfl); (case hg => rfl); (case hr => exact t3_); (case hp => exact (Reps.none _ _)); intro v103 w6 ho7 hb hg_ hnew_; clear hg_ hnew_; (first | rw [← Ny102.out] at ho7 | (simp only [Int.reduceToNat] at ho7; rw [← Ny102.out] at ho7)); have HO104 := Aside0.mk (Kd.R_lower ho7 (keep_size (w := w) (g := g) (row := none) (kb_ HK))); replace HI0 := i1_ HI0 hb; replace BK101 := a2_ BK101 hb; replace HK := k1_ HK hb; replace HB := b1_ HB hb; clear hb ho7; obtain ⟨Ao8, co8, eo8⟩ := Kd.R_slice HO104.out; subst eo8) | ((with_reducible refine gate_dst (N := 12) rfl ?_); refine Kd.R_lit (Kd.int .i64) _ 2 ?hg (N := 12) ?hd (xs := ([0, 2, 2, 3, 3] : List Int)) (inner := [.int .i64 0, .int .i64 2, .int .i64 2, .int .i64 3, .int .i64 3]) (ok := fun _ => True) (okp := fun _ => True) ?hr ?hp (fun _ hk => hk) trivial (Below.refl _ _) (Nat.le_refl _) (by simp) ?_; (case hd => rfl); (case hg => rfl); (case hr => exact t3_); (case hp => exact (Reps.one (show Kd.M (Kd.int .i64) _ _ _ 0 [.int .i64 0] from rfl) (Reps.one (show Kd.M (Kd.int .i64) _ _ _ 2 [.int .i64 2] from rfl) (Reps.one (show Kd.M (Kd.int .i64) _ _ _ 2 [.int .i64 2] from rfl) (Reps.one (show Kd.M (Kd.int .i64) _ _ _ 3 [.int .i64 3] from rfl) (Reps.one (show Kd.M (Kd.int .i64) _ _ _ 3 [.int .i64 3] from rfl) (Reps.none _ _))))))); intro v106 w9 ho10 hb hg_ hnew_; clear hg_ hnew_; (first | rw [← Ny105.out] at ho10 | (simp only [Int.reduceToNat] at ho10; rw [← Ny105.out] at ho10)); have HO107 := Aside0.mk (Kd.R_lower (Kd.R_new' ho10 (Kd.R_lt (rb_ HO104.out))) (keep_size (w := w) (g := g) (row := none) (kb_ HK))); replace HO104 := a5_ HO104 ho10 hb; replace HI0 := i1_ HI0 hb; replace BK101 := a2_ BK101 hb; replace HK := k1_ HK hb; replace HB := b1_ HB hb; clear hb ho10; obtain ⟨Ao11, co11, eo11⟩ := Kd.R_slice HO107.out; subst eo11) | ((with_reducible refine gate_callee (f := 51) rfl ?_); refine gl_ (some 13) rfl rfl Tryz.func51 #[.pointer (some ⟨g, 0, none⟩), .slice Ao11 y105.length co11] rfl ?_; (with_reducible refine (spec_l01Pick.calls g s0_0 s0_1 s0_2 _ _ y105 t108 t109 t110 w0 _ ?side1 ?side2 ?side3 ?side4 ?side5 A3.out).mono ?_); (case side1 => exact i_ HI0); (case side2 => exact gb_ HB.out); (case side3 => exact c1_ HO107); (case side4 => exact (Kd.R_reads' HO107.out).2.1); (case side5 => exact far_slice (IsS93.own_ne HI0.out HO107.out (by decide))); rintro e w12 ⟨rfl, hi, hb, hk⟩; refine ⟨_, rfl, ?_⟩; replace BK101 := kx_ BK101 NB101_0 hk; replace HO104 := kr_ HI0 HO104 hk; replace HO107 := kr_ HI0 HO107 hk; replace HK := Aside0.mk (KeepBut.trans (kb_ HK) hk (.inl rfl)); replace HB := Aside0.mk (hb); replace HI0 := Aside0.mk (hi); (try clear hb); (try clear hb2); (try clear hk); (try clear hi)) | ((with_reducible refine gate_dst (N := 5) rfl ?_); refine bx_ (N := 5) (cs := #[.slice none 0 0]) (t := 26) rfl rfl ?_; intro gb111 hg w13 hbox hb; have n0_ := a1_ HO104 hb; have n1_ := a1_ HO107 hb; have n2_ := i1_ HI0 hb; have n3_ := a2_ BK101 hb; have n4_ := k1_ HK hb; have n5_ := b1_ HB hb; have n6_ := Aside0.mk (hbox); have n7_ := gk_ hg HK; have n8_ := Aside0.mk ((Nat.le_trans HW0.out (by rw [hg]; exact (keep_size (w := w) (g := g) (row := none) (kb_ HK)) : w.heap.size ≤ gb111) : w0.heap.size ≤ gb111)); have n9_ := nl_ hg BK101; have n10_ := nr_ hg BK101; have n11_ := il_ hg HI0; have n12_ := ir_ hg HI0; clear HO104 HO107 HI0 BK101 HK HB; have HO104 := n0_; have HO107 := n1_; have HI0 := n2_; have BK101 := n3_; have HK := n4_; have HB := n5_; have BK111 := n6_; have GW111 := n7_; have GE111 := n8_; have NB101_111 := n9_; have NB111_101 := n10_; have NB0_111 := n11_; have NB111_0 := n12_; clear n0_ n1_ n2_ n3_ n4_ n5_ n6_ n7_ n8_ n9_ n10_ n11_ n12_ hb hbox hg; have hnb14 := NB111_101.out; have hnc14 := NB101_111.out; have hnb15 := NB111_0.out; have hnc15 := NB0_111.out; have hcz16_0 := hz_ BK111; have hfz16_0 := blk_frozen BK111.out 0) | ((with_reducible refine gate_callee (f := 52) rfl ?_); refine gl_ (some 15) rfl rfl Tryz.func52 #[.pointer (some ⟨g, 0, none⟩), .int .i64 8] rfl ?_; (with_reducible refine (spec_l01Next.calls g s0_0 t109 t110 8 t112 t113 t114 w0 _ ?side1 ?side2 A4.out).mono ?_); (case side1 => exact i_ HI0); (case side2 => exact gb_ HB.out); rintro e w17 ⟨rfl, hi, hb, hk⟩; refine ⟨_, rfl, ?_⟩; replace BK101 := Aside0.mk (KeepBut.blk hk (g' := gb101) (o := .cells #[.slice none 0 0] 26 (0, 0)) (by (with_reducible repeat (first | refine blk_drewN ?_ _ | refine blk_drew ?_ | refine blk_alloc ?_ _)); refine blk_far ?_ NB101_111.out _; (with_reducible repeat (first | refine blk_drewN ?_ _ | refine blk_drew ?_ | refine blk_alloc ?_ _)); exact BK101.out) NB101_0.out (by simp)); replace HO104 := Aside0.mk (Kd.R_mono (Kd.R_keep (IsS93.apart (show IsS93 w0 _ g s0_0 t109 t110 from i_ HI0) (rb_ (Kd.R_mono (Kd.R_far (p := ⟨gb111, 0, none⟩) (Kd.R_types HO104.out BK111.out (by decide)) (fun _ hk => hk.2) (.slice Ao8 y102.length co8)) (fun _ h_ => h_.1))) (by decide)) hk (fun _ h => h.2)) (fun _ h => h.1)); replace HO107 := Aside0.mk (Kd.R_mono (Kd.R_keep (IsS93.apart (show IsS93 w0 _ g s0_0 t109 t110 from i_ HI0) (rb_ (Kd.R_mono (Kd.R_far (p := ⟨gb111, 0, none⟩) (Kd.R_types HO107.out BK111.out (by decide)) (fun _ hk => hk.2) (.slice Ao8 y102.length co8)) (fun _ h_ => h_.1))) (by decide)) hk (fun _ h => h.2)) (fun _ h => h.1)); replace BK111 := Aside0.mk (KeepBut.blk hk (g' := gb111) (o := .cells #[.slice Ao8 y102.length co8] 26 (0, 0)) (by (with_reducible repeat (first | refine blk_drewN ?_ _ | refine blk_drew ?_ | refine blk_alloc ?_ _)); refine blk_put (cs := #[.slice none 0 0]) ?_ 0 _ rfl; (with_reducible repeat (first | refine blk_drewN ?_ _ | refine blk_drew ?_ | refine blk_alloc ?_ _)); exact BK111.out) NB111_0.out (by simp)); replace HK := Aside0.mk (KeepBut.trans (kb_ HK) hk (.inl rfl)); replace HB := Aside0.mk (hb); replace HI0 := Aside0.mk (hi); (try clear hb); (try clear hb2); (try clear hk); (try clear hi)))
 go_loopg [7] k (fun kq v7 w' => ∃ (x7_1 : Int) (x1001_1 : Int) (x1002_1 : Int) (x112000_1 : List Int) (u112000 : Value), v7 = .int .i64 x7_1 ∧ Aside0 (spec_l01DrawOf.l0 kq a1 t108 x7_1 s0_0 x1001_1 x1002_1 x112000_1 = some (r1, r2, r3)) ∧ Aside0 (kq ≤ k) ∧ Aside0 (Kd.R (Kd.int .i64) 2 w' w.heap.size (fun _ => True) u112000 x112000_1) ∧ Aside0 (w'.heap[gb101]? = some (.cells #[(.slice none 0 0)] 26 (0, 0))) ∧ Aside0 (w'.heap[gb111]? = some (.cells #[u112000] 26 (0, 0))) ∧ Aside0 (IsS93 w0 w' g s0_0 x1001_1 x1002_1) ∧ Aside0 (KeepBut w w' g none) ∧ Aside0 (Below w0.heap.size w0 w'))
 case atStart => exact ⟨(wrap64 (1 + t112)), (t113), (t114), (y102), (.slice Ao8 y102.length co8), t2_, H', ⟨Nat.le_refl _⟩, ⟨rb_ (Kd.R_mono HO104.out (fun _ hk => trivial))⟩, ⟨bb_ BK101.out⟩, ⟨bb_ BK111.out⟩, ⟨i_ HI0⟩, ⟨kb_ HK⟩, ⟨gb_ HB.out⟩⟩
 clear H'
 try clear c1
 try clear p2
 try clear c5
 try clear p6
 try clear c14
 try clear c15
 try clear hcz16_0
 try clear hfz16_0
 obtain ⟨x7_1, x1001_1, x1002_1, x112000_1, u112000, rfl, HA, HK1, HO_112000, BK101, BK111, HI0, HK, HB⟩ := hrel
 obtain _ | k1 := gk
 ·exact absurd HA.out (by simp [spec_l01DrawOf.l0])
 have H := HA.out
 clear HA
 simp only [spec_l01DrawOf.l0] at H
 by_cases c18 : x7_1 > 0
 rotate_left
 ·rw [if_neg c18] at H
  have c18b0 : decide (0 < x7_1) = false := decide_eq_false c18
  clear c18
  by_cases c99 : (x112000_1.length : Int) = 0
  rotate_left
  ·rw [if_neg c99] at H
   have c99b0 : ((x112000_1.length : Int) == 0) = false := beq_eq_false_iff_ne.mpr c99
   have c99b1 : ((x112000_1.length : Int) != 0) = true := bne_iff_ne.mpr c99
   have c99b2 : ¬ (x112000_1 = []) := fun h_ => c99 (by rw [h_]; rfl)
   simp only [Option.some.injEq, Prod.mk.injEq] at H
   obtain ⟨rfl, rfl, rfl⟩ := H
   have hnb110 := NB111_101.out
   have hnc110 := NB101_111.out
   have hnb111 := NB111_0.out
   have hnc111 := NB0_111.out
   have hcz112_0 := hz_ BK111
   have hfz112_0 := blk_frozen BK111.out 0
   obtain ⟨Ao113, co113, eo113⟩ := Kd.R_slice HO_112000.out
   subst eo113
   have hnb114 := NB101_0.out
   have hnc114 := NB0_101.out
   have hcz115_0 := hz_ BK101
   have hfz115_0 := blk_frozen BK101.out 0
   go_wp2
   refine bodyPost_ret (results_cell_row rfl _ _ gb101 26 #[.slice Ao113 x112000_1.length co113] (0, 0) _ rfl (by (with_reducible repeat (first | refine blk_drewN ?_ _ | refine blk_drew ?_ | refine blk_alloc ?_ _)); refine blk_put (cs := #[.slice none 0 0]) ?_ 0 _ rfl; (with_reducible repeat (first | refine blk_drewN ?_ _ | refine blk_drew ?_ | refine blk_alloc ?_ _)); exact BK101.out) Tryz.underlying26 rfl (by kernel_rfl)) rfl ?_
   exact ⟨_, t5_, by (with_reducible repeat (first | apply Kd.R_alloc | apply Kd.R_drewN | apply Kd.R_drew)); exact Kd.R_mono (Kd.R_far (p := ⟨gb101, 0, none⟩) (Kd.R_types HO_112000.out BK101.out (by decide)) (fun _ hk => hk.2) (.slice Ao113 x112000_1.length co113)) (fun _ hk => trivial), i_ HI0, gb_ HB.out, kb_ HK⟩

  rw [if_pos c99] at H
  have c99b0 : ((x112000_1.length : Int) == 0) = true := beq_iff_eq.mpr c99
  have c99b1 : ((x112000_1.length : Int) != 0) = false := bne_eq_false_iff_eq.mpr c99
  clear c99
  replace H := ip_ H
  obtain ⟨c100, H⟩ := H
  have LMc100 := Aside0.mk c100
  clear c100
  obtain ⟨y115, hy115⟩ : ∃ y_ : List Int, y_ = (x112000_1 ++ [2]) := ⟨_, rfl⟩
  replace H : (some (y115, x1001_1, x1002_1)) = some (r1, r2, r3) := y_ H
  have Ny115 := Aside0.mk hy115
  clear hy115
  simp only [Option.some.injEq, Prod.mk.injEq] at H
  obtain ⟨rfl, rfl, rfl⟩ := H
  have hnb101 := NB111_101.out
  have hnc101 := NB101_111.out
  have hnb102 := NB111_0.out
  have hnc102 := NB0_111.out
  have hcz103_0 := hz_ BK111
  have hfz103_0 := blk_frozen BK111.out 0
  obtain ⟨Ao104, co104, eo104⟩ := Kd.R_slice HO_112000.out
  subst eo104
  go_wp2_with (first | ((with_reducible refine gate_builtin (b := .append) (xs := #[.tmp 44, .tmp 45]) rfl ?_); at_builtin; refine Kd.R_append (Kd.int .i64) w.heap.size rfl (.tmp 44) (.tmp 45) 24 2 (.int .i64 0) 8 rfl Tryz.underlying24 info2 rfl (by decide) (by omega) (.slice Ao104 x112000_1.length co104) x112000_1 2 [.int .i64 2] (fun _ => True) (fun _ => False) rfl rfl ?aP (fun _ hk => hk.elim) ?aF ?aO (Below.refl _ _) ?aS ?aL ?_; (case aP => exact rfl); (case aF => exact (fun _ _ => trivial)); (case aO => exact (rb_ HO_112000.out)); (case aS => exact (keep_size (w := w) (g := g) (row := none) (kb_ HK))); (case aL => have := LMc100.out; omega); intro v116 w105 ho hb hg hat; rw [← Ny115.out] at ho; replace BK101 := Aside0.mk (blk_grown (g := gb101) (o := .cells #[.slice none 0 0] 26 (0, 0)) (bb_ BK101.out) hg (Kd.R_ne HO_112000.out BK101.out (by decide))); replace BK111 := Aside0.mk (blk_grown (g := gb111) (o := .cells #[.slice Ao104 x112000_1.length co104] 26 (0, 0)) (bb_ BK111.out) hg (Kd.R_ne HO_112000.out BK111.out (by decide))); replace HI0 := Aside0.mk (IsS93.grown (i_ HI0) hg (IsS93.own_ne HI0.out HO_112000.out (by decide))); replace HB := Aside0.mk (below_weaken (gb_ HB.out) HL.out hb); replace HK := Aside0.mk (KeepBut.trans (kb_ HK) (KeepBut.of_grown hg g) (Kd.R_base2 HO_112000.out)); have HO117 := Aside0.mk (ho); clear HO_112000 ho hb hg hat; obtain ⟨Ao106, co106, eo106⟩ := Kd.R_slice HO117.out; subst eo106; have hcz107_0 := hz_ BK111; have hfz107_0 := blk_frozen BK111.out 0; have hnb108 := NB101_0.out; have hnc108 := NB0_101.out; have hcz109_0 := hz_ BK101; have hfz109_0 := blk_frozen BK101.out 0))
  refine bodyPost_ret (results_cell_row rfl _ _ gb101 26 #[.slice Ao106 y115.length co106] (0, 0) _ rfl (by (with_reducible repeat (first | refine blk_drewN ?_ _ | refine blk_drew ?_ | refine blk_alloc ?_ _)); refine blk_put (cs := #[.slice none 0 0]) ?_ 0 _ rfl; (with_reducible repeat (first | refine blk_drewN ?_ _ | refine blk_drew ?_ | refine blk_alloc ?_ _)); refine blk_far ?_ NB101_111.out _; (with_reducible repeat (first | refine blk_drewN ?_ _ | refine blk_drew ?_ | refine blk_alloc ?_ _)); exact BK101.out) Tryz.underlying26 rfl (by kernel_rfl)) rfl ?_
  exact ⟨_, t5_, by (with_reducible repeat (first | apply Kd.R_alloc | apply Kd.R_drewN | apply Kd.R_drew)); exact Kd.R_mono (Kd.R_far (p := ⟨gb101, 0, none⟩) (Kd.R_far (p := ⟨gb111, 0, none⟩) (Kd.R_types (Kd.R_types HO117.out BK111.out (by decide)) BK101.out (by decide)) (fun _ hk => hk.1.2) (.slice Ao106 y115.length co106)) (fun _ hk => hk.2) (.slice Ao106 y115.length co106)) (fun _ hk => trivial), i_ HI0, gb_ HB.out, kb_ HK⟩
 rw [if_pos c18] at H
 have c18b0 : decide (0 < x7_1) = true := decide_eq_true c18
 clear c18
 by_cases c19 : t108 = 0
 ·rw [if_pos c19] at H
  have c19b0 : (t108 == 0) = true := beq_iff_eq.mpr c19
  have c19b1 : (t108 != 0) = false := bne_eq_false_iff_eq.mpr c19
  clear c19
  obtain ⟨y118, hy118⟩ : ∃ y_ : List Int, y_ = (([2, 2, 3, 4] : List Int)) := ⟨_, rfl⟩
  replace H : ((spec_l01Pick.f s0_0 x1001_1 x1002_1 y118).bind fun bt121 => ((spec_l01N.f k1 x112000_1).bind fun t124 => (if (wrap64 (t124 * bt121.1)) > a1 then (if (x112000_1.length : Int) = 0 then (if x112000_1.length < 17592186044416 then (some ((x112000_1 ++ [2]), bt121.2.1, bt121.2.2)) else (none)) else (some (x112000_1, bt121.2.1, bt121.2.2))) else (if x112000_1.length < 17592186044416 then (spec_l01DrawOf.l0 k1 a1 t108 (wrap64 (x7_1 - 1)) s0_0 bt121.2.1 bt121.2.2 (x112000_1 ++ [bt121.1])) else (none))))) = some (r1, r2, r3) := y_ H
  have Ny118 := Aside0.mk hy118
  clear hy118
  replace H := bd_ H
  obtain ⟨⟨t121, t122, t123⟩, A20, H⟩ := H
  try dsimp only at H
  replace H := bd_ H
  obtain ⟨t124, A21, H⟩ := H
  by_cases c22 : (wrap64 (t124 * t121)) > a1
  rotate_left
  ·rw [if_neg c22] at H
   have c22b0 : decide (a1 < (wrap64 (t124 * t121))) = false := decide_eq_false c22
   clear c22
   replace H := ip_ H
   obtain ⟨c52, H⟩ := H
   have LMc52 := Aside0.mk c52
   clear c52
   obtain ⟨y128, hy128⟩ : ∃ y_ : List Int, y_ = (x112000_1 ++ [t121]) := ⟨_, rfl⟩
   replace H : (spec_l01DrawOf.l0 k1 a1 t108 (wrap64 (x7_1 - 1)) s0_0 t122 t123 y128) = some (r1, r2, r3) := y_ H
   have Ny128 := Aside0.mk hy128
   clear hy128
   have H' := Aside0.mk H
   clear H
   go_wp2_with (first | ((with_reducible refine gate_dst (N := 25) rfl ?_); refine Kd.R_lit (Kd.int .i64) _ 2 ?hg (N := 25) ?hd (xs := ([2, 2, 3, 4] : List Int)) (inner := [.int .i64 2, .int .i64 2, .int .i64 3, .int .i64 4]) (ok := fun _ => True) (okp := fun _ => True) ?hr ?hp (fun _ hk => hk) trivial (Below.refl _ _) (Nat.le_refl _) (by simp) ?_; (case hd => rfl); (case hg => rfl); (case hr => exact t3_); (case hp => exact (Reps.one (show Kd.M (Kd.int .i64) _ _ _ 2 [.int .i64 2] from rfl) (Reps.one (show Kd.M (Kd.int .i64) _ _ _ 2 [.int .i64 2] from rfl) (Reps.one (show Kd.M (Kd.int .i64) _ _ _ 3 [.int .i64 3] from rfl) (Reps.one (show Kd.M (Kd.int .i64) _ _ _ 4 [.int .i64 4] from rfl) (Reps.none _ _)))))); intro v119 w53 ho54 hb hg_ hnew_; clear hg_ hnew_; (first | rw [← Ny118.out] at ho54 | (simp only [Int.reduceToNat] at ho54; rw [← Ny118.out] at ho54)); have HO120 := Aside0.mk (Kd.R_lower (Kd.R_new' ho54 (Kd.R_lt (rb_ HO_112000.out))) (keep_size (w := w) (g := g) (row := none) (kb_ HK))); replace HO_112000 := a5_ HO_112000 ho54 hb; replace BK101 := a2_ BK101 hb; replace BK111 := a2_ BK111 hb; replace HI0 := i1_ HI0 hb; replace HK := k1_ HK hb; replace HB := b1_ HB hb; clear hb ho54; obtain ⟨Ao55, co55, eo55⟩ := Kd.R_slice HO120.out; subst eo55) | ((with_reducible refine gate_callee (f := 51) rfl ?_); refine gl_ (some 26) rfl rfl Tryz.func51 #[.pointer (some ⟨g, 0, none⟩), .slice Ao55 y118.length co55] rfl ?_; (with_reducible refine (spec_l01Pick.calls g s0_0 x1001_1 x1002_1 _ _ y118 t121 t122 t123 w0 _ ?side1 ?side2 ?side3 ?side4 ?side5 A20.out).mono ?_); (case side1 => exact i_ HI0); (case side2 => exact gb_ HB.out); (case side3 => exact c1_ HO120); (case side4 => exact (Kd.R_reads' HO120.out).2.1); (case side5 => exact far_slice (IsS93.own_ne HI0.out HO120.out (by decide))); rintro e w56 ⟨rfl, hi, hb, hk⟩; refine ⟨_, rfl, ?_⟩; replace HO_112000 := kr_ HI0 HO_112000 hk; replace BK101 := kx_ BK101 NB101_0 hk; replace BK111 := kx_ BK111 NB111_0 hk; replace HO120 := kr_ HI0 HO120 hk; replace HK := Aside0.mk (KeepBut.trans (kb_ HK) hk (.inl rfl)); replace HB := Aside0.mk (hb); replace HI0 := Aside0.mk (hi); (try clear hb); (try clear hb2); (try clear hk); (try clear hi); have hnb57 := NB111_101.out; have hnc57 := NB101_111.out; have hnb58 := NB111_0.out; have hnc58 := NB0_111.out; have hcz59_0 := hz_ BK111; have hfz59_0 := blk_frozen BK111.out 0; obtain ⟨Ao60, co60, eo60⟩ := Kd.R_slice HO_112000.out; subst eo60) | ((with_reducible refine gate_callee (f := 53) rfl ?_); refine gl_ (some 28) rfl rfl Tryz.func53 #[.agg #[.slice Ao60 x112000_1.length co60]] rfl ?_; (with_reducible refine (spec_l01N.calls k1 _ _ x112000_1 t124 _ ?side1 ?side2 A21.out).mono ?_); (case side1 => exact c1_ HO_112000); (case side2 => exact (Kd.R_reads' HO_112000.out).2.1); rintro e w61 ⟨rfl, hb⟩; refine ⟨_, rfl, ?_⟩; replace HO_112000 := a1_ HO_112000 hb; replace HO120 := a1_ HO120 hb; replace BK101 := a2_ BK101 hb; replace BK111 := a2_ BK111 hb; replace HI0 := i1_ HI0 hb; replace HK := k1_ HK hb; replace HB := b1_ HB hb; (try clear hb); (try clear hb2); (try clear hk); (try clear hi); have hcz62_0 := hz_ BK111; have hfz62_0 := blk_frozen BK111.out 0) | ((with_reducible refine gate_builtin (b := .append) (xs := #[.tmp 34, .tmp 36]) rfl ?_); at_builtin; refine Kd.R_append (Kd.int .i64) w.heap.size rfl (.tmp 34) (.tmp 36) 24 2 (.int .i64 0) 8 rfl Tryz.underlying24 info2 rfl (by decide) (by omega) (.slice Ao60 x112000_1.length co60) x112000_1 t121 [.int .i64 t121] (fun k_ => OB_ k_ (.slice Ao55 y118.length co55)) (fun _ => False) rfl rfl ?aP (fun _ hk => hk.elim) ?aF ?aO (Below.refl _ _) ?aS ?aL ?_; (case aP => exact rfl); (case aF => exact (fun k_ hk => Kd.fresh' (Kd.R_lt (rb_ HO120.out)) k_ hk)); (case aO => exact (rb_ (Kd.R_mono HO_112000.out (fun _ hk => hk.2)))); (case aS => exact (keep_size (w := w) (g := g) (row := none) (kb_ HK))); (case aL => have := LMc52.out; omega); intro v129 w63 ho hb hg hat; rw [← Ny128.out] at ho; replace BK101 := Aside0.mk (blk_grown (g := gb101) (o := .cells #[.slice none 0 0] 26 (0, 0)) (bb_ BK101.out) hg (Kd.R_ne HO_112000.out BK101.out (by decide))); replace BK111 := Aside0.mk (blk_grown (g := gb111) (o := .cells #[.slice Ao60 x112000_1.length co60] 26 (0, 0)) (bb_ BK111.out) hg (Kd.R_ne HO_112000.out BK111.out (by decide))); replace HI0 := Aside0.mk (IsS93.grown (i_ HI0) hg (IsS93.own_ne HI0.out HO_112000.out (by decide))); replace HO120 := Aside0.mk (Kd.R_after (ok := (fun _ => True)) (rb_ HO120.out) hg hat); replace HB := Aside0.mk (below_weaken (gb_ HB.out) HL.out hb); replace HK := Aside0.mk (KeepBut.trans (kb_ HK) (KeepBut.of_grown hg g) (Kd.R_base2 HO_112000.out)); have HO130 := Aside0.mk (ho); clear HO_112000 ho hb hg hat; obtain ⟨Ao64, co64, eo64⟩ := Kd.R_slice HO130.out; subst eo64; have hcz65_0 := hz_ BK111; have hfz65_0 := blk_frozen BK111.out 0))
   go_roundg k1
   case measure => have := HK1.out; omega
   case rel => exact ⟨(wrap64 (x7_1 - 1)), (t122), (t123), (y128), (.slice Ao64 y128.length co64), t2_, H', ⟨by have := HK1.out; omega⟩, ⟨by (with_reducible repeat (first | apply Kd.R_alloc | apply Kd.R_drewN | apply Kd.R_drew)); exact Kd.R_mono (Kd.R_far (p := ⟨gb111, 0, none⟩) (Kd.R_types HO130.out BK111.out (by decide)) (fun _ hk => hk.2) (.slice Ao64 y128.length co64)) (fun _ hk => trivial)⟩, ⟨by (with_reducible repeat (first | refine blk_drewN ?_ _ | refine blk_drew ?_ | refine blk_alloc ?_ _)); refine blk_far ?_ NB101_111.out _; (with_reducible repeat (first | refine blk_drewN ?_ _ | refine blk_drew ?_ | refine blk_alloc ?_ _)); exact BK101.out⟩, ⟨by (with_reducible repeat (first | refine blk_drewN ?_ _ | refine blk_drew ?_ | refine blk_alloc ?_ _)); refine blk_put (cs := #[.slice Ao60 x112000_1.length co60]) ?_ 0 _ rfl; (with_reducible repeat (first | refine blk_drewN ?_ _ | refine blk_drew ?_ | refine blk_alloc ?_ _)); exact BK111.out⟩, ⟨i_ HI0⟩, ⟨kb_ HK⟩, ⟨gb_ HB.out⟩⟩
  rw [if_pos c22] at H
  have c22b0 : decide (a1 < (wrap64 (t124 * t121))) = true := decide_eq_true c22
  clear c22
  by_cases c23 : (x112000_1.length : Int) = 0
  rotate_left
  ·rw [if_neg c23] at H
   have c23b0 : ((x112000_1.length : Int) == 0) = false := beq_eq_false_iff_ne.mpr c23
   have c23b1 : ((x112000_1.length : Int) != 0) = true := bne_iff_ne.mpr c23
   have c23b2 : ¬ (x112000_1 = []) := fun h_ => c23 (by rw [h_]; rfl)
   simp only [Option.some.injEq, Prod.mk.injEq] at H
   obtain ⟨rfl, rfl, rfl⟩ := H
   go_wp2_with (first | ((with_reducible refine gate_dst (N := 25) rfl ?_); refine Kd.R_lit (Kd.int .i64) _ 2 ?hg (N := 25) ?hd (xs := ([2, 2, 3, 4] : List Int)) (inner := [.int .i64 2, .int .i64 2, .int .i64 3, .int .i64 4]) (ok := fun _ => True) (okp := fun _ => True) ?hr ?hp (fun _ hk => hk) trivial (Below.refl _ _) (Nat.le_refl _) (by simp) ?_; (case hd => rfl); (case hg => rfl); (case hr => exact t3_); (case hp => exact (Reps.one (show Kd.M (Kd.int .i64) _ _ _ 2 [.int .i64 2] from rfl) (Reps.one (show Kd.M (Kd.int .i64) _ _ _ 2 [.int .i64 2] from rfl) (Reps.one (show Kd.M (Kd.int .i64) _ _ _ 3 [.int .i64 3] from rfl) (Reps.one (show Kd.M (Kd.int .i64) _ _ _ 4 [.int .i64 4] from rfl) (Reps.none _ _)))))); intro v119 w40 ho41 hb hg_ hnew_; clear hg_ hnew_; (first | rw [← Ny118.out] at ho41 | (simp only [Int.reduceToNat] at ho41; rw [← Ny118.out] at ho41)); have HO120 := Aside0.mk (Kd.R_lower (Kd.R_new' ho41 (Kd.R_lt (rb_ HO_112000.out))) (keep_size (w := w) (g := g) (row := none) (kb_ HK))); replace HO_112000 := a5_ HO_112000 ho41 hb; replace BK101 := a2_ BK101 hb; replace BK111 := a2_ BK111 hb; replace HI0 := i1_ HI0 hb; replace HK := k1_ HK hb; replace HB := b1_ HB hb; clear hb ho41; obtain ⟨Ao42, co42, eo42⟩ := Kd.R_slice HO120.out; subst eo42) | ((with_reducible refine gate_callee (f := 51) rfl ?_); refine gl_ (some 26) rfl rfl Tryz.func51 #[.pointer (some ⟨g, 0, none⟩), .slice Ao42 y118.length co42] rfl ?_; (with_reducible refine (spec_l01Pick.calls g s0_0 x1001_1 x1002_1 _ _ y118 t121 t122 t123 w0 _ ?side1 ?side2 ?side3 ?side4 ?side5 A20.out).mono ?_); (case side1 => exact i_ HI0); (case side2 => exact gb_ HB.out); (case side3 => exact c1_ HO120); (case side4 => exact (Kd.R_reads' HO120.out).2.1); (case side5 => exact far_slice (IsS93.own_ne HI0.out HO120.out (by decide))); rintro e w43 ⟨rfl, hi, hb, hk⟩; refine ⟨_, rfl, ?_⟩; replace HO_112000 := kr_ HI0 HO_112000 hk; replace BK101 := kx_ BK101 NB101_0 hk; replace BK111 := kx_ BK111 NB111_0 hk; replace HO120 := kr_ HI0 HO120 hk; replace HK := Aside0.mk (KeepBut.trans (kb_ HK) hk (.inl rfl)); replace HB := Aside0.mk (hb); replace HI0 := Aside0.mk (hi); (try clear hb); (try clear hb2); (try clear hk); (try clear hi); have hnb44 := NB111_101.out; have hnc44 := NB101_111.out; have hnb45 := NB111_0.out; have hnc45 := NB0_111.out; have hcz46_0 := hz_ BK111; have hfz46_0 := blk_frozen BK111.out 0; obtain ⟨Ao47, co47, eo47⟩ := Kd.R_slice HO_112000.out; subst eo47) | ((with_reducible refine gate_callee (f := 53) rfl ?_); refine gl_ (some 28) rfl rfl Tryz.func53 #[.agg #[.slice Ao47 x112000_1.length co47]] rfl ?_; (with_reducible refine (spec_l01N.calls k1 _ _ x112000_1 t124 _ ?side1 ?side2 A21.out).mono ?_); (case side1 => exact c1_ HO_112000); (case side2 => exact (Kd.R_reads' HO_112000.out).2.1); rintro e w48 ⟨rfl, hb⟩; refine ⟨_, rfl, ?_⟩; replace HO_112000 := a1_ HO_112000 hb; replace HO120 := a1_ HO120 hb; replace BK101 := a2_ BK101 hb; replace BK111 := a2_ BK111 hb; replace HI0 := i1_ HI0 hb; replace HK := k1_ HK hb; replace HB := b1_ HB hb; (try clear hb); (try clear hb2); (try clear hk); (try clear hi); have hcz49_0 := hz_ BK111; have hfz49_0 := blk_frozen BK111.out 0; have hnb50 := NB101_0.out; have hnc50 := NB0_101.out; have hcz51_0 := hz_ BK101; have hfz51_0 := blk_frozen BK101.out 0))
   refine bodyPost_ret (results_cell_row rfl _ _ gb101 26 #[.slice Ao47 x112000_1.length co47] (0, 0) _ rfl (by (with_reducible repeat (first | refine blk_drewN ?_ _ | refine blk_drew ?_ | refine blk_alloc ?_ _)); refine blk_put (cs := #[.slice none 0 0]) ?_ 0 _ rfl; (with_reducible repeat (first | refine blk_drewN ?_ _ | refine blk_drew ?_ | refine blk_alloc ?_ _)); exact BK101.out) Tryz.underlying26 rfl (by kernel_rfl)) rfl ?_
   exact ⟨_, t5_, by (with_reducible repeat (first | apply Kd.R_alloc | apply Kd.R_drewN | apply Kd.R_drew)); exact Kd.R_mono (Kd.R_far (p := ⟨gb101, 0, none⟩) (Kd.R_types HO_112000.out BK101.out (by decide)) (fun _ hk => hk.2) (.slice Ao47 x112000_1.length co47)) (fun _ hk => trivial), i_ HI0, gb_ HB.out, kb_ HK⟩
  rw [if_pos c23] at H
  have c23b0 : ((x112000_1.length : Int) == 0) = true := beq_iff_eq.mpr c23
  have c23b1 : ((x112000_1.length : Int) != 0) = false := bne_eq_false_iff_eq.mpr c23
  clear c23
  replace H := ip_ H
  obtain ⟨c24, H⟩ := H
  have LMc24 := Aside0.mk c24
  clear c24
  obtain ⟨y125, hy125⟩ : ∃ y_ : List Int, y_ = (x112000_1 ++ [2]) := ⟨_, rfl⟩
  replace H : (some (y125, t122, t123)) = some (r1, r2, r3) := y_ H
  have Ny125 := Aside0.mk hy125
  clear hy125
  simp only [Option.some.injEq, Prod.mk.injEq] at H
  obtain ⟨rfl, rfl, rfl⟩ := H
  go_wp2_with (first | ((with_reducible refine gate_dst (N := 25) rfl ?_); refine Kd.R_lit (Kd.int .i64) _ 2 ?hg (N := 25) ?hd (xs := ([2, 2, 3, 4] : List Int)) (inner := [.int .i64 2, .int .i64 2, .int .i64 3, .int .i64 4]) (ok := fun _ => True) (okp := fun _ => True) ?hr ?hp (fun _ hk => hk) trivial (Below.refl _ _) (Nat.le_refl _) (by simp) ?_; (case hd => rfl); (case hg => rfl); (case hr => exact t3_); (case hp => exact (Reps.one (show Kd.M (Kd.int .i64) _ _ _ 2 [.int .i64 2] from rfl) (Reps.one (show Kd.M (Kd.int .i64) _ _ _ 2 [.int .i64 2] from rfl) (Reps.one (show Kd.M (Kd.int .i64) _ _ _ 3 [.int .i64 3] from rfl) (Reps.one (show Kd.M (Kd.int .i64) _ _ _ 4 [.int .i64 4] from rfl) (Reps.none _ _)))))); intro v119 w25 ho26 hb hg_ hnew_; clear hg_ hnew_; (first | rw [← Ny118.out] at ho26 | (simp only [Int.reduceToNat] at ho26; rw [← Ny118.out] at ho26)); have HO120 := Aside0.mk (Kd.R_lower (Kd.R_new' ho26 (Kd.R_lt (rb_ HO_112000.out))) (keep_size (w := w) (g := g) (row := none) (kb_ HK))); replace HO_112000 := a5_ HO_112000 ho26 hb; replace BK101 := a2_ BK101 hb; replace BK111 := a2_ BK111 hb; replace HI0 := i1_ HI0 hb; replace HK := k1_ HK hb; replace HB := b1_ HB hb; clear hb ho26; obtain ⟨Ao27, co27, eo27⟩ := Kd.R_slice HO120.out; subst eo27) | ((with_reducible refine gate_callee (f := 51) rfl ?_); refine gl_ (some 26) rfl rfl Tryz.func51 #[.pointer (some ⟨g, 0, none⟩), .slice Ao27 y118.length co27] rfl ?_; (with_reducible refine (spec_l01Pick.calls g s0_0 x1001_1 x1002_1 _ _ y118 t121 t122 t123 w0 _ ?side1 ?side2 ?side3 ?side4 ?side5 A20.out).mono ?_); (case side1 => exact i_ HI0); (case side2 => exact gb_ HB.out); (case side3 => exact c1_ HO120); (case side4 => exact (Kd.R_reads' HO120.out).2.1); (case side5 => exact far_slice (IsS93.own_ne HI0.out HO120.out (by decide))); rintro e w28 ⟨rfl, hi, hb, hk⟩; refine ⟨_, rfl, ?_⟩; replace HO_112000 := kr_ HI0 HO_112000 hk; replace BK101 := kx_ BK101 NB101_0 hk; replace BK111 := kx_ BK111 NB111_0 hk; replace HO120 := kr_ HI0 HO120 hk; replace HK := Aside0.mk (KeepBut.trans (kb_ HK) hk (.inl rfl)); replace HB := Aside0.mk (hb); replace HI0 := Aside0.mk (hi); (try clear hb); (try clear hb2); (try clear hk); (try clear hi); have hnb29 := NB111_101.out; have hnc29 := NB101_111.out; have hnb30 := NB111_0.out; have hnc30 := NB0_111.out; have hcz31_0 := hz_ BK111; have hfz31_0 := blk_frozen BK111.out 0; obtain ⟨Ao32, co32, eo32⟩ := Kd.R_slice HO_112000.out; subst eo32) | ((with_reducible refine gate_callee (f := 53) rfl ?_); refine gl_ (some 28) rfl rfl Tryz.func53 #[.agg #[.slice Ao32 x112000_1.length co32]] rfl ?_; (with_reducible refine (spec_l01N.calls k1 _ _ x112000_1 t124 _ ?side1 ?side2 A21.out).mono ?_); (case side1 => exact c1_ HO_112000); (case side2 => exact (Kd.R_reads' HO_112000.out).2.1); rintro e w33 ⟨rfl, hb⟩; refine ⟨_, rfl, ?_⟩; replace HO_112000 := a1_ HO_112000 hb; replace HO120 := a1_ HO120 hb; replace BK101 := a2_ BK101 hb; replace BK111 := a2_ BK111 hb; replace HI0 := i1_ HI0 hb; replace HK := k1_ HK hb; replace HB := b1_ HB hb; (try clear hb); (try clear hb2); (try clear hk); (try clear hi); have hcz34_0 := hz_ BK111; have hfz34_0 := blk_frozen BK111.out 0) | ((with_reducible refine gate_builtin (b := .append) (xs := #[.tmp 44, .tmp 45]) rfl ?_); at_builtin; refine Kd.R_append (Kd.int .i64) w.heap.size rfl (.tmp 44) (.tmp 45) 24 2 (.int .i64 0) 8 rfl Tryz.underlying24 info2 rfl (by decide) (by omega) (.slice Ao32 x112000_1.length co32) x112000_1 2 [.int .i64 2] (fun k_ => OB_ k_ (.slice Ao27 y118.length co27)) (fun _ => False) rfl rfl ?aP (fun _ hk => hk.elim) ?aF ?aO (Below.refl _ _) ?aS ?aL ?_; (case aP => exact rfl); (case aF => exact (fun k_ hk => Kd.fresh' (Kd.R_lt (rb_ HO120.out)) k_ hk)); (case aO => exact (rb_ (Kd.R_mono HO_112000.out (fun _ hk => hk.2)))); (case aS => exact (keep_size (w := w) (g := g) (row := none) (kb_ HK))); (case aL => have := LMc24.out; omega); intro v126 w35 ho hb hg hat; rw [← Ny125.out] at ho; replace BK101 := Aside0.mk (blk_grown (g := gb101) (o := .cells #[.slice none 0 0] 26 (0, 0)) (bb_ BK101.out) hg (Kd.R_ne HO_112000.out BK101.out (by decide))); replace BK111 := Aside0.mk (blk_grown (g := gb111) (o := .cells #[.slice Ao32 x112000_1.length co32] 26 (0, 0)) (bb_ BK111.out) hg (Kd.R_ne HO_112000.out BK111.out (by decide))); replace HI0 := Aside0.mk (IsS93.grown (i_ HI0) hg (IsS93.own_ne HI0.out HO_112000.out (by decide))); replace HO120 := Aside0.mk (Kd.R_after (ok := (fun _ => True)) (rb_ HO120.out) hg hat); replace HB := Aside0.mk (below_weaken (gb_ HB.out) HL.out hb); replace HK := Aside0.mk (KeepBut.trans (kb_ HK) (KeepBut.of_grown hg g) (Kd.R_base2 HO_112000.out)); have HO127 := Aside0.mk (ho); clear HO_112000 ho hb hg hat; obtain ⟨Ao36, co36, eo36⟩ := Kd.R_slice HO127.out; subst eo36; have hcz37_0 := hz_ BK111; have hfz37_0 := blk_frozen BK111.out 0; have hnb38 := NB101_0.out; have hnc38 := NB0_101.out; have hcz39_0 := hz_ BK101; have hfz39_0 := blk_frozen BK101.out 0))
  refine bodyPost_ret (results_cell_row rfl _ _ gb101 26 #[.slice Ao36 y125.length co36] (0, 0) _ rfl (by (with_reducible repeat (first | refine blk_drewN ?_ _ | refine blk_drew ?_ | refine blk_alloc ?_ _)); refine blk_put (cs := #[.slice none 0 0]) ?_ 0 _ rfl; (with_reducible repeat (first | refine blk_drewN ?_ _ | refine blk_drew ?_ | refine blk_alloc ?_ _)); refine blk_far ?_ NB101_111.out _; (with_reducible repeat (first | refine blk_drewN ?_ _ | refine blk_drew ?_ | refine blk_alloc ?_ _)); exact BK101.out) Tryz.underlying26 rfl (by kernel_rfl)) rfl ?_
  exact ⟨_, t5_, by (with_reducible repeat (first | apply Kd.R_alloc | apply Kd.R_drewN | apply Kd.R_drew)); exact Kd.R_mono (Kd.R_far (p := ⟨gb101, 0, none⟩) (Kd.R_far (p := ⟨gb111, 0, none⟩) (Kd.R_types (Kd.R_types HO127.out BK111.out (by decide)) BK101.out (by decide)) (fun _ hk => hk.1.2) (.slice Ao36 y125.length co36)) (fun _ hk => hk.2) (.slice Ao36 y125.length co36)) (fun _ hk => trivial), i_ HI0, gb_ HB.out, kb_ HK⟩
 rw [if_neg c19] at H
 have c19b0 : (t108 == 0) = false := beq_eq_false_iff_ne.mpr c19
 have c19b1 : (t108 != 0) = true := bne_iff_ne.mpr c19
 replace H := bd_ H
 obtain ⟨t131, A66, H⟩ := H
 by_cases c67 : (wrap64 (t131 * t108)) > a1
 rotate_left
 ·rw [if_neg c67] at H
  have c67b0 : decide (a1 < (wrap64 (t131 * t108))) = false := decide_eq_false c67
  clear c67
  replace H := ip_ H
  obtain ⟨c89, H⟩ := H
  have LMc89 := Aside0.mk c89
  clear c89
  obtain ⟨y135, hy135⟩ : ∃ y_ : List Int, y_ = (x112000_1 ++ [t108]) := ⟨_, rfl⟩
  replace H : (spec_l01DrawOf.l0 k1 a1 t108 (wrap64 (x7_1 - 1)) s0_0 x1001_1 x1002_1 y135) = some (r1, r2, r3) := y_ H
  have Ny135 := Aside0.mk hy135
  clear hy135
  have H' := Aside0.mk H
  clear H
  have hnb90 := NB111_101.out
  have hnc90 := NB101_111.out
  have hnb91 := NB111_0.out
  have hnc91 := NB0_111.out
  have hcz92_0 := hz_ BK111
  have hfz92_0 := blk_frozen BK111.out 0
  obtain ⟨Ao93, co93, eo93⟩ := Kd.R_slice HO_112000.out
  subst eo93
  go_wp2_with (first | ((with_reducible refine gate_callee (f := 53) rfl ?_); refine gl_ (some 28) rfl rfl Tryz.func53 #[.agg #[.slice Ao93 x112000_1.length co93]] rfl ?_; (with_reducible refine (spec_l01N.calls k1 _ _ x112000_1 t131 _ ?side1 ?side2 A66.out).mono ?_); (case side1 => exact c1_ HO_112000); (case side2 => exact (Kd.R_reads' HO_112000.out).2.1); rintro e w94 ⟨rfl, hb⟩; refine ⟨_, rfl, ?_⟩; replace HO_112000 := a1_ HO_112000 hb; replace BK101 := a2_ BK101 hb; replace BK111 := a2_ BK111 hb; replace HI0 := i1_ HI0 hb; replace HK := k1_ HK hb; replace HB := b1_ HB hb; (try clear hb); (try clear hb2); (try clear hk); (try clear hi); have hcz95_0 := hz_ BK111; have hfz95_0 := blk_frozen BK111.out 0) | ((with_reducible refine gate_builtin (b := .append) (xs := #[.tmp 34, .tmp 36]) rfl ?_); at_builtin; refine Kd.R_append (Kd.int .i64) w.heap.size rfl (.tmp 34) (.tmp 36) 24 2 (.int .i64 0) 8 rfl Tryz.underlying24 info2 rfl (by decide) (by omega) (.slice Ao93 x112000_1.length co93) x112000_1 t108 [.int .i64 t108] (fun _ => True) (fun _ => False) rfl rfl ?aP (fun _ hk => hk.elim) ?aF ?aO (Below.refl _ _) ?aS ?aL ?_; (case aP => exact rfl); (case aF => exact (fun _ _ => trivial)); (case aO => exact (rb_ HO_112000.out)); (case aS => exact (keep_size (w := w) (g := g) (row := none) (kb_ HK))); (case aL => have := LMc89.out; omega); intro v136 w96 ho hb hg hat; rw [← Ny135.out] at ho; replace BK101 := Aside0.mk (blk_grown (g := gb101) (o := .cells #[.slice none 0 0] 26 (0, 0)) (bb_ BK101.out) hg (Kd.R_ne HO_112000.out BK101.out (by decide))); replace BK111 := Aside0.mk (blk_grown (g := gb111) (o := .cells #[.slice Ao93 x112000_1.length co93] 26 (0, 0)) (bb_ BK111.out) hg (Kd.R_ne HO_112000.out BK111.out (by decide))); replace HI0 := Aside0.mk (IsS93.grown (i_ HI0) hg (IsS93.own_ne HI0.out HO_112000.out (by decide))); replace HB := Aside0.mk (below_weaken (gb_ HB.out) HL.out hb); replace HK := Aside0.mk (KeepBut.trans (kb_ HK) (KeepBut.of_grown hg g) (Kd.R_base2 HO_112000.out)); have HO137 := Aside0.mk (ho); clear HO_112000 ho hb hg hat; obtain ⟨Ao97, co97, eo97⟩ := Kd.R_slice HO137.out; subst eo97; have hcz98_0 := hz_ BK111; have hfz98_0 := blk_frozen BK111.out 0))
  go_roundg k1
  case measure => have := HK1.out; omega
  case rel => exact ⟨(wrap64 (x7_1 - 1)), (x1001_1), (x1002_1), (y135), (.slice Ao97 y135.length co97), t2_, H', ⟨by have := HK1.out; omega⟩, ⟨by (with_reducible repeat (first | apply Kd.R_alloc | apply Kd.R_drewN | apply Kd.R_drew)); exact Kd.R_mono (Kd.R_far (p := ⟨gb111, 0, none⟩) (Kd.R_types HO137.out BK111.out (by decide)) (fun _ hk => hk.2) (.slice Ao97 y135.length co97)) (fun _ hk => trivial)⟩, ⟨by (with_reducible repeat (first | refine blk_drewN ?_ _ | refine blk_drew ?_ | refine blk_alloc ?_ _)); refine blk_far ?_ NB101_111.out _; (with_reducible repeat (first | refine blk_drewN ?_ _ | refine blk_drew ?_ | refine blk_alloc ?_ _)); exact BK101.out⟩, ⟨by (with_reducible repeat (first | refine blk_drewN ?_ _ | refine blk_drew ?_ | refine blk_alloc ?_ _)); refine blk_put (cs := #[.slice Ao93 x112000_1.length co93]) ?_ 0 _ rfl; (with_reducible repeat (first | refine blk_drewN ?_ _ | refine blk_drew ?_ | refine blk_alloc ?_ _)); exact BK111.out⟩, ⟨i_ HI0⟩, ⟨kb_ HK⟩, ⟨gb_ HB.out⟩⟩
 rw [if_pos c67] at H
 have c67b0 : decide (a1 < (wrap64 (t131 * t108))) = true := decide_eq_true c67
 clear c67
 by_cases c68 : (x112000_1.length : Int) = 0
 rotate_left
 ·rw [if_neg c68] at H
  have c68b0 : ((x112000_1.length : Int) == 0) = false := beq_eq_false_iff_ne.mpr c68
  have c68b1 : ((x112000_1.length : Int) != 0) = true := bne_iff_ne.mpr c68
  have c68b2 : ¬ (x112000_1 = []) := fun h_ => c68 (by rw [h_]; rfl)
  simp only [Option.some.injEq, Prod.mk.injEq] at H
  obtain ⟨rfl, rfl, rfl⟩ := H
  have hnb81 := NB111_101.out
  have hnc81 := NB101_111.out
  have hnb82 := NB111_0.out
  have hnc82 := NB0_111.out
  have hcz83_0 := hz_ BK111
  have hfz83_0 := blk_frozen BK111.out 0
  obtain ⟨Ao84, co84, eo84⟩ := Kd.R_slice HO_112000.out
  subst eo84
  go_wp2_with (first | ((with_reducible refine gate_callee (f := 53) rfl ?_); refine gl_ (some 28) rfl rfl Tryz.func53 #[.agg #[.slice Ao84 x112000_1.length co84]] rfl ?_; (with_reducible refine (spec_l01N.calls k1 _ _ x112000_1 t131 _ ?side1 ?side2 A66.out).mono ?_); (case side1 => exact c1_ HO_112000); (case side2 => exact (Kd.R_reads' HO_112000.out).2.1); rintro e w85 ⟨rfl, hb⟩; refine ⟨_, rfl, ?_⟩; replace HO_112000 := a1_ HO_112000 hb; replace BK101 := a2_ BK101 hb; replace BK111 := a2_ BK111 hb; replace HI0 := i1_ HI0 hb; replace HK := k1_ HK hb; replace HB := b1_ HB hb; (try clear hb); (try clear hb2); (try clear hk); (try clear hi); have hcz86_0 := hz_ BK111; have hfz86_0 := blk_frozen BK111.out 0; have hnb87 := NB101_0.out; have hnc87 := NB0_101.out; have hcz88_0 := hz_ BK101; have hfz88_0 := blk_frozen BK101.out 0))
  refine bodyPost_ret (results_cell_row rfl _ _ gb101 26 #[.slice Ao84 x112000_1.length co84] (0, 0) _ rfl (by (with_reducible repeat (first | refine blk_drewN ?_ _ | refine blk_drew ?_ | refine blk_alloc ?_ _)); refine blk_put (cs := #[.slice none 0 0]) ?_ 0 _ rfl; (with_reducible repeat (first | refine blk_drewN ?_ _ | refine blk_drew ?_ | refine blk_alloc ?_ _)); exact BK101.out) Tryz.underlying26 rfl (by kernel_rfl)) rfl ?_
  exact ⟨_, t5_, by (with_reducible repeat (first | apply Kd.R_alloc | apply Kd.R_drewN | apply Kd.R_drew)); exact Kd.R_mono (Kd.R_far (p := ⟨gb101, 0, none⟩) (Kd.R_types HO_112000.out BK101.out (by decide)) (fun _ hk => hk.2) (.slice Ao84 x112000_1.length co84)) (fun _ hk => trivial), i_ HI0, gb_ HB.out, kb_ HK⟩
 rw [if_pos c68] at H
 have c68b0 : ((x112000_1.length : Int) == 0) = true := beq_iff_eq.mpr c68
 have c68b1 : ((x112000_1.length : Int) != 0) = false := bne_eq_false_iff_eq.mpr c68
 clear c68
 replace H := ip_ H
 obtain ⟨c69, H⟩ := H
 have LMc69 := Aside0.mk c69
 clear c69
 obtain ⟨y132, hy132⟩ : ∃ y_ : List Int, y_ = (x112000_1 ++ [2]) := ⟨_, rfl⟩
 replace H : (some (y132, x1001_1, x1002_1)) = some (r1, r2, r3) := y_ H
 have Ny132 := Aside0.mk hy132
 clear hy132
 simp only [Option.some.injEq, Prod.mk.injEq] at H
 obtain ⟨rfl, rfl, rfl⟩ := H
 have hnb70 := NB111_101.out
 have hnc70 := NB101_111.out
 have hnb71 := NB111_0.out
 have hnc71 := NB0_111.out
 have hcz72_0 := hz_ BK111
 have hfz72_0 := blk_frozen BK111.out 0
 obtain ⟨Ao73, co73, eo73⟩ := Kd.R_slice HO_112000.out
 subst eo73
 go_wp2_with (first | ((with_reducible refine gate_callee (f := 53) rfl ?_); refine gl_ (some 28) rfl rfl Tryz.func53 #[.agg #[.slice Ao73 x112000_1.length co73]] rfl ?_; (with_reducible refine (spec_l01N.calls k1 _ _ x112000_1 t131 _ ?side1 ?side2 A66.out).mono ?_); (case side1 => exact c1_ HO_112000); (case side2 => exact (Kd.R_reads' HO_112000.out).2.1); rintro e w74 ⟨rfl, hb⟩; refine ⟨_, rfl, ?_⟩; replace HO_112000 := a1_ HO_112000 hb; replace BK101 := a2_ BK101 hb; replace BK111 := a2_ BK111 hb; replace HI0 := i1_ HI0 hb; replace HK := k1_ HK hb; replace HB := b1_ HB hb; (try clear hb); (try clear hb2); (try clear hk); (try clear hi); have hcz75_0 := hz_ BK111; have hfz75_0 := blk_frozen BK111.out 0) | ((with_reducible refine gate_builtin (b := .append) (xs := #[.tmp 44, .tmp 45]) rfl ?_); at_builtin; refine Kd.R_append (Kd.int .i64) w.heap.size rfl (.tmp 44) (.tmp 45) 24 2 (.int .i64 0) 8 rfl Tryz.underlying24 info2 rfl (by decide) (by omega) (.slice Ao73 x112000_1.length co73) x112000_1 2 [.int .i64 2] (fun _ => True) (fun _ => False) rfl rfl ?aP (fun _ hk => hk.elim) ?aF ?aO (Below.refl _ _) ?aS ?aL ?_; (case aP => exact rfl); (case aF => exact (fun _ _ => trivial)); (case aO => exact (rb_ HO_112000.out)); (case aS => exact (keep_size (w := w) (g := g) (row := none) (kb_ HK))); (case aL => have := LMc69.out; omega); intro v133 w76 ho hb hg hat; rw [← Ny132.out] at ho; replace BK101 := Aside0.mk (blk_grown (g := gb101) (o := .cells #[.slice none 0 0] 26 (0, 0)) (bb_ BK101.out) hg (Kd.R_ne HO_112000.out BK101.out (by decide))); replace BK111 := Aside0.mk (blk_grown (g := gb111) (o := .cells #[.slice Ao73 x112000_1.length co73] 26 (0, 0)) (bb_ BK111.out) hg (Kd.R_ne HO_112000.out BK111.out (by decide))); replace HI0 := Aside0.mk (IsS93.grown (i_ HI0) hg (IsS93.own_ne HI0.out HO_112000.out (by decide))); replace HB := Aside0.mk (below_weaken (gb_ HB.out) HL.out hb); replace HK := Aside0.mk (KeepBut.trans (kb_ HK) (KeepBut.of_grown hg g) (Kd.R_base2 HO_112000.out)); have HO134 := Aside0.mk (ho); clear HO_112000 ho hb hg hat; obtain ⟨Ao77, co77, eo77⟩ := Kd.R_slice HO134.out; subst eo77; have hcz78_0 := hz_ BK111; have hfz78_0 := blk_frozen BK111.out 0; have hnb79 := NB101_0.out; have hnc79 := NB0_101.out; have hcz80_0 := hz_ BK101; have hfz80_0 := blk_frozen BK101.out 0))
 refine bodyPost_ret (results_cell_row rfl _ _ gb101 26 #[.slice Ao77 y132.length co77] (0, 0) _ rfl (by (with_reducible repeat (first | refine blk_drewN ?_ _ | refine blk_drew ?_ | refine blk_alloc ?_ _)); refine blk_put (cs := #[.slice none 0 0]) ?_ 0 _ rfl; (with_reducible repeat (first | refine blk_drewN ?_ _ | refine blk_drew ?_ | refine blk_alloc ?_ _)); refine blk_far ?_ NB101_111.out _; (with_reducible repeat (first | refine blk_drewN ?_ _ | refine blk_drew ?_ | refine blk_alloc ?_ _)); exact BK101.out) Tryz.underlying26 rfl (by kernel_rfl)) rfl ?_
 exact ⟨_, t5_, by (with_reducible repeat (first | apply Kd.R_alloc | apply Kd.R_drewN | apply Kd.R_drew)); exact Kd.R_mono (Kd.R_far (p := ⟨gb101, 0, none⟩) (Kd.R_far (p := ⟨gb111, 0, none⟩) (Kd.R_types (Kd.R_types HO134.out BK111.out (by decide)) BK101.out (by decide)) (fun _ hk => hk.1.2) (.slice Ao77 y132.length co77)) (fun _ hk => hk.2) (.slice Ao77 y132.length co77)) (fun _ hk => trivial), i_ HI0, gb_ HB.out, kb_ HK⟩
def spec_l01Bad.l0 : Nat → List Int → Int → Int → List Int → Option (List Int × Int × Int)
  | 0, _, _, _, _ => none
  | k + 1, x1000, x1001, x1002, x107000 => if (x107000.length : Int) < 6 then (if x107000.length < 17592186044416 then (spec_l01Bad.l0 k x1000 x1001 x1002 (x107000 ++ [4])) else (none)) else (some (x107000, x1001, x1002))
def spec_l01Bad.f (k : Nat) (s0_0 : List Int) (s0_1 : Int) (s0_2 : Int) (l1_0 : List Int) : Option (List Int × Int × Int) := (spec_l01Own.f l1_0).bind fun t103 => ((spec_l01Next.f s0_0 s0_1 s0_2 50).bind fun bt107 => (if bt107.1 = 0 then (some (([] : List Int), bt107.2.1, bt107.2.2)) else (if bt107.1 = 1 then ((spec_l01Next.f s0_0 bt107.2.1 bt107.2.2 (t103.length : Int)).bind fun bt110 => ((spec_l01Pick.f s0_0 bt110.2.1 bt110.2.2 (([1, 5, 0, (-1), 1099511627776] : List Int))).bind fun bt116 => (if 0 ≤ bt110.1 then (if bt110.1 < (t103.length : Int) then (some ((t103.set (bt110.1 : Int).toNat bt116.1), bt116.2.1, bt116.2.2)) else (none)) else (none)))) else (if bt107.1 = 2 then (spec_l01Bad.l0 k s0_0 bt107.2.1 bt107.2.2 t103) else (some (l1_0, bt107.2.1, bt107.2.2))))))
def spec_l01Bad.T6 : Bool × List (List Nat × List Nat) := (true, [([], []), ([0], [0]), ([], []), ([], []), ([3], [3]), ([4], [4]), ([2, 5], [2, 5]), ([], []), ([], []), ([7, 8, 6], [7, 8]), ([1, 6, 0, 1, 2, 3, 4, 5, 6, 7, 8, 9], [1, 6]), ([10, 9, 9, 0, 1, 2, 3, 4, 5, 6, 7, 8, 9], [9, 10])])
def spec_l01Bad.B6 : List Nat := [0, 1, 0, 0, 8, 24, 60, 0, 0, 508, 1023, 2047]
theorem spec_l01Bad.tab6 : rtab .any (opsOf Tryz.f57 6) = spec_l01Bad.T6 := by kernel_rfl
theorem spec_l01Bad.bits6 : waitsOk spec_l01Bad.T6.2 spec_l01Bad.B6 = true := by kernel_rfl
set_option maxHeartbeats 8000000 in
set_option maxRecDepth 100000 in
theorem spec_l01Bad.callsS (k : Nat) (g : Nat) (s0_0 : List Int) (s0_1 : Int) (s0_2 : Int) (PX_ : Nat → Prop) (P1_0_ : Nat → Prop) (u9000_ : Value) (l1_0 : List Int) (r1 : List Int) (r2 : Int) (r3 : Int) (w0 w : World) (hI : IsS93 w0 w g s0_0 s0_1 s0_2) (hB : Below w0.heap.size w0 w) (ho1_0 : Kd.R (Kd.int .i64) 2 w w0.heap.size PX_ u9000_ l1_0) (h : spec_l01Bad.f k s0_0 s0_1 s0_2 l1_0 = some (r1, r2, r3)) :
  Calls Tryz.prog 57 #[.pointer (some ⟨g, 0, none⟩), .agg #[u9000_]] w fun e w' => ∃ v0_ : Value, e = .returned (.agg #[v0_]) ∧ Kd.R (Kd.int .i64) 2 w' w0.heap.size (fun k_ => ((PX_ k_ ∨ P1_0_ k_) ∨ w.heap.size ≤ k_)) v0_ r1 ∧ IsS93 w0 w' g s0_0 r2 r3 ∧ Below w0.heap.size w0 w' ∧ Kept w w' (fun k_ => (P1_0_ k_) ∨ k_ = g) := by
 have hu26 := Tryz.underlying26
 have HO1_0 := Aside0.mk (show Kd.R (Kd.int .i64) 2 w w0.heap.size (fun k_ => (PX_ k_ ∨ w.heap.size ≤ k_)) u9000_ l1_0 from Kd.R_mono ho1_0 (fun k_ hk => (.inl hk)))
 have HI0 := Aside0.mk hI
 have HL := Aside0.mk hB.size
 clear hI
 have HK := Aside0.mk (Kept.refl w (fun k_ => (P1_0_ k_) ∨ k_ = g))
 have HW0 := Aside0.mk hB.size
 have HB := Aside0.mk hB
 clear hB
 have H := h
 clear h
 unfold spec_l01Bad.f at H
 replace H := bd_ H
 obtain ⟨t103, A3, H⟩ := H
 replace H := bd_ H
 obtain ⟨⟨t107, t108, t109⟩, A4, H⟩ := H
 try dsimp only at H
 by_cases c5 : t107 = 0
 ·rw [if_pos c5] at H
  have c5b0 : (t107 == 0) = true := beq_iff_eq.mpr c5
  have c5b1 : (t107 != 0) = false := bne_eq_false_iff_eq.mpr c5
  clear c5
  simp only [Option.some.injEq, Prod.mk.injEq] at H
  obtain ⟨rfl, rfl, rfl⟩ := H
  obtain ⟨Ao6, co6, eo6⟩ := Kd.R_slice HO1_0.out
  subst eo6
  go_enter Tryz.func57, Tryz.ntmps57
  go_wp2_with (first | ((with_reducible refine gate_dst (N := 3) rfl ?_); refine bx_ (N := 3) (cs := #[.slice Ao6 l1_0.length co6]) (t := 26) rfl rfl ?_; intro gb101 hg w7 hbox hb; have n0_ := a1_ HO1_0 hb; have n1_ := i1_ HI0 hb; have n2_ := Aside0.mk (Kept.below (S := (fun k_ => (P1_0_ k_) ∨ k_ = g)) (kt_ HK) hb); have n3_ := b1_ HB hb; have n4_ := Aside0.mk (hbox); have n5_ := Aside0.mk ((by rw [hg]; exact (by first | exact HK.out.1 | exact (show Kept w _ (fun k_ => (P1_0_ k_) ∨ k_ = g) from kt_ HK).1) : w.heap.size ≤ gb101)); have n6_ := ge_ hg HB; have n7_ := il_ hg HI0; have n8_ := ir_ hg HI0; clear HO1_0 HI0 HK HB; have HO1_0 := n0_; have HI0 := n1_; have HK := n2_; have HB := n3_; have BK101 := n4_; have GW101 := n5_; have GE101 := n6_; have NB0_101 := n7_; have NB101_0 := n8_; clear n0_ n1_ n2_ n3_ n4_ n5_ n6_ n7_ n8_ hb hbox hg) | ((with_reducible refine gate_dst (N := 4) rfl ?_); refine bx_ (N := 4) (cs := #[.slice none 0 0]) (t := 26) rfl rfl ?_; intro gb102 hg w8 hbox hb; have n0_ := a1_ HO1_0 hb; have n1_ := i1_ HI0 hb; have n2_ := a2_ BK101 hb; have n3_ := Aside0.mk (Kept.below (S := (fun k_ => (P1_0_ k_) ∨ k_ = g)) (kt_ HK) hb); have n4_ := b1_ HB hb; have n5_ := Aside0.mk (hbox); have n6_ := Aside0.mk ((by rw [hg]; exact (by first | exact HK.out.1 | exact (show Kept w _ (fun k_ => (P1_0_ k_) ∨ k_ = g) from kt_ HK).1) : w.heap.size ≤ gb102)); have n7_ := ge_ hg HB; have n8_ := nl_ hg BK101; have n9_ := nr_ hg BK101; have n10_ := il_ hg HI0; have n11_ := ir_ hg HI0; clear HO1_0 HI0 BK101 HK HB; have HO1_0 := n0_; have HI0 := n1_; have BK101 := n2_; have HK := n3_; have HB := n4_; have BK102 := n5_; have GW102 := n6_; have GE102 := n7_; have NB101_102 := n8_; have NB102_101 := n9_; have NB0_102 := n10_; have NB102_0 := n11_; clear n0_ n1_ n2_ n3_ n4_ n5_ n6_ n7_ n8_ n9_ n10_ n11_ hb hbox hg; have hnb9 := NB101_102.out; have hnc9 := NB102_101.out; have hnb10 := NB101_0.out; have hnc10 := NB0_101.out; have hcz11_0 := hz_ BK101; have hfz11_0 := blk_frozen BK101.out 0) | ((with_reducible refine gate_callee (f := 35) rfl ?_); refine gl_ (some 8) rfl rfl Tryz.func35 #[.slice Ao6 l1_0.length co6] rfl ?_; (with_reducible refine (spec_l01Own.calls _ _ l1_0 t103 _ ?side1 ?side2 A3.out).mono ?_); (case side1 => exact c1_ HO1_0); (case side2 => exact (Kd.R_reads' HO1_0.out).2.1); rintro e w12 ⟨v104, rfl, ho0, hb⟩; refine ⟨_, rfl, ?_⟩; have HO105 := Aside0.mk (Kd.R_lower (Kd.R_new' (Kd.R_newM (M := fun k_ => (P1_0_ k_ ∨ w.heap.size ≤ k_)) ho0 (by first | exact HK.out.1 | exact (show Kept w _ (fun k_ => (P1_0_ k_) ∨ k_ = g) from kt_ HK).1) (fun k_ h_ => .inr h_)) (Kd.R_lt (rb_ HO1_0.out))) (below_size (gb_ HB.out))); replace HO1_0 := a5_ HO1_0 ho0 hb; replace HI0 := i1_ HI0 hb; replace BK101 := a2_ BK101 hb; replace BK102 := a2_ BK102 hb; replace HK := Aside0.mk (Kept.below (S := (fun k_ => (P1_0_ k_) ∨ k_ = g)) (kt_ HK) hb); replace HB := b1_ HB hb; (try clear hb); (try clear hb2); (try clear hk); (try clear hi); (try clear ho0); obtain ⟨Ao13, co13, eo13⟩ := Kd.R_slice HO105.out; subst eo13) | ((with_reducible refine gate_dst (N := 5) rfl ?_); refine bx_ (N := 5) (cs := #[.slice none 0 0]) (t := 26) rfl rfl ?_; intro gb106 hg w14 hbox hb; have n0_ := a1_ HO1_0 hb; have n1_ := a1_ HO105 hb; have n2_ := i1_ HI0 hb; have n3_ := a2_ BK101 hb; have n4_ := a2_ BK102 hb; have n5_ := Aside0.mk (Kept.below (S := (fun k_ => (P1_0_ k_) ∨ k_ = g)) (kt_ HK) hb); have n6_ := b1_ HB hb; have n7_ := Aside0.mk (hbox); have n8_ := Aside0.mk ((by rw [hg]; exact (by first | exact HK.out.1 | exact (show Kept w _ (fun k_ => (P1_0_ k_) ∨ k_ = g) from kt_ HK).1) : w.heap.size ≤ gb106)); have n9_ := ge_ hg HB; have n10_ := nl_ hg BK101; have n11_ := nr_ hg BK101; have n12_ := nl_ hg BK102; have n13_ := nr_ hg BK102; have n14_ := il_ hg HI0; have n15_ := ir_ hg HI0; clear HO1_0 HO105 HI0 BK101 BK102 HK HB; have HO1_0 := n0_; have HO105 := n1_; have HI0 := n2_; have BK101 := n3_; have BK102 := n4_; have HK := n5_; have HB := n6_; have BK106 := n7_; have GW106 := n8_; have GE106 := n9_; have NB101_106 := n10_; have NB106_101 := n11_; have NB102_106 := n12_; have NB106_102 := n13_; have NB0_106 := n14_; have NB106_0 := n15_; clear n0_ n1_ n2_ n3_ n4_ n5_ n6_ n7_ n8_ n9_ n10_ n11_ n12_ n13_ n14_ n15_ hb hbox hg; have hnb15 := NB106_101.out; have hnc15 := NB101_106.out; have hnb16 := NB106_102.out; have hnc16 := NB102_106.out; have hnb17 := NB106_0.out; have hnc17 := NB0_106.out; have hcz18_0 := hz_ BK106; have hfz18_0 := blk_frozen BK106.out 0) | ((with_reducible refine gate_callee (f := 52) rfl ?_); refine gl_ (some 11) rfl rfl Tryz.func52 #[.pointer (some ⟨g, 0, none⟩), .int .i64 50] rfl ?_; (with_reducible refine (spec_l01Next.calls g s0_0 s0_1 s0_2 50 t107 t108 t109 w0 _ ?side1 ?side2 A4.out).mono ?_); (case side1 => exact i_ HI0); (case side2 => exact gb_ HB.out); rintro e w19 ⟨rfl, hi, hb, hk⟩; refine ⟨_, rfl, ?_⟩; replace HO1_0 := Aside0.mk (Kd.R_mono (Kd.R_keep (IsS93.apart (show IsS93 w0 _ g s0_0 s0_1 s0_2 from i_ HI0) (rb_ (Kd.R_mono (Kd.R_far (p := ⟨gb106, 0, none⟩) (Kd.R_types HO1_0.out BK106.out (by decide)) (fun _ hk => hk.2) (.slice Ao13 t103.length co13)) (fun _ h_ => h_.1))) (by decide)) hk (fun _ h => h.2)) (fun _ h => h.1)); replace BK101 := Aside0.mk (KeepBut.blk hk (g' := gb101) (o := .cells #[.slice Ao6 l1_0.length co6] 26 (0, 0)) (by (with_reducible repeat (first | refine blk_drewN ?_ _ | refine blk_drew ?_ | refine blk_alloc ?_ _)); refine blk_far ?_ NB101_106.out _; (with_reducible repeat (first | refine blk_drewN ?_ _ | refine blk_drew ?_ | refine blk_alloc ?_ _)); exact BK101.out) NB101_0.out (by simp)); replace BK102 := Aside0.mk (KeepBut.blk hk (g' := gb102) (o := .cells #[.slice none 0 0] 26 (0, 0)) (by (with_reducible repeat (first | refine blk_drewN ?_ _ | refine blk_drew ?_ | refine blk_alloc ?_ _)); refine blk_far ?_ NB102_106.out _; (with_reducible repeat (first | refine blk_drewN ?_ _ | refine blk_drew ?_ | refine blk_alloc ?_ _)); exact BK102.out) NB102_0.out (by simp)); replace HO105 := Aside0.mk (Kd.R_mono (Kd.R_keep (IsS93.apart (show IsS93 w0 _ g s0_0 s0_1 s0_2 from i_ HI0) (rb_ (Kd.R_mono (Kd.R_far (p := ⟨gb106, 0, none⟩) (Kd.R_types HO105.out BK106.out (by decide)) (fun _ hk => hk.2) (.slice Ao13 t103.length co13)) (fun _ h_ => h_.1))) (by decide)) hk (fun _ h => h.2)) (fun _ h => h.1)); replace BK106 := Aside0.mk (KeepBut.blk hk (g' := gb106) (o := .cells #[.slice Ao13 t103.length co13] 26 (0, 0)) (by (with_reducible repeat (first | refine blk_drewN ?_ _ | refine blk_drew ?_ | refine blk_alloc ?_ _)); refine blk_put (cs := #[.slice none 0 0]) ?_ 0 _ rfl; (with_reducible repeat (first | refine blk_drewN ?_ _ | refine blk_drew ?_ | refine blk_alloc ?_ _)); exact BK106.out) NB106_0.out (by simp)); replace HK := Aside0.mk (Kept.of_keep (S := (fun k_ => (P1_0_ k_) ∨ k_ = g)) (kt_ HK) hk (.inl (.inr rfl))); replace HB := Aside0.mk (hb); replace HI0 := Aside0.mk (hi); (try clear hb); (try clear hb2); (try clear hk); (try clear hi); have hnb20 := NB102_0.out; have hnc20 := NB0_102.out; have hcz21_0 := hz_ BK102; have hfz21_0 := blk_frozen BK102.out 0))
  refine bodyPost_ret (results_cell_row rfl _ _ gb102 26 #[.slice none 0 0] (0, 0) _ rfl (by (with_reducible repeat (first | refine blk_drewN ?_ _ | refine blk_drew ?_ | refine blk_alloc ?_ _)); refine blk_put (cs := #[.slice none 0 0]) ?_ 0 _ rfl; (with_reducible repeat (first | refine blk_drewN ?_ _ | refine blk_drew ?_ | refine blk_alloc ?_ _)); exact BK102.out) Tryz.underlying26 rfl (by kernel_rfl)) rfl ?_
  exact ⟨_, t5_, by first | exact Kd.R_nil _ _ _ _ _ | exact Kd.N_nil _ _ _ _ _ | exact Kd.V_nil _ _ _ _ _ | exact Kd.Q_nil _ _ _ _ _ | exact Kd.S_nil _ _ _ _ _, i_ HI0, gb_ HB.out, kt_ HK⟩
 rw [if_neg c5] at H
 have c5b0 : (t107 == 0) = false := beq_eq_false_iff_ne.mpr c5
 have c5b1 : (t107 != 0) = true := bne_iff_ne.mpr c5
 by_cases c22 : t107 = 1
 rotate_left
 ·rw [if_neg c22] at H
  have c22b0 : (t107 == 1) = false := beq_eq_false_iff_ne.mpr c22
  have c22b1 : (t107 != 1) = true := bne_iff_ne.mpr c22
  by_cases c54 : t107 = 2
  rotate_left
  ·rw [if_neg c54] at H
   have c54b0 : (t107 == 2) = false := beq_eq_false_iff_ne.mpr c54
   have c54b1 : (t107 != 2) = true := bne_iff_ne.mpr c54
   simp only [Option.some.injEq, Prod.mk.injEq] at H
   obtain ⟨rfl, rfl, rfl⟩ := H
   obtain ⟨Ao87, co87, eo87⟩ := Kd.R_slice HO1_0.out
   subst eo87
   go_enter Tryz.func57, Tryz.ntmps57
   go_wp2_with (first | ((with_reducible refine gate_dst (N := 3) rfl ?_); refine bx_ (N := 3) (cs := #[.slice Ao87 l1_0.length co87]) (t := 26) rfl rfl ?_; intro gb101 hg w88 hbox hb; have n0_ := a1_ HO1_0 hb; have n1_ := i1_ HI0 hb; have n2_ := Aside0.mk (Kept.below (S := (fun k_ => (P1_0_ k_) ∨ k_ = g)) (kt_ HK) hb); have n3_ := b1_ HB hb; have n4_ := Aside0.mk (hbox); have n5_ := Aside0.mk ((by rw [hg]; exact (by first | exact HK.out.1 | exact (show Kept w _ (fun k_ => (P1_0_ k_) ∨ k_ = g) from kt_ HK).1) : w.heap.size ≤ gb101)); have n6_ := ge_ hg HB; have n7_ := il_ hg HI0; have n8_ := ir_ hg HI0; clear HO1_0 HI0 HK HB; have HO1_0 := n0_; have HI0 := n1_; have HK := n2_; have HB := n3_; have BK101 := n4_; have GW101 := n5_; have GE101 := n6_; have NB0_101 := n7_; have NB101_0 := n8_; clear n0_ n1_ n2_ n3_ n4_ n5_ n6_ n7_ n8_ hb hbox hg) | ((with_reducible refine gate_dst (N := 4) rfl ?_); refine bx_ (N := 4) (cs := #[.slice none 0 0]) (t := 26) rfl rfl ?_; intro gb102 hg w89 hbox hb; have n0_ := a1_ HO1_0 hb; have n1_ := i1_ HI0 hb; have n2_ := a2_ BK101 hb; have n3_ := Aside0.mk (Kept.below (S := (fun k_ => (P1_0_ k_) ∨ k_ = g)) (kt_ HK) hb); have n4_ := b1_ HB hb; have n5_ := Aside0.mk (hbox); have n6_ := Aside0.mk ((by rw [hg]; exact (by first | exact HK.out.1 | exact (show Kept w _ (fun k_ => (P1_0_ k_) ∨ k_ = g) from kt_ HK).1) : w.heap.size ≤ gb102)); have n7_ := ge_ hg HB; have n8_ := nl_ hg BK101; have n9_ := nr_ hg BK101; have n10_ := il_ hg HI0; have n11_ := ir_ hg HI0; clear HO1_0 HI0 BK101 HK HB; have HO1_0 := n0_; have HI0 := n1_; have BK101 := n2_; have HK := n3_; have HB := n4_; have BK102 := n5_; have GW102 := n6_; have GE102 := n7_; have NB101_102 := n8_; have NB102_101 := n9_; have NB0_102 := n10_; have NB102_0 := n11_; clear n0_ n1_ n2_ n3_ n4_ n5_ n6_ n7_ n8_ n9_ n10_ n11_ hb hbox hg; have hnb90 := NB101_102.out; have hnc90 := NB102_101.out; have hnb91 := NB101_0.out; have hnc91 := NB0_101.out; have hcz92_0 := hz_ BK101; have hfz92_0 := blk_frozen BK101.out 0) | ((with_reducible refine gate_callee (f := 35) rfl ?_); refine gl_ (some 8) rfl rfl Tryz.func35 #[.slice Ao87 l1_0.length co87] rfl ?_; (with_reducible refine (spec_l01Own.calls _ _ l1_0 t103 _ ?side1 ?side2 A3.out).mono ?_); (case side1 => exact c1_ HO1_0); (case side2 => exact (Kd.R_reads' HO1_0.out).2.1); rintro e w93 ⟨v104, rfl, ho0, hb⟩; refine ⟨_, rfl, ?_⟩; have HO105 := Aside0.mk (Kd.R_lower (Kd.R_new' (Kd.R_newM (M := fun k_ => (P1_0_ k_ ∨ w.heap.size ≤ k_)) ho0 (by first | exact HK.out.1 | exact (show Kept w _ (fun k_ => (P1_0_ k_) ∨ k_ = g) from kt_ HK).1) (fun k_ h_ => .inr h_)) (Kd.R_lt (rb_ HO1_0.out))) (below_size (gb_ HB.out))); replace HO1_0 := a5_ HO1_0 ho0 hb; replace HI0 := i1_ HI0 hb; replace BK101 := a2_ BK101 hb; replace BK102 := a2_ BK102 hb; replace HK := Aside0.mk (Kept.below (S := (fun k_ => (P1_0_ k_) ∨ k_ = g)) (kt_ HK) hb); replace HB := b1_ HB hb; (try clear hb); (try clear hb2); (try clear hk); (try clear hi); (try clear ho0); obtain ⟨Ao94, co94, eo94⟩ := Kd.R_slice HO105.out; subst eo94) | ((with_reducible refine gate_dst (N := 5) rfl ?_); refine bx_ (N := 5) (cs := #[.slice none 0 0]) (t := 26) rfl rfl ?_; intro gb106 hg w95 hbox hb; have n0_ := a1_ HO1_0 hb; have n1_ := a1_ HO105 hb; have n2_ := i1_ HI0 hb; have n3_ := a2_ BK101 hb; have n4_ := a2_ BK102 hb; have n5_ := Aside0.mk (Kept.below (S := (fun k_ => (P1_0_ k_) ∨ k_ = g)) (kt_ HK) hb); have n6_ := b1_ HB hb; have n7_ := Aside0.mk (hbox); have n8_ := Aside0.mk ((by rw [hg]; exact (by first | exact HK.out.1 | exact (show Kept w _ (fun k_ => (P1_0_ k_) ∨ k_ = g) from kt_ HK).1) : w.heap.size ≤ gb106)); have n9_ := ge_ hg HB; have n10_ := nl_ hg BK101; have n11_ := nr_ hg BK101; have n12_ := nl_ hg BK102; have n13_ := nr_ hg BK102; have n14_ := il_ hg HI0; have n15_ := ir_ hg HI0; clear HO1_0 HO105 HI0 BK101 BK102 HK HB; have HO1_0 := n0_; have HO105 := n1_; have HI0 := n2_; have BK101 := n3_; have BK102 := n4_; have HK := n5_; have HB := n6_; have BK106 := n7_; have GW106 := n8_; have GE106 := n9_; have NB101_106 := n10_; have NB106_101 := n11_; have NB102_106 := n12_; have NB106_102 := n13_; have NB0_106 := n14_; have NB106_0 := n15_; clear n0_ n1_ n2_ n3_ n4_ n5_ n6_ n7_ n8_ n9_ n10_ n11_ n12_ n13_ n14_ n15_ hb hbox hg; have hnb96 := NB106_101.out; have hnc96 := NB101_106.out; have hnb97 := NB106_102.out; have hnc97 := NB102_106.out; have hnb98 := NB106_0.out; have hnc98 := NB0_106.out; have hcz99_0 := hz_ BK106; have hfz99_0 := blk_frozen BK106.out 0) | ((with_reducible refine gate_callee (f := 52) rfl ?_); refine gl_ (some 11) rfl rfl Tryz.func52 #[.pointer (some ⟨g, 0, none⟩), .int .i64 50] rfl ?_; (with_reducible refine (spec_l01Next.calls g s0_0 s0_1 s0_2 50 t107 t108 t109 w0 _ ?side1 ?side2 A4.out).mono ?_); (case side1 => exact i_ HI0); (case side2 => exact gb_ HB.out); rintro e w100 ⟨rfl, hi, hb, hk⟩; refine ⟨_, rfl, ?_⟩; replace HO1_0 := Aside0.mk (Kd.R_mono (Kd.R_keep (IsS93.apart (show IsS93 w0 _ g s0_0 s0_1 s0_2 from i_ HI0) (rb_ (Kd.R_mono (Kd.R_far (p := ⟨gb106, 0, none⟩) (Kd.R_types HO1_0.out BK106.out (by decide)) (fun _ hk => hk.2) (.slice Ao94 t103.length co94)) (fun _ h_ => h_.1))) (by decide)) hk (fun _ h => h.2)) (fun _ h => h.1)); replace BK101 := Aside0.mk (KeepBut.blk hk (g' := gb101) (o := .cells #[.slice Ao87 l1_0.length co87] 26 (0, 0)) (by (with_reducible repeat (first | refine blk_drewN ?_ _ | refine blk_drew ?_ | refine blk_alloc ?_ _)); refine blk_far ?_ NB101_106.out _; (with_reducible repeat (first | refine blk_drewN ?_ _ | refine blk_drew ?_ | refine blk_alloc ?_ _)); exact BK101.out) NB101_0.out (by simp)); replace BK102 := Aside0.mk (KeepBut.blk hk (g' := gb102) (o := .cells #[.slice none 0 0] 26 (0, 0)) (by (with_reducible repeat (first | refine blk_drewN ?_ _ | refine blk_drew ?_ | refine blk_alloc ?_ _)); refine blk_far ?_ NB102_106.out _; (with_reducible repeat (first | refine blk_drewN ?_ _ | refine blk_drew ?_ | refine blk_alloc ?_ _)); exact BK102.out) NB102_0.out (by simp)); replace HO105 := Aside0.mk (Kd.R_mono (Kd.R_keep (IsS93.apart (show IsS93 w0 _ g s0_0 s0_1 s0_2 from i_ HI0) (rb_ (Kd.R_mono (Kd.R_far (p := ⟨gb106, 0, none⟩) (Kd.R_types HO105.out BK106.out (by decide)) (fun _ hk => hk.2) (.slice Ao94 t103.length co94)) (fun _ h_ => h_.1))) (by decide)) hk (fun _ h => h.2)) (fun _ h => h.1)); replace BK106 := Aside0.mk (KeepBut.blk hk (g' := gb106) (o := .cells #[.slice Ao94 t103.length co94] 26 (0, 0)) (by (with_reducible repeat (first | refine blk_drewN ?_ _ | refine blk_drew ?_ | refine blk_alloc ?_ _)); refine blk_put (cs := #[.slice none 0 0]) ?_ 0 _ rfl; (with_reducible repeat (first | refine blk_drewN ?_ _ | refine blk_drew ?_ | refine blk_alloc ?_ _)); exact BK106.out) NB106_0.out (by simp)); replace HK := Aside0.mk (Kept.of_keep (S := (fun k_ => (P1_0_ k_) ∨ k_ = g)) (kt_ HK) hk (.inl (.inr rfl))); replace HB := Aside0.mk (hb); replace HI0 := Aside0.mk (hi); (try clear hb); (try clear hb2); (try clear hk); (try clear hi); have hcz101_0 := hz_ BK101; have hfz101_0 := blk_frozen BK101.out 0; have hnb102 := NB102_0.out; have hnc102 := NB0_102.out; have hcz103_0 := hz_ BK102; have hfz103_0 := blk_frozen BK102.out 0))
   refine bodyPost_ret (results_cell_row rfl _ _ gb102 26 #[.slice Ao87 l1_0.length co87] (0, 0) _ rfl (by (with_reducible repeat (first | refine blk_drewN ?_ _ | refine blk_drew ?_ | refine blk_alloc ?_ _)); refine blk_put (cs := #[.slice none 0 0]) ?_ 0 _ rfl; (with_reducible repeat (first | refine blk_drewN ?_ _ | refine blk_drew ?_ | refine blk_alloc ?_ _)); exact BK102.out) Tryz.underlying26 rfl (by kernel_rfl)) rfl ?_
   exact ⟨_, t5_, by (with_reducible repeat (first | apply Kd.R_alloc | apply Kd.R_drewN | apply Kd.R_drew)); refine Kd.R_mono (show Kd.R (Kd.int .i64) 2 _ w0.heap.size (fun k_ => (PX_ k_ ∨ w.heap.size ≤ k_)) _ _ from ?_) (fun k_ h_ => Or.imp_left Or.inl h_); exact Kd.R_mono (Kd.R_far (p := ⟨gb102, 0, none⟩) (Kd.R_types HO1_0.out BK102.out (by decide)) (fun _ hk => hk.2) (.slice Ao87 l1_0.length co87)) (fun _ hk => hk.1.1), i_ HI0, gb_ HB.out, kt_ HK⟩
  rw [if_pos c54] at H
  have c54b0 : (t107 == 2) = true := beq_iff_eq.mpr c54
  have c54b1 : (t107 != 2) = false := bne_eq_false_iff_eq.mpr c54
  clear c54
  have H' := Aside0.mk H
  clear H
  obtain ⟨Ao55, co55, eo55⟩ := Kd.R_slice HO1_0.out
  subst eo55
  go_enter Tryz.func57, Tryz.ntmps57
  go_wp2_with (first | ((with_reducible refine gate_dst (N := 3) rfl ?_); refine bx_ (N := 3) (cs := #[.slice Ao55 l1_0.length co55]) (t := 26) rfl rfl ?_; intro gb101 hg w56 hbox hb; have n0_ := a1_ HO1_0 hb; have n1_ := i1_ HI0 hb; have n2_ := Aside0.mk (Kept.below (S := (fun k_ => (P1_0_ k_) ∨ k_ = g)) (kt_ HK) hb); have n3_ := b1_ HB hb; have n4_ := Aside0.mk (hbox); have n5_ := Aside0.mk ((by rw [hg]; exact (by first | exact HK.out.1 | exact (show Kept w _ (fun k_ => (P1_0_ k_) ∨ k_ = g) from kt_ HK).1) : w.heap.size ≤ gb101)); have n6_ := ge_ hg HB; have n7_ := il_ hg HI0; have n8_ := ir_ hg HI0; clear HO1_0 HI0 HK HB; have HO1_0 := n0_; have HI0 := n1_; have HK := n2_; have HB := n3_; have BK101 := n4_; have GW101 := n5_; have GE101 := n6_; have NB0_101 := n7_; have NB101_0 := n8_; clear n0_ n1_ n2_ n3_ n4_ n5_ n6_ n7_ n8_ hb hbox hg) | ((with_reducible refine gate_dst (N := 4) rfl ?_); refine bx_ (N := 4) (cs := #[.slice none 0 0]) (t := 26) rfl rfl ?_; intro gb102 hg w57 hbox hb; have n0_ := a1_ HO1_0 hb; have n1_ := i1_ HI0 hb; have n2_ := a2_ BK101 hb; have n3_ := Aside0.mk (Kept.below (S := (fun k_ => (P1_0_ k_) ∨ k_ = g)) (kt_ HK) hb); have n4_ := b1_ HB hb; have n5_ := Aside0.mk (hbox); have n6_ := Aside0.mk ((by rw [hg]; exact (by first | exact HK.out.1 | exact (show Kept w _ (fun k_ => (P1_0_ k_) ∨ k_ = g) from kt_ HK).1) : w.heap.size ≤ gb102)); have n7_ := ge_ hg HB; have n8_ := nl_ hg BK101; have n9_ := nr_ hg BK101; have n10_ := il_ hg HI0; have n11_ := ir_ hg HI0; clear HO1_0 HI0 BK101 HK HB; have HO1_0 := n0_; have HI0 := n1_; have BK101 := n2_; have HK := n3_; have HB := n4_; have BK102 := n5_; have GW102 := n6_; have GE102 := n7_; have NB101_102 := n8_; have NB102_101 := n9_; have NB0_102 := n10_; have NB102_0 := n11_; clear n0_ n1_ n2_ n3_ n4_ n5_ n6_ n7_ n8_ n9_ n10_ n11_ hb hbox hg; have hnb58 := NB101_102.out; have hnc58 := NB102_101.out; have hnb59 := NB101_0.out; have hnc59 := NB0_101.out; have hcz60_0 := hz_ BK101; have hfz60_0 := blk_frozen BK101.out 0) | ((with_reducible refine gate_callee (f := 35) rfl ?_); refine gl_ (some 8) rfl rfl Tryz.func35 #[.slice Ao55 l1_0.length co55] rfl ?_; (with_reducible refine (spec_l01Own.calls _ _ l1_0 t103 _ ?side1 ?side2 A3.out).mono ?_); (case side1 => exact c1_ HO1_0); (case side2 => exact (Kd.R_reads' HO1_0.out).2.1); rintro e w61 ⟨v104, rfl, ho0, hb⟩; refine ⟨_, rfl, ?_⟩; have HO105 := Aside0.mk (Kd.R_lower (Kd.R_new' (Kd.R_newM (M := fun k_ => (P1_0_ k_ ∨ w.heap.size ≤ k_)) ho0 (by first | exact HK.out.1 | exact (show Kept w _ (fun k_ => (P1_0_ k_) ∨ k_ = g) from kt_ HK).1) (fun k_ h_ => .inr h_)) (Kd.R_lt (rb_ HO1_0.out))) (below_size (gb_ HB.out))); replace HO1_0 := a5_ HO1_0 ho0 hb; replace HI0 := i1_ HI0 hb; replace BK101 := a2_ BK101 hb; replace BK102 := a2_ BK102 hb; replace HK := Aside0.mk (Kept.below (S := (fun k_ => (P1_0_ k_) ∨ k_ = g)) (kt_ HK) hb); replace HB := b1_ HB hb; (try clear hb); (try clear hb2); (try clear hk); (try clear hi); (try clear ho0); obtain ⟨Ao62, co62, eo62⟩ := Kd.R_slice HO105.out; subst eo62) | ((with_reducible refine gate_dst (N := 5) rfl ?_); refine bx_ (N := 5) (cs := #[.slice none 0 0]) (t := 26) rfl rfl ?_; intro gb106 hg w63 hbox hb; have n0_ := a1_ HO1_0 hb; have n1_ := a1_ HO105 hb; have n2_ := i1_ HI0 hb; have n3_ := a2_ BK101 hb; have n4_ := a2_ BK102 hb; have n5_ := Aside0.mk (Kept.below (S := (fun k_ => (P1_0_ k_) ∨ k_ = g)) (kt_ HK) hb); have n6_ := b1_ HB hb; have n7_ := Aside0.mk (hbox); have n8_ := Aside0.mk ((by rw [hg]; exact (by first | exact HK.out.1 | exact (show Kept w _ (fun k_ => (P1_0_ k_) ∨ k_ = g) from kt_ HK).1) : w.heap.size ≤ gb106)); have n9_ := ge_ hg HB; have n10_ := nl_ hg BK101; have n11_ := nr_ hg BK101; have n12_ := nl_ hg BK102; have n13_ := nr_ hg BK102; have n14_ := il_ hg HI0; have n15_ := ir_ hg HI0; clear HO1_0 HO105 HI0 BK101 BK102 HK HB; have HO1_0 := n0_; have HO105 := n1_; have HI0 := n2_; have BK101 := n3_; have BK102 := n4_; have HK := n5_; have HB := n6_; have BK106 := n7_; have GW106 := n8_; have GE106 := n9_; have NB101_106 := n10_; have NB106_101 := n11_; have NB102_106 := n12_; have NB106_102 := n13_; have NB0_106 := n14_; have NB106_0 := n15_; clear n0_ n1_ n2_ n3_ n4_ n5_ n6_ n7_ n8_ n9_ n10_ n11_ n12_ n13_ n14_ n15_ hb hbox hg; have hnb64 := NB106_101.out; have hnc64 := NB101_106.out; have hnb65 := NB106_102.out; have hnc65 := NB102_106.out; have hnb66 := NB106_0.out; have hnc66 := NB0_106.out; have hcz67_0 := hz_ BK106; have hfz67_0 := blk_frozen BK106.out 0) | ((with_reducible refine gate_callee (f := 52) rfl ?_); refine gl_ (some 11) rfl rfl Tryz.func52 #[.pointer (some ⟨g, 0, none⟩), .int .i64 50] rfl ?_; (with_reducible refine (spec_l01Next.calls g s0_0 s0_1 s0_2 50 t107 t108 t109 w0 _ ?side1 ?side2 A4.out).mono ?_); (case side1 => exact i_ HI0); (case side2 => exact gb_ HB.out); rintro e w68 ⟨rfl, hi, hb, hk⟩; refine ⟨_, rfl, ?_⟩; replace HO1_0 := Aside0.mk (Kd.R_mono (Kd.R_keep (IsS93.apart (show IsS93 w0 _ g s0_0 s0_1 s0_2 from i_ HI0) (rb_ (Kd.R_mono (Kd.R_far (p := ⟨gb106, 0, none⟩) (Kd.R_types HO1_0.out BK106.out (by decide)) (fun _ hk => hk.2) (.slice Ao62 t103.length co62)) (fun _ h_ => h_.1))) (by decide)) hk (fun _ h => h.2)) (fun _ h => h.1)); replace BK101 := Aside0.mk (KeepBut.blk hk (g' := gb101) (o := .cells #[.slice Ao55 l1_0.length co55] 26 (0, 0)) (by (with_reducible repeat (first | refine blk_drewN ?_ _ | refine blk_drew ?_ | refine blk_alloc ?_ _)); refine blk_far ?_ NB101_106.out _; (with_reducible repeat (first | refine blk_drewN ?_ _ | refine blk_drew ?_ | refine blk_alloc ?_ _)); exact BK101.out) NB101_0.out (by simp)); replace BK102 := Aside0.mk (KeepBut.blk hk (g' := gb102) (o := .cells #[.slice none 0 0] 26 (0, 0)) (by (with_reducible repeat (first | refine blk_drewN ?_ _ | refine blk_drew ?_ | refine blk_alloc ?_ _)); refine blk_far ?_ NB102_106.out _; (with_reducible repeat (first | refine blk_drewN ?_ _ | refine blk_drew ?_ | refine blk_alloc ?_ _)); exact BK102.out) NB102_0.out (by simp)); replace HO105 := Aside0.mk (Kd.R_mono (Kd.R_keep (IsS93.apart (show IsS93 w0 _ g s0_0 s0_1 s0_2 from i_ HI0) (rb_ (Kd.R_mono (Kd.R_far (p := ⟨gb106, 0, none⟩) (Kd.R_types HO105.out BK106.out (by decide)) (fun _ hk => hk.2) (.slice Ao62 t103.length co62)) (fun _ h_ => h_.1))) (by decide)) hk (fun _ h => h.2)) (fun _ h => h.1)); replace BK106 := Aside0.mk (KeepBut.blk hk (g' := gb106) (o := .cells #[.slice Ao62 t103.length co62] 26 (0, 0)) (by (with_reducible repeat (first | refine blk_drewN ?_ _ | refine blk_drew ?_ | refine blk_alloc ?_ _)); refine blk_put (cs := #[.slice none 0 0]) ?_ 0 _ rfl; (with_reducible repeat (first | refine blk_drewN ?_ _ | refine blk_drew ?_ | refine blk_alloc ?_ _)); exact BK106.out) NB106_0.out (by simp)); replace HK := Aside0.mk (Kept.of_keep (S := (fun k_ => (P1_0_ k_) ∨ k_ = g)) (kt_ HK) hk (.inl (.inr rfl))); replace HB := Aside0.mk (hb); replace HI0 := Aside0.mk (hi); (try clear hb); (try clear hb2); (try clear hk); (try clear hi)))
  go_loopg [] k (fun kq w' => ∃ (x107000_1 : List Int) (u107000 : Value), Aside0 (spec_l01Bad.l0 kq s0_0 t108 t109 x107000_1 = some (r1, r2, r3)) ∧ Aside0 (kq ≤ k) ∧ Aside0 (Kd.R (Kd.int .i64) 2 w' w0.heap.size (fun k_ => (PX_ k_ ∨ w.heap.size ≤ k_) ∧ OB_ k_ u107000) (.slice Ao55 l1_0.length co55) l1_0) ∧ Aside0 (Kd.R (Kd.int .i64) 2 w' w0.heap.size (fun k_ => (P1_0_ k_ ∨ w.heap.size ≤ k_) ∧ OB_ k_ (.slice Ao55 l1_0.length co55)) u107000 x107000_1) ∧ Aside0 (w'.heap[gb101]? = some (.cells #[(.slice Ao55 l1_0.length co55)] 26 (0, 0))) ∧ Aside0 (w'.heap[gb102]? = some (.cells #[(.slice none 0 0)] 26 (0, 0))) ∧ Aside0 (w'.heap[gb106]? = some (.cells #[u107000] 26 (0, 0))) ∧ Aside0 (IsS93 w0 w' g s0_0 t108 t109) ∧ Aside0 (Kept w w' (fun k_ => (P1_0_ k_) ∨ k_ = g)) ∧ Aside0 (Below w0.heap.size w0 w'))
  case atStart => exact ⟨(t103), (.slice Ao62 t103.length co62), H', ⟨Nat.le_refl _⟩, ⟨rb_ HO1_0.out⟩, ⟨rb_ (Kd.R_mono HO105.out (fun _ hk => ⟨hk.1.1, hk.2⟩))⟩, ⟨bb_ BK101.out⟩, ⟨bb_ BK102.out⟩, ⟨bb_ BK106.out⟩, ⟨i_ HI0⟩, ⟨kt_ HK⟩, ⟨gb_ HB.out⟩⟩
  clear H'
  try clear c1
  try clear c2
  try clear p2
  try clear q2
  try clear hx2
  try clear hf2
  try clear c3
  try clear c5
  try clear c5b0
  try clear c5b1
  try clear c6
  try clear c9
  try clear c10
  try clear c15
  try clear c16
  try clear c17
  try clear c20
  try clear c22
  try clear c22b0
  try clear c22b1
  try clear c25
  try clear c25b0
  try clear c26
  try clear c26b0
  try clear p27
  try clear q27
  try clear hx27
  try clear hf27
  try clear c31
  try clear c32
  try clear c35
  try clear c37
  try clear c38
  try clear c39
  try clear c51
  try clear c52
  try clear c54
  try clear c54b0
  try clear c54b1
  try clear c57
  try clear c58
  try clear c59
  try clear c64
  try clear c65
  try clear c66
  try clear hcz11_0
  try clear hcz18_0
  try clear hcz21_0
  try clear hcz33_0
  try clear hcz40_0
  try clear hcz51_0
  try clear hcz53_0
  try clear hcz60_0
  try clear hcz67_0
  try clear hfz11_0
  try clear hfz18_0
  try clear hfz21_0
  try clear hfz33_0
  try clear hfz40_0
  try clear hfz51_0
  try clear hfz53_0
  try clear hfz60_0
  try clear hfz67_0
  try clear hx27_0
  try clear p27
  try clear q27
  obtain ⟨x107000_1, u107000, HA, HK1, HO_102000, HO_107000, BK101, BK102, BK106, HI0, HK, HB⟩ := hrel
  obtain _ | k1 := gk
  ·exact absurd HA.out (by simp [spec_l01Bad.l0])
  have H := HA.out
  clear HA
  simp only [spec_l01Bad.l0] at H
  by_cases c69 : (x107000_1.length : Int) < 6
  rotate_left
  ·rw [if_neg c69] at H
   have c69b0 := decide_eq_false c69
   have c69b1 : decide (x107000_1.length < 6) = false := decide_eq_false (by omega)
   clear c69
   simp only [Option.some.injEq, Prod.mk.injEq] at H
   obtain ⟨rfl, rfl, rfl⟩ := H
   have hnb79 := NB106_101.out
   have hnc79 := NB101_106.out
   have hnb80 := NB106_102.out
   have hnc80 := NB102_106.out
   have hnb81 := NB106_0.out
   have hnc81 := NB0_106.out
   have hcz82_0 := hz_ BK106
   have hfz82_0 := blk_frozen BK106.out 0
   obtain ⟨Ao83, co83, eo83⟩ := Kd.R_slice HO_107000.out
   subst eo83
   have hnb84 := NB102_101.out
   have hnc84 := NB101_102.out
   have hnb85 := NB102_0.out
   have hnc85 := NB0_102.out
   have hcz86_0 := hz_ BK102
   have hfz86_0 := blk_frozen BK102.out 0
   go_wp2
   refine bodyPost_ret (results_cell_row rfl _ _ gb102 26 #[.slice Ao83 x107000_1.length co83] (0, 0) _ rfl (by (with_reducible repeat (first | refine blk_drewN ?_ _ | refine blk_drew ?_ | refine blk_alloc ?_ _)); refine blk_put (cs := #[.slice none 0 0]) ?_ 0 _ rfl; (with_reducible repeat (first | refine blk_drewN ?_ _ | refine blk_drew ?_ | refine blk_alloc ?_ _)); exact BK102.out) Tryz.underlying26 rfl (by kernel_rfl)) rfl ?_
   exact ⟨_, t5_, by (with_reducible repeat (first | apply Kd.R_alloc | apply Kd.R_drewN | apply Kd.R_drew)); refine Kd.R_mono (show Kd.R (Kd.int .i64) 2 _ w0.heap.size (fun k_ => (P1_0_ k_ ∨ w.heap.size ≤ k_)) _ _ from ?_) (fun k_ h_ => Or.imp_left Or.inr h_); exact Kd.R_mono (Kd.R_far (p := ⟨gb102, 0, none⟩) (Kd.R_types HO_107000.out BK102.out (by decide)) (fun _ hk => hk.2) (.slice Ao83 x107000_1.length co83)) (fun _ hk => hk.1.1), i_ HI0, gb_ HB.out, kt_ HK⟩
  rw [if_pos c69] at H
  have c69b0 := decide_eq_true c69
  have c69b1 : decide (x107000_1.length < 6) = true := decide_eq_true (by omega)
  clear c69
  replace H := ip_ H
  obtain ⟨c70, H⟩ := H
  have LMc70 := Aside0.mk c70
  clear c70
  obtain ⟨y120, hy120⟩ : ∃ y_ : List Int, y_ = (x107000_1 ++ [4]) := ⟨_, rfl⟩
  replace H : (spec_l01Bad.l0 k1 s0_0 t108 t109 y120) = some (r1, r2, r3) := y_ H
  have Ny120 := Aside0.mk hy120
  clear hy120
  have H' := Aside0.mk H
  clear H
  have hnb71 := NB106_101.out
  have hnc71 := NB101_106.out
  have hnb72 := NB106_102.out
  have hnc72 := NB102_106.out
  have hnb73 := NB106_0.out
  have hnc73 := NB0_106.out
  have hcz74_0 := hz_ BK106
  have hfz74_0 := blk_frozen BK106.out 0
  obtain ⟨Ao75, co75, eo75⟩ := Kd.R_slice HO_107000.out
  subst eo75
  go_wp2_with (first | ((with_reducible refine gate_builtin (b := .append) (xs := #[.tmp 36, .tmp 37]) rfl ?_); at_builtin; refine Kd.R_append (Kd.int .i64) (w0 := w0) w0.heap.size rfl (.tmp 36) (.tmp 37) 24 2 (.int .i64 0) 8 rfl Tryz.underlying24 info2 rfl (by decide) (by omega) (.slice Ao75 x107000_1.length co75) x107000_1 4 [.int .i64 4] (fun k_ => (P1_0_ k_ ∨ w.heap.size ≤ k_) ∧ OB_ k_ (.slice Ao55 l1_0.length co55)) (fun _ => False) rfl rfl ?aP (fun _ hk => hk.elim) ?aF ?aO ?aB ?aS ?aL ?_; (case aP => exact rfl); (case aB => exact (gb_ HB.out)); (case aF => exact (fun k_ hk => ⟨(.inr (Nat.le_trans (by first | exact HK.out.1 | exact (show Kept w _ (fun k_ => (P1_0_ k_) ∨ k_ = g) from kt_ HK).1) hk)), Kd.fresh' (Kd.R_lt (rb_ HO_102000.out)) k_ hk⟩)); (case aO => exact (rb_ HO_107000.out)); (case aS => exact (below_size (gb_ HB.out))); (case aL => have := LMc70.out; omega); intro v121 w76 ho hb hg hat; rw [← Ny120.out] at ho; replace HO_102000 := Aside0.mk (Kd.R_after (ok := (fun k_ => (PX_ k_ ∨ w.heap.size ≤ k_))) (rb_ HO_102000.out) hg hat); replace BK101 := Aside0.mk (blk_grown (g := gb101) (o := .cells #[.slice Ao55 l1_0.length co55] 26 (0, 0)) (bb_ BK101.out) hg (Kd.R_ne HO_107000.out BK101.out (by decide))); replace BK102 := Aside0.mk (blk_grown (g := gb102) (o := .cells #[.slice none 0 0] 26 (0, 0)) (bb_ BK102.out) hg (Kd.R_ne HO_107000.out BK102.out (by decide))); replace BK106 := Aside0.mk (blk_grown (g := gb106) (o := .cells #[.slice Ao75 x107000_1.length co75] 26 (0, 0)) (bb_ BK106.out) hg (Kd.R_ne HO_107000.out BK106.out (by decide))); replace HI0 := Aside0.mk (IsS93.grown (i_ HI0) hg (IsS93.own_ne HI0.out HO_107000.out (by decide))); replace HB := Aside0.mk (hb); replace HK := Aside0.mk (Kept.of_grown (S := (fun k_ => (P1_0_ k_) ∨ k_ = g)) hg (kt_ HK) (fun k_ e_ => Or.imp_left Or.inl ((HO_107000.out.1 k_ e_).1))); have HO122 := Aside0.mk (ho); clear HO_107000 ho hb hg hat; obtain ⟨Ao77, co77, eo77⟩ := Kd.R_slice HO122.out; subst eo77; have hcz78_0 := hz_ BK106; have hfz78_0 := blk_frozen BK106.out 0))
  go_roundg k1
  case measure => have := HK1.out; omega
  case rel => exact ⟨(y120), (.slice Ao77 y120.length co77), H', ⟨by have := HK1.out; omega⟩, ⟨by (with_reducible repeat (first | apply Kd.R_alloc | apply Kd.R_drewN | apply Kd.R_drew)); exact Kd.R_mono (Kd.R_far (p := ⟨gb106, 0, none⟩) (Kd.R_types HO_102000.out BK106.out (by decide)) (fun _ hk => hk.2) (.slice Ao77 y120.length co77)) (fun _ hk => ⟨hk.1.1, hk.1.2⟩)⟩, ⟨by (with_reducible repeat (first | apply Kd.R_alloc | apply Kd.R_drewN | apply Kd.R_drew)); exact Kd.R_mono (Kd.R_far (p := ⟨gb106, 0, none⟩) (Kd.R_types HO122.out BK106.out (by decide)) (fun _ hk => hk.2) (.slice Ao77 y120.length co77)) (fun _ hk => ⟨hk.1.1, hk.1.2⟩)⟩, ⟨by (with_reducible repeat (first | refine blk_drewN ?_ _ | refine blk_drew ?_ | refine blk_alloc ?_ _)); refine blk_far ?_ NB101_106.out _; (with_reducible repeat (first | refine blk_drewN ?_ _ | refine blk_drew ?_ | refine blk_alloc ?_ _)); exact BK101.out⟩, ⟨by (with_reducible repeat (first | refine blk_drewN ?_ _ | refine blk_drew ?_ | refine blk_alloc ?_ _)); refine blk_far ?_ NB102_106.out _; (with_reducible repeat (first | refine blk_drewN ?_ _ | refine blk_drew ?_ | refine blk_alloc ?_ _)); exact BK102.out⟩, ⟨by (with_reducible repeat (first | refine blk_drewN ?_ _ | refine blk_drew ?_ | refine blk_alloc ?_ _)); refine blk_put (cs := #[.slice Ao75 x107000_1.length co75]) ?_ 0 _ rfl; (with_reducible repeat (first | refine blk_drewN ?_ _ | refine blk_drew ?_ | refine blk_alloc ?_ _)); exact BK106.out⟩, ⟨i_ HI0⟩, ⟨kt_ HK⟩, ⟨gb_ HB.out⟩⟩
 rw [if_pos c22] at H
 have c22b0 : (t107 == 1) = true := beq_iff_eq.mpr c22
 have c22b1 : (t107 != 1) = false := bne_eq_false_iff_eq.mpr c22
 clear c22
 replace H := bd_ H
 obtain ⟨⟨t110, t111, t112⟩, A23, H⟩ := H
 try dsimp only at H
 obtain ⟨y113, hy113⟩ : ∃ y_ : List Int, y_ = (([1, 5, 0, (-1), 1099511627776] : List Int)) := ⟨_, rfl⟩
 replace H : ((spec_l01Pick.f s0_0 t111 t112 y113).bind fun bt116 => (if 0 ≤ t110 then (if t110 < (t103.length : Int) then (some ((t103.set (t110 : Int).toNat bt116.1), bt116.2.1, bt116.2.2)) else (none)) else (none))) = some (r1, r2, r3) := y_ H
 have Ny113 := Aside0.mk hy113
 clear hy113
 replace H := bd_ H
 obtain ⟨⟨t116, t117, t118⟩, A24, H⟩ := H
 try dsimp only at H
 replace H := id_ H
 obtain ⟨c25b0, H⟩ := H
 replace H := id_ H
 obtain ⟨c26b0, H⟩ := H
 obtain ⟨y119, hy119⟩ : ∃ y_ : List Int, y_ = (t103.set (t110 : Int).toNat t116) := ⟨_, rfl⟩
 replace H : (some (y119, t117, t118)) = some (r1, r2, r3) := y_ H
 have Ny119 := Aside0.mk hy119
 clear hy119
 simp only [Option.some.injEq, Prod.mk.injEq] at H
 obtain ⟨rfl, rfl, rfl⟩ := H
 obtain ⟨Ao28, co28, eo28⟩ := Kd.R_slice HO1_0.out
 subst eo28
 go_enter Tryz.func57, Tryz.ntmps57
 try go_wp2_with (first | ((with_reducible refine gate_dst (N := 3) rfl ?_); refine bx_ (N := 3) (cs := #[.slice Ao28 l1_0.length co28]) (t := 26) rfl rfl ?_; intro gb101 hg w29 hbox hb; have n0_ := a1_ HO1_0 hb; have n1_ := i1_ HI0 hb; have n2_ := Aside0.mk (Kept.below (S := (fun k_ => (P1_0_ k_) ∨ k_ = g)) (kt_ HK) hb); have n3_ := b1_ HB hb; have n4_ := Aside0.mk (hbox); have n5_ := Aside0.mk ((by rw [hg]; exact (by first | exact HK.out.1 | exact (show Kept w _ (fun k_ => (P1_0_ k_) ∨ k_ = g) from kt_ HK).1) : w.heap.size ≤ gb101)); have n6_ := ge_ hg HB; have n7_ := il_ hg HI0; have n8_ := ir_ hg HI0; clear HO1_0 HI0 HK HB; have HO1_0 := n0_; have HI0 := n1_; have HK := n2_; have HB := n3_; have BK101 := n4_; have GW101 := n5_; have GE101 := n6_; have NB0_101 := n7_; have NB101_0 := n8_; clear n0_ n1_ n2_ n3_ n4_ n5_ n6_ n7_ n8_ hb hbox hg) | ((with_reducible refine gate_dst (N := 4) rfl ?_); refine bx_ (N := 4) (cs := #[.slice none 0 0]) (t := 26) rfl rfl ?_; intro gb102 hg w30 hbox hb; have n0_ := a1_ HO1_0 hb; have n1_ := i1_ HI0 hb; have n2_ := a2_ BK101 hb; have n3_ := Aside0.mk (Kept.below (S := (fun k_ => (P1_0_ k_) ∨ k_ = g)) (kt_ HK) hb); have n4_ := b1_ HB hb; have n5_ := Aside0.mk (hbox); have n6_ := Aside0.mk ((by rw [hg]; exact (by first | exact HK.out.1 | exact (show Kept w _ (fun k_ => (P1_0_ k_) ∨ k_ = g) from kt_ HK).1) : w.heap.size ≤ gb102)); have n7_ := ge_ hg HB; have n8_ := nl_ hg BK101; have n9_ := nr_ hg BK101; have n10_ := il_ hg HI0; have n11_ := ir_ hg HI0; clear HO1_0 HI0 BK101 HK HB; have HO1_0 := n0_; have HI0 := n1_; have BK101 := n2_; have HK := n3_; have HB := n4_; have BK102 := n5_; have GW102 := n6_; have GE102 := n7_; have NB101_102 := n8_; have NB102_101 := n9_; have NB0_102 := n10_; have NB102_0 := n11_; clear n0_ n1_ n2_ n3_ n4_ n5_ n6_ n7_ n8_ n9_ n10_ n11_ hb hbox hg; have hnb31 := NB101_102.out; have hnc31 := NB102_101.out; have hnb32 := NB101_0.out; have hnc32 := NB0_101.out; have hcz33_0 := hz_ BK101; have hfz33_0 := blk_frozen BK101.out 0) | ((with_reducible refine gate_callee (f := 35) rfl ?_); refine gl_ (some 8) rfl rfl Tryz.func35 #[.slice Ao28 l1_0.length co28] rfl ?_; (with_reducible refine (spec_l01Own.calls _ _ l1_0 t103 _ ?side1 ?side2 A3.out).mono ?_); (case side1 => exact c1_ HO1_0); (case side2 => exact (Kd.R_reads' HO1_0.out).2.1); rintro e w34 ⟨v104, rfl, ho0, hb⟩; refine ⟨_, rfl, ?_⟩; have HO105 := Aside0.mk (Kd.R_lower (Kd.R_new' (Kd.R_newM (M := fun k_ => (P1_0_ k_ ∨ w.heap.size ≤ k_)) ho0 (by first | exact HK.out.1 | exact (show Kept w _ (fun k_ => (P1_0_ k_) ∨ k_ = g) from kt_ HK).1) (fun k_ h_ => .inr h_)) (Kd.R_lt (rb_ HO1_0.out))) (below_size (gb_ HB.out))); replace HO1_0 := a5_ HO1_0 ho0 hb; replace HI0 := i1_ HI0 hb; replace BK101 := a2_ BK101 hb; replace BK102 := a2_ BK102 hb; replace HK := Aside0.mk (Kept.below (S := (fun k_ => (P1_0_ k_) ∨ k_ = g)) (kt_ HK) hb); replace HB := b1_ HB hb; (try clear hb); (try clear hb2); (try clear hk); (try clear hi); (try clear ho0); obtain ⟨Ao35, co35, eo35⟩ := Kd.R_slice HO105.out; subst eo35) | ((with_reducible refine gate_dst (N := 5) rfl ?_); refine bx_ (N := 5) (cs := #[.slice none 0 0]) (t := 26) rfl rfl ?_; intro gb106 hg w36 hbox hb; have n0_ := a1_ HO1_0 hb; have n1_ := a1_ HO105 hb; have n2_ := i1_ HI0 hb; have n3_ := a2_ BK101 hb; have n4_ := a2_ BK102 hb; have n5_ := Aside0.mk (Kept.below (S := (fun k_ => (P1_0_ k_) ∨ k_ = g)) (kt_ HK) hb); have n6_ := b1_ HB hb; have n7_ := Aside0.mk (hbox); have n8_ := Aside0.mk ((by rw [hg]; exact (by first | exact HK.out.1 | exact (show Kept w _ (fun k_ => (P1_0_ k_) ∨ k_ = g) from kt_ HK).1) : w.heap.size ≤ gb106)); have n9_ := ge_ hg HB; have n10_ := nl_ hg BK101; have n11_ := nr_ hg BK101; have n12_ := nl_ hg BK102; have n13_ := nr_ hg BK102; have n14_ := il_ hg HI0; have n15_ := ir_ hg HI0; clear HO1_0 HO105 HI0 BK101 BK102 HK HB; have HO1_0 := n0_; have HO105 := n1_; have HI0 := n2_; have BK101 := n3_; have BK102 := n4_; have HK := n5_; have HB := n6_; have BK106 := n7_; have GW106 := n8_; have GE106 := n9_; have NB101_106 := n10_; have NB106_101 := n11_; have NB102_106 := n12_; have NB106_102 := n13_; have NB0_106 := n14_; have NB106_0 := n15_; clear n0_ n1_ n2_ n3_ n4_ n5_ n6_ n7_ n8_ n9_ n10_ n11_ n12_ n13_ n14_ n15_ hb hbox hg; have hnb37 := NB106_101.out; have hnc37 := NB101_106.out; have hnb38 := NB106_102.out; have hnc38 := NB102_106.out; have hnb39 := NB106_0.out; have hnc39 := NB0_106.out; have hcz40_0 := hz_ BK106; have hfz40_0 := blk_frozen BK106.out 0) | ((with_reducible refine gate_callee (f := 52) rfl ?_); refine gl_ (some 11) rfl rfl Tryz.func52 #[.pointer (some ⟨g, 0, none⟩), .int .i64 50] rfl ?_; (with_reducible refine (spec_l01Next.calls g s0_0 s0_1 s0_2 50 t107 t108 t109 w0 _ ?side1 ?side2 A4.out).mono ?_); (case side1 => exact i_ HI0); (case side2 => exact gb_ HB.out); rintro e w41 ⟨rfl, hi, hb, hk⟩; refine ⟨_, rfl, ?_⟩; replace HO1_0 := Aside0.mk (Kd.R_mono (Kd.R_keep (IsS93.apart (show IsS93 w0 _ g s0_0 s0_1 s0_2 from i_ HI0) (rb_ (Kd.R_mono (Kd.R_far (p := ⟨gb106, 0, none⟩) (Kd.R_types HO1_0.out BK106.out (by decide)) (fun _ hk => hk.2) (.slice Ao35 t103.length co35)) (fun _ h_ => h_.1))) (by decide)) hk (fun _ h => h.2)) (fun _ h => h.1)); replace BK101 := Aside0.mk (KeepBut.blk hk (g' := gb101) (o := .cells #[.slice Ao28 l1_0.length co28] 26 (0, 0)) (by (with_reducible repeat (first | refine blk_drewN ?_ _ | refine blk_drew ?_ | refine blk_alloc ?_ _)); refine blk_far ?_ NB101_106.out _; (with_reducible repeat (first | refine blk_drewN ?_ _ | refine blk_drew ?_ | refine blk_alloc ?_ _)); exact BK101.out) NB101_0.out (by simp)); replace BK102 := Aside0.mk (KeepBut.blk hk (g' := gb102) (o := .cells #[.slice none 0 0] 26 (0, 0)) (by (with_reducible repeat (first | refine blk_drewN ?_ _ | refine blk_drew ?_ | refine blk_alloc ?_ _)); refine blk_far ?_ NB102_106.out _; (with_reducible repeat (first | refine blk_drewN ?_ _ | refine blk_drew ?_ | refine blk_alloc ?_ _)); exact BK102.out) NB102_0.out (by simp)); replace HO105 := Aside0.mk (Kd.R_mono (Kd.R_keep (IsS93.apart (show IsS93 w0 _ g s0_0 s0_1 s0_2 from i_ HI0) (rb_ (Kd.R_mono (Kd.R_far (p := ⟨gb106, 0, none⟩) (Kd.R_types HO105.out BK106.out (by decide)) (fun _ hk => hk.2) (.slice Ao35 t103.length co35)) (fun _ h_ => h_.1))) (by decide)) hk (fun _ h => h.2)) (fun _ h => h.1)); replace BK106 := Aside0.mk (KeepBut.blk hk (g' := gb106) (o := .cells #[.slice Ao35 t103.length co35] 26 (0, 0)) (by (with_reducible repeat (first | refine blk_drewN ?_ _ | refine blk_drew ?_ | refine blk_alloc ?_ _)); refine blk_put (cs := #[.slice none 0 0]) ?_ 0 _ rfl; (with_reducible repeat (first | refine blk_drewN ?_ _ | refine blk_drew ?_ | refine blk_alloc ?_ _)); exact BK106.out) NB106_0.out (by simp)); replace HK := Aside0.mk (Kept.of_keep (S := (fun k_ => (P1_0_ k_) ∨ k_ = g)) (kt_ HK) hk (.inl (.inr rfl))); replace HB := Aside0.mk (hb); replace HI0 := Aside0.mk (hi); (try clear hb); (try clear hb2); (try clear hk); (try clear hi)))
 replace HO1_0 := Aside0.mk (Kd.R_drew HO1_0.out)
 replace HO105 := Aside0.mk (Kd.R_drew HO105.out)
 replace BK101 := Aside0.mk (blk_drew BK101.out)
 replace BK102 := Aside0.mk (blk_drew BK102.out)
 replace BK106 := Aside0.mk (blk_drew BK106.out)
 replace HI0 := Aside0.mk (IsS93.drew HI0.out)
 replace HK := Aside0.mk (Kept.drew HK.out)
 replace HB := Aside0.mk (below_drew1 HB.out)
 refine start_ (n := 12) (S := fun w' => w'.cell? ⟨gb106, 0, none⟩ = some (.slice Ao35 t103.length co35)) (ds := [11]) #[false, false, false, false, false, false, false, false, false, false, false, false] (by kernel_rfl) rfl rfl ((blk_cell BK106.out 0).trans rfl) (fun hHeld => ?_); refine with_tabW spec_l01Bad.tab6 spec_l01Bad.bits6 (fun HT_ HW_ => ?_)
 generalize w41.drew = w42 at HO1_0 HO105 BK101 BK102 BK106 HI0 HK HB hHeld ⊢
 refine pv_ 0 17 HT_ ?_
 refine pv_ 2 19 HT_ ?_
 refine pv_ 3 20 HT_ ?_
 refine pv_ 7 24 HT_ ?_
 refine tv1_ 1 18 HT_ HW_ hHeld ?_
 refine tv1_ 4 21 HT_ HW_ hHeld ?_
 refine pv_ 5 22 HT_ ?_
 refine join_ (σ := Value) 3 #[true, true, true, true, true, true, true, true, true, false, false, false] (fun s_ => [(23, .int .i64 t110), (25, s_)]) (fun s_ w' => (w'.cell? ⟨gb106, 0, none⟩ = some (.slice Ao35 t103.length co35)) ∧ (Kd.R (Kd.int .i64) 2 w' w0.heap.size (fun k_ => (P1_0_ k_ ∨ w.heap.size ≤ k_) ∧ OB_ k_ s_ ∧ OB_ k_ (.slice Ao28 l1_0.length co28)) (.slice Ao35 t103.length co35) t103) ∧ (Kd.R (Kd.int .i64) 2 w' w0.heap.size (fun k_ => (P1_0_ k_ ∨ w.heap.size ≤ k_) ∧ OB_ k_ (.slice Ao35 t103.length co35) ∧ OB_ k_ (.slice Ao28 l1_0.length co28)) s_ y113) ∧ (Kd.R (Kd.int .i64) 2 w' w0.heap.size (fun k_ => (PX_ k_ ∨ w.heap.size ≤ k_) ∧ OB_ k_ (.slice Ao35 t103.length co35) ∧ OB_ k_ s_) (.slice Ao28 l1_0.length co28) l1_0) ∧ (w'.heap[gb101]? = some (.cells #[.slice Ao28 l1_0.length co28] 26 (0, 0))) ∧ (w'.heap[gb102]? = some (.cells #[.slice none 0 0] 26 (0, 0))) ∧ (w'.heap[gb106]? = some (.cells #[.slice Ao35 t103.length co35] 26 (0, 0))) ∧ (IsS93 w0 w' g s0_0 t111 t112) ∧ (Kept w w' (fun k_ => (P1_0_ k_) ∨ k_ = g)) ∧ (Below w0.heap.size w0 w')) ?_ ?_
 rotate_left
 ·intro hCont
  refine two_ (i := 6) (j := 8) (Ni := some 23) (Nj := some 25) #[true, true, true, true, true, true, true, true, false, false, false, false] #[true, true, true, true, true, true, false, true, true, false, false, false] rfl rfl rfl rfl (two_of HT_.out (by kernel_rfl)) (by decide) (by decide) (fun K hK => ?_) (fun K hK => ?_)
  ·skip
   refine goes_ Tryz.func52 (by kernel_rfl) rfl #[.pointer (some ⟨g, 0, none⟩), .int .i64 (t103.length : Int)] (by rfl) rfl rfl t1_ ?_
   with_reducible refine (spec_l01Next.calls g s0_0 t108 t109 (t103.length : Int) t110 t111 t112 w0 _ ?side1 ?side2 A23.out).mono ?_
   (case side1 => exact i_ HI0)
   (case side2 => exact gb_ HB.out)
   rintro e w43 ⟨rfl, hi, hb, hk⟩
   refine ⟨_, rfl, ?_⟩
   replace HO1_0 := kr_ HI0 HO1_0 hk
   replace BK101 := kx_ BK101 NB101_0 hk
   replace BK102 := kx_ BK102 NB102_0 hk
   replace HO105 := kr_ HI0 HO105 hk
   replace BK106 := kx_ BK106 NB106_0 hk
   replace HK := Aside0.mk (Kept.of_keep (S := (fun k_ => (P1_0_ k_) ∨ k_ = g)) (kt_ HK) hk (.inl (.inr rfl)))
   replace HB := Aside0.mk (hb)
   replace HI0 := Aside0.mk (hi)
   (try clear hb hk hi)
   refine hK.out _ _ ((blk_cell BK106.out 0).trans rfl) (fun hHeld => ?_)
   clear hK K
   refine nm_ ?_
   refine ow_ 8 25 HT_ fun K hK => ?_
   refine Kd.R_lit_step (Kd.int .i64) _ 2 ?hg (N := 25) ?hd (xs := ([1, 5, 0, (-1), 1099511627776] : List Int)) (inner := [.int .i64 1, .int .i64 5, .int .i64 0, .int .i64 (-1), .int .i64 1099511627776]) (ok := fun _ => True) (okp := fun _ => True) ?hr ?hp (fun _ hk => hk) trivial (Below.refl _ _) (Nat.le_refl _) (by simp) ?_; (case hd => rfl); (case hg => rfl); (case hr => exact t3_); (case hp => exact (Reps.one (show Kd.M (Kd.int .i64) _ _ _ 1 [.int .i64 1] from rfl) (Reps.one (show Kd.M (Kd.int .i64) _ _ _ 5 [.int .i64 5] from rfl) (Reps.one (show Kd.M (Kd.int .i64) _ _ _ 0 [.int .i64 0] from rfl) (Reps.one (show Kd.M (Kd.int .i64) _ _ _ (-1) [.int .i64 (-1)] from rfl) (Reps.one (show Kd.M (Kd.int .i64) _ _ _ 1099511627776 [.int .i64 1099511627776] from rfl) (Reps.none _ _)))))))
   intro v114 w44 ho45 hb hg_ hnew_
   clear hg_ hnew_
   (first | rw [← Ny113.out] at ho45 | (simp only [Int.reduceToNat] at ho45; rw [← Ny113.out] at ho45))
   have HO115 := Aside0.mk (Kd.R_lower (Kd.R_new' (Kd.R_new' (Kd.R_newM (M := fun k_ => (P1_0_ k_ ∨ w.heap.size ≤ k_)) ho45 (by first | exact HK.out.1 | exact (show Kept w _ (fun k_ => (P1_0_ k_) ∨ k_ = g) from kt_ HK).1) (fun k_ h_ => .inr h_)) (Kd.R_lt (rb_ HO1_0.out))) (Kd.R_lt (rb_ HO105.out))) (below_size (gb_ HB.out)))
   replace HO1_0 := a5_ HO1_0 ho45 hb
   replace HO105 := a5_ HO105 ho45 hb
   replace HI0 := i1_ HI0 hb
   replace BK101 := a2_ BK101 hb
   replace BK102 := a2_ BK102 hb
   replace BK106 := a2_ BK106 hb
   replace HK := Aside0.mk (Kept.below (S := (fun k_ => (P1_0_ k_) ∨ k_ = g)) (kt_ HK) hb)
   replace HB := b1_ HB hb
   clear hb ho45
   refine hK.out _ _ ((blk_cell BK106.out 0).trans rfl) (fun hHeld => ?_)
   clear hK K
   refine nm_ ?_
   exact norm_ (by simp only [putAll, Act.put, List.setIfInBounds_toArray, List.set_cons_zero, List.set_cons_succ]) (hCont (v114) _ ⟨hHeld, (rb_ (Kd.R_mono HO105.out (fun _ hk => ⟨hk.1.1.1, ⟨hk.2, hk.1.2⟩⟩))), (rb_ (Kd.R_mono HO115.out (fun _ hk => ⟨hk.1.1.1, ⟨hk.2, hk.1.2⟩⟩))), (rb_ (Kd.R_mono HO1_0.out (fun _ hk => ⟨hk.1.1, ⟨hk.1.2, hk.2⟩⟩))), (bb_ BK101.out), (bb_ BK102.out), (bb_ BK106.out), (i_ HI0), (kt_ HK), (gb_ HB.out)⟩)
  ·skip
   refine Kd.R_lit_step (Kd.int .i64) _ 2 ?hg (N := 25) ?hd (xs := ([1, 5, 0, (-1), 1099511627776] : List Int)) (inner := [.int .i64 1, .int .i64 5, .int .i64 0, .int .i64 (-1), .int .i64 1099511627776]) (ok := fun _ => True) (okp := fun _ => True) ?hr ?hp (fun _ hk => hk) trivial (Below.refl _ _) (Nat.le_refl _) (by simp) ?_; (case hd => rfl); (case hg => rfl); (case hr => exact t3_); (case hp => exact (Reps.one (show Kd.M (Kd.int .i64) _ _ _ 1 [.int .i64 1] from rfl) (Reps.one (show Kd.M (Kd.int .i64) _ _ _ 5 [.int .i64 5] from rfl) (Reps.one (show Kd.M (Kd.int .i64) _ _ _ 0 [.int .i64 0] from rfl) (Reps.one (show Kd.M (Kd.int .i64) _ _ _ (-1) [.int .i64 (-1)] from rfl) (Reps.one (show Kd.M (Kd.int .i64) _ _ _ 1099511627776 [.int .i64 1099511627776] from rfl) (Reps.none _ _)))))))
   intro v114 w43 ho44 hb hg_ hnew_
   clear hg_ hnew_
   (first | rw [← Ny113.out] at ho44 | (simp only [Int.reduceToNat] at ho44; rw [← Ny113.out] at ho44))
   have HO115 := Aside0.mk (Kd.R_lower (Kd.R_new' (Kd.R_new' (Kd.R_newM (M := fun k_ => (P1_0_ k_ ∨ w.heap.size ≤ k_)) ho44 (by first | exact HK.out.1 | exact (show Kept w _ (fun k_ => (P1_0_ k_) ∨ k_ = g) from kt_ HK).1) (fun k_ h_ => .inr h_)) (Kd.R_lt (rb_ HO1_0.out))) (Kd.R_lt (rb_ HO105.out))) (below_size (gb_ HB.out)))
   replace HO1_0 := a5_ HO1_0 ho44 hb
   replace HO105 := a5_ HO105 ho44 hb
   replace HI0 := i1_ HI0 hb
   replace BK101 := a2_ BK101 hb
   replace BK102 := a2_ BK102 hb
   replace BK106 := a2_ BK106 hb
   replace HK := Aside0.mk (Kept.below (S := (fun k_ => (P1_0_ k_) ∨ k_ = g)) (kt_ HK) hb)
   replace HB := b1_ HB hb
   clear hb ho44
   refine hK.out _ _ ((blk_cell BK106.out 0).trans rfl) (fun hHeld => ?_)
   clear hK K
   refine nm_ ?_
   refine ow_ 6 23 HT_ fun K hK => ?_
   refine goes_ Tryz.func52 (by kernel_rfl) rfl #[.pointer (some ⟨g, 0, none⟩), .int .i64 (t103.length : Int)] (by rfl) rfl rfl t1_ ?_
   with_reducible refine (spec_l01Next.calls g s0_0 t108 t109 (t103.length : Int) t110 t111 t112 w0 _ ?side1 ?side2 A23.out).mono ?_
   (case side1 => exact i_ HI0)
   (case side2 => exact gb_ HB.out)
   rintro e w45 ⟨rfl, hi, hb, hk⟩
   refine ⟨_, rfl, ?_⟩
   replace HO1_0 := kr_ HI0 HO1_0 hk
   replace BK101 := kx_ BK101 NB101_0 hk
   replace BK102 := kx_ BK102 NB102_0 hk
   replace HO105 := kr_ HI0 HO105 hk
   replace BK106 := kx_ BK106 NB106_0 hk
   replace HO115 := kr_ HI0 HO115 hk
   replace HK := Aside0.mk (Kept.of_keep (S := (fun k_ => (P1_0_ k_) ∨ k_ = g)) (kt_ HK) hk (.inl (.inr rfl)))
   replace HB := Aside0.mk (hb)
   replace HI0 := Aside0.mk (hi)
   (try clear hb hk hi)
   refine hK.out _ _ ((blk_cell BK106.out 0).trans rfl) (fun hHeld => ?_)
   clear hK K
   refine nm_ ?_
   exact norm_ (by simp only [putAll, Act.put, List.setIfInBounds_toArray, List.set_cons_zero, List.set_cons_succ]) (hCont (v114) _ ⟨hHeld, (rb_ (Kd.R_mono HO105.out (fun _ hk => ⟨hk.1.1.1, ⟨hk.2, hk.1.2⟩⟩))), (rb_ (Kd.R_mono HO115.out (fun _ hk => ⟨hk.1.1.1, ⟨hk.2, hk.1.2⟩⟩))), (rb_ (Kd.R_mono HO1_0.out (fun _ hk => ⟨hk.1.1, ⟨hk.1.2, hk.2⟩⟩))), (bb_ BK101.out), (bb_ BK102.out), (bb_ BK106.out), (i_ HI0), (kt_ HK), (gb_ HB.out)⟩)
 rintro v114 w46 ⟨hS_, h0_, h1_, h2_, h3_, h4_, h5_, h6_, h7_, h8_⟩
 have n0_ : Aside0 (Kd.R (Kd.int .i64) 2 w46 w0.heap.size (fun k_ => (P1_0_ k_ ∨ w.heap.size ≤ k_) ∧ OB_ k_ v114 ∧ OB_ k_ (.slice Ao28 l1_0.length co28)) (.slice Ao35 t103.length co35) t103) := ⟨h0_⟩
 have n1_ : Aside0 (Kd.R (Kd.int .i64) 2 w46 w0.heap.size (fun k_ => (P1_0_ k_ ∨ w.heap.size ≤ k_) ∧ OB_ k_ (.slice Ao35 t103.length co35) ∧ OB_ k_ (.slice Ao28 l1_0.length co28)) v114 y113) := ⟨h1_⟩
 have n2_ : Aside0 (Kd.R (Kd.int .i64) 2 w46 w0.heap.size (fun k_ => (PX_ k_ ∨ w.heap.size ≤ k_) ∧ OB_ k_ (.slice Ao35 t103.length co35) ∧ OB_ k_ v114) (.slice Ao28 l1_0.length co28) l1_0) := ⟨h2_⟩
 have n3_ : Aside0 (w46.heap[gb101]? = some (.cells #[.slice Ao28 l1_0.length co28] 26 (0, 0))) := ⟨h3_⟩
 have n4_ : Aside0 (w46.heap[gb102]? = some (.cells #[.slice none 0 0] 26 (0, 0))) := ⟨h4_⟩
 have n5_ : Aside0 (w46.heap[gb106]? = some (.cells #[.slice Ao35 t103.length co35] 26 (0, 0))) := ⟨h5_⟩
 have n6_ : Aside0 (IsS93 w0 w46 g s0_0 t111 t112) := ⟨h6_⟩
 have n7_ : Aside0 (Kept w w46 (fun k_ => (P1_0_ k_) ∨ k_ = g)) := ⟨h7_⟩
 have n8_ : Aside0 (Below w0.heap.size w0 w46) := ⟨h8_⟩
 clear HO1_0 HO105 BK101 BK102 BK106 HI0 HK HB h0_ h1_ h2_ h3_ h4_ h5_ h6_ h7_ h8_
 have HO105 := n0_
 have HO115 := n1_
 have HO1_0 := n2_
 have BK101 := n3_
 have BK102 := n4_
 have BK106 := n5_
 have HI0 := n6_
 have HK := n7_
 have HB := n8_
 clear n0_ n1_ n2_ n3_ n4_ n5_ n6_ n7_ n8_
 have hHeld : w46.cell? ⟨gb106, 0, none⟩ = some (.slice Ao35 t103.length co35) := hS_
 obtain ⟨Ao47, co47, eo47⟩ := Kd.R_slice HO115.out
 (first | subst eo47 | (injection eo47 with f1_ f2_ f3_; have f4_ := f1_.symm; have f5_ := f3_.symm; clear f1_ f2_ f3_; subst f4_; subst f5_))
 refine nj_ ?_
 refine ow_ 9 26 HT_ fun K hK => ?_
 refine goes_ Tryz.func51 (by kernel_rfl) rfl #[.pointer (some ⟨g, 0, none⟩), .slice Ao47 y113.length co47] (by rfl) rfl rfl t1_ ?_
 with_reducible refine (spec_l01Pick.calls g s0_0 t111 t112 _ _ y113 t116 t117 t118 w0 _ ?side1 ?side2 ?side3 ?side4 ?side5 A24.out).mono ?_
 (case side1 => exact i_ HI0)
 (case side2 => exact gb_ HB.out)
 (case side3 => exact c1_ HO115)
 (case side4 => exact (Kd.R_reads' HO115.out).2.1)
 (case side5 => exact far_slice (IsS93.own_ne HI0.out HO115.out (by decide)))
 rintro e w48 ⟨rfl, hi, hb, hk⟩
 refine ⟨_, rfl, ?_⟩
 replace HO1_0 := kr_ HI0 HO1_0 hk
 replace BK101 := kx_ BK101 NB101_0 hk
 replace BK102 := kx_ BK102 NB102_0 hk
 replace HO105 := kr_ HI0 HO105 hk
 replace BK106 := kx_ BK106 NB106_0 hk
 replace HO115 := kr_ HI0 HO115 hk
 replace HK := Aside0.mk (Kept.of_keep (S := (fun k_ => (P1_0_ k_) ∨ k_ = g)) (kt_ HK) hk (.inl (.inr rfl)))
 replace HB := Aside0.mk (hb)
 replace HI0 := Aside0.mk (hi)
 (try clear hb hk hi)
 have p27 : 0 ≤ (t110 : Int) := of_decide_eq_true t6_
 have q27 : (t110 : Int) < ((t103.length : Int) : Int) := of_decide_eq_true t6_
 obtain ⟨go27, co27, eo27, gb27, gl27, cl27, HG27⟩ := Kd.R_form HO105.out (by omega)
 (first | cases eo27 | (injection eo27 with ea_ en_ ec_; (first | subst ea_ | (injection ea_ with ea_; subst ea_)); subst ec_; clear en_))
 have GB27 := Aside0.mk gb27
 have GG27 := Aside0.mk HG27
 clear gb27 gl27 HG27
 have HMgo27 := Aside0.mk (show (P1_0_ go27 ∨ w.heap.size ≤ go27) from (HO105.out.1 _ rfl).1)
 obtain ⟨hx27_0, hf27_0⟩ := Kd.R_celln 0 HO105.out (t110 : Int) p27 q27
 replace p27 := eq_true p27
 replace q27 := eq_true q27
 have HN0_go27 := Aside0.mk (show g ≠ go27 from by have h_ := IsS93.own_ne HI0.out HO105.out (by decide); intro e_; exact h_ (by rw [e_]; rfl))
 have HP49 := Kd.R_putn HO105.out (t110 : Int) t116
 rw [← Ny119.out] at HP49
 have HQ49 := Aside0.mk HP49
 clear HP49
 refine hK.out _ _ ((blk_cell BK106.out 0).trans rfl) (fun hHeld => ?_)
 clear hK K
 refine nm_ ?_
 refine pv_ 10 27 HT_ ?_
 refine last_ (i := 11) (N := none) #[true, true, true, true, true, true, true, true, true, true, true, true] rfl rfl (one_of HT_.out (by kernel_rfl)) (by decide) (fun K hK => ?_)
 refine skip_ (w1 := ?_) (by rfl) rfl ?_ ?_
 rotate_left
 ·go_simp
  rfl
 refine hK.out _ _ ?_
 clear hK K
 refine done_ (done_of HT_.out (by kernel_rfl)) ?_
 have n0_ : Aside0 (Kd.R (Kd.int .i64) 2 (w48.setCell ⟨go27, (t110 : Int).toNat, none⟩ (.int .i64 t116)) w0.heap.size (fun k_ => (PX_ k_ ∨ w.heap.size ≤ k_) ∧ OB_ k_ (.slice (some ⟨go27, 0, none⟩) t103.length co35) ∧ OB_ k_ (.slice Ao47 y113.length co47)) (.slice Ao28 l1_0.length co28) l1_0) := ⟨by (with_reducible repeat (first | apply Kd.R_alloc | apply Kd.R_drewN | apply Kd.R_drew)); exact Kd.R_mono (Kd.R_far (p := ⟨go27, (t110 : Int).toNat, none⟩) (Kd.R_mono HO1_0.out (fun k_ hk => (⟨hk, fun e_ => hk.2.1 (by rw [e_]; rfl)⟩ : _ ∧ k_ ≠ go27))) (fun _ hk => hk.2) (.int .i64 t116)) (fun _ hk => ⟨hk.1.1, ⟨hk.1.2.1, hk.1.2.2⟩⟩)⟩
 have n1_ : Aside0 (Kd.R (Kd.int .i64) 2 (w48.setCell ⟨go27, (t110 : Int).toNat, none⟩ (.int .i64 t116)) w0.heap.size (fun k_ => (P1_0_ k_ ∨ w.heap.size ≤ k_) ∧ OB_ k_ (.slice Ao28 l1_0.length co28) ∧ OB_ k_ (.slice Ao47 y113.length co47)) (.slice (some ⟨go27, 0, none⟩) t103.length co35) y119) := ⟨rb_ (Kd.R_mono HQ49.out (fun _ hk => ⟨hk.1, ⟨hk.2.2, hk.2.1⟩⟩))⟩
 have n2_ : Aside0 (Kd.R (Kd.int .i64) 2 (w48.setCell ⟨go27, (t110 : Int).toNat, none⟩ (.int .i64 t116)) w0.heap.size (fun k_ => (P1_0_ k_ ∨ w.heap.size ≤ k_) ∧ OB_ k_ (.slice Ao28 l1_0.length co28) ∧ OB_ k_ (.slice (some ⟨go27, 0, none⟩) t103.length co35)) (.slice Ao47 y113.length co47) y113) := ⟨by (with_reducible repeat (first | apply Kd.R_alloc | apply Kd.R_drewN | apply Kd.R_drew)); exact Kd.R_mono (Kd.R_far (p := ⟨go27, (t110 : Int).toNat, none⟩) (Kd.R_mono HO115.out (fun k_ hk => (⟨hk, fun e_ => hk.2.1 (by rw [e_]; rfl)⟩ : _ ∧ k_ ≠ go27))) (fun _ hk => hk.2) (.int .i64 t116)) (fun _ hk => ⟨hk.1.1, ⟨hk.1.2.2, hk.1.2.1⟩⟩)⟩
 have n3_ : Aside0 ((w48.setCell ⟨go27, (t110 : Int).toNat, none⟩ (.int .i64 t116)).heap[gb101]? = some (.cells #[.slice Ao28 l1_0.length co28] 26 (0, 0))) := ⟨by (with_reducible repeat (first | refine blk_drewN ?_ _ | refine blk_drew ?_ | refine blk_alloc ?_ _)); refine blk_far ?_ (by have h_ := Kd.R_ne HO105.out BK101.out (by decide); intro e_; exact h_ (by rw [e_]; rfl)) _; (with_reducible repeat (first | refine blk_drewN ?_ _ | refine blk_drew ?_ | refine blk_alloc ?_ _)); exact BK101.out⟩
 have n4_ : Aside0 ((w48.setCell ⟨go27, (t110 : Int).toNat, none⟩ (.int .i64 t116)).heap[gb102]? = some (.cells #[.slice none 0 0] 26 (0, 0))) := ⟨by (with_reducible repeat (first | refine blk_drewN ?_ _ | refine blk_drew ?_ | refine blk_alloc ?_ _)); refine blk_far ?_ (by have h_ := Kd.R_ne HO105.out BK102.out (by decide); intro e_; exact h_ (by rw [e_]; rfl)) _; (with_reducible repeat (first | refine blk_drewN ?_ _ | refine blk_drew ?_ | refine blk_alloc ?_ _)); exact BK102.out⟩
 have n5_ : Aside0 ((w48.setCell ⟨go27, (t110 : Int).toNat, none⟩ (.int .i64 t116)).heap[gb106]? = some (.cells #[.slice (some ⟨go27, 0, none⟩) t103.length co35] 26 (0, 0))) := ⟨by (with_reducible repeat (first | refine blk_drewN ?_ _ | refine blk_drew ?_ | refine blk_alloc ?_ _)); refine blk_far ?_ (by have h_ := Kd.R_ne HO105.out BK106.out (by decide); intro e_; exact h_ (by rw [e_]; rfl)) _; (with_reducible repeat (first | refine blk_drewN ?_ _ | refine blk_drew ?_ | refine blk_alloc ?_ _)); exact BK106.out⟩
 have n6_ : Aside0 (IsS93 w0 (w48.setCell ⟨go27, (t110 : Int).toNat, none⟩ (.int .i64 t116)) g s0_0 t117 t118) := ⟨i_ HI0⟩
 have n7_ : Aside0 (Kept w (w48.setCell ⟨go27, (t110 : Int).toNat, none⟩ (.int .i64 t116)) (fun k_ => (P1_0_ k_) ∨ k_ = g)) := ⟨by repeat (first | (with_reducible first | exact HK.out | apply Kept.alloc | apply Kept.drewN | apply Kept.drew | refine Kept.setCell ?_ (Or.imp_left Or.inl HMgo27.out) _ | refine Kept.setCell ?_ (.inl (.inr rfl)) _ | refine Kept.setCell ?_ (.inr GW101.out) _ | refine Kept.setCell ?_ (.inr GW102.out) _ | refine Kept.setCell ?_ (.inr GW106.out) _) | exact HK.out)⟩
 have n8_ : Aside0 (Below w0.heap.size w0 (w48.setCell ⟨go27, (t110 : Int).toNat, none⟩ (.int .i64 t116))) := ⟨gb_ HB.out⟩
 (try clear HO1_0)
 (try clear HO105)
 (try clear HO115)
 (try clear BK101)
 (try clear BK102)
 (try clear BK106)
 (try clear HI0)
 (try clear HK)
 (try clear HB)
 generalize (w48.setCell ⟨go27, (t110 : Int).toNat, none⟩ (.int .i64 t116)) = w50 at n0_ n1_ n2_ n3_ n4_ n5_ n6_ n7_ n8_ ⊢
 have HO1_0 := n0_
 have HO105 := n1_
 have HO115 := n2_
 have BK101 := n3_
 have BK102 := n4_
 have BK106 := n5_
 have HI0 := n6_
 have HK := n7_
 have HB := n8_
 clear n0_ n1_ n2_ n3_ n4_ n5_ n6_ n7_ n8_
 have hcz51_0 := hz_ BK106
 have hfz51_0 := blk_frozen BK106.out 0
 have hnb52 := NB102_0.out
 have hnc52 := NB0_102.out
 have hcz53_0 := hz_ BK102
 have hfz53_0 := blk_frozen BK102.out 0
 try go_wp2
 refine bodyPost_ret (results_cell_row rfl _ _ gb102 26 #[.slice (some ⟨go27, 0, none⟩) t103.length co35] (0, 0) _ rfl (by (with_reducible repeat (first | refine blk_drewN ?_ _ | refine blk_drew ?_ | refine blk_alloc ?_ _)); refine blk_put (cs := #[.slice none 0 0]) ?_ 0 _ rfl; (with_reducible repeat (first | refine blk_drewN ?_ _ | refine blk_drew ?_ | refine blk_alloc ?_ _)); exact BK102.out) Tryz.underlying26 rfl (by kernel_rfl)) rfl ?_
 exact ⟨_, t5_, by (with_reducible repeat (first | apply Kd.R_alloc | apply Kd.R_drewN | apply Kd.R_drew)); refine Kd.R_mono (show Kd.R (Kd.int .i64) 2 _ w0.heap.size (fun k_ => (P1_0_ k_ ∨ w.heap.size ≤ k_)) _ _ from ?_) (fun k_ h_ => Or.imp_left Or.inr h_); exact Kd.R_mono (Kd.R_far (p := ⟨gb102, 0, none⟩) (Kd.R_types HO105.out BK102.out (by decide)) (fun _ hk => hk.2) (.slice (some ⟨go27, 0, none⟩) t103.length co35)) (fun _ hk => hk.1.1), i_ HI0, gb_ HB.out, kt_ HK⟩
theorem spec_l01Bad.callsK (k : Nat) (g : Nat) (s0_0 : List Int) (s0_1 : Int) (s0_2 : Int) (P1_0_ : Nat → Prop) (u9000_ : Value) (l1_0 : List Int) (r1 : List Int) (r2 : Int) (r3 : Int) (w0 w : World) (hI : IsS93 w0 w g s0_0 s0_1 s0_2) (hB : Below w0.heap.size w0 w) (ho1_0 : Kd.R (Kd.int .i64) 2 w w0.heap.size P1_0_ u9000_ l1_0) (h : spec_l01Bad.f k s0_0 s0_1 s0_2 l1_0 = some (r1, r2, r3)) :
  Calls Tryz.prog 57 #[.pointer (some ⟨g, 0, none⟩), .agg #[u9000_]] w fun e w' => ∃ v0_ : Value, e = .returned (.agg #[v0_]) ∧ Kd.R (Kd.int .i64) 2 w' w0.heap.size (fun k_ => (P1_0_ k_ ∨ w.heap.size ≤ k_)) v0_ r1 ∧ IsS93 w0 w' g s0_0 r2 r3 ∧ Below w0.heap.size w0 w' ∧ Kept w w' (fun k_ => (P1_0_ k_) ∨ k_ = g) ∧ Kept w w' (fun k_ => k_ = g) := by
 refine (spec_l01Bad.callsS k g s0_0 s0_1 s0_2 P1_0_ (fun _ => False) u9000_ l1_0 r1 r2 r3 w0 w hI hB ho1_0 h).mono ?_
 rintro e w' ⟨v0_, he, ho, hi, hb, hk⟩
 exact ⟨v0_, he, Kd.R_mono ho (fun k_ h_ => Or.imp_left (fun h2 => Or.elim h2 id False.elim) h_), hi, hb, ⟨hk.1, fun k_ h1 h2 => hk.2 k_ h1 (fun h3 => h2 (Or.elim h3 False.elim .inr))⟩, ⟨hk.1, fun k_ h1 h2 => hk.2 k_ h1 (fun h3 => h2 (Or.elim h3 False.elim id))⟩⟩
def spec_l01BadCode.f (k : Nat) (s0_0 : List Int) (s0_1 : Int) (s0_2 : Int) (l1_0 : List Int) (l2 : List Int) : Option (List Int × Int × Int) := (spec_l01Own.f l2).bind fun t102 => ((spec_l01Next.f s0_0 s0_1 s0_2 30).bind fun bt105 => (if bt105.1 = 0 then ((spec_l01N.f k l1_0).bind fun t108 => ((spec_l01Pick.f s0_0 bt105.2.1 bt105.2.2 (([(-1), t108, 0, 1099511627776] : List Int))).bind fun bt112 => (if t102.length < 17592186044416 then (some ((t102 ++ [bt112.1]), bt112.2.1, bt112.2.2)) else (none)))) else (if bt105.1 = 1 then (if (t102.length : Int) > 1 then (if 1 < (t102.length : Int) then (if 0 < (t102.length : Int) then (some ((t102.set (0 : Int).toNat (rd t102 1)), bt105.2.1, bt105.2.2)) else (none)) else (none)) else (some (t102, bt105.2.1, bt105.2.2))) else (some (t102, bt105.2.1, bt105.2.2)))))
set_option maxHeartbeats 8000000 in
set_option maxRecDepth 100000 in
theorem spec_l01BadCode.calls (k : Nat) (g : Nat) (s0_0 : List Int) (s0_1 : Int) (s0_2 : Int) (A1_0 : Option Addr) (c1_0 : Nat) (l1_0 : List Int) (A2 : Option Addr) (c2 : Nat) (l2 : List Int) (r1 : List Int) (r2 : Int) (r3 : Int) (w0 w : World) (hI : IsS93 w0 w g s0_0 s0_1 s0_2) (hB : Below w0.heap.size w0 w) (hr1_0 : Kd.C (Kd.int .i64) w A1_0 l1_0.length l1_0) (hc1_0 : l1_0.length ≤ c1_0) (hf1_0 : ∀ ad, A1_0 = some ad → 0 < l1_0.length → ad.block ≠ g) (hr2 : Kd.C (Kd.int .i64) w A2 l2.length l2) (hc2 : l2.length ≤ c2) (hf2 : ∀ ad, A2 = some ad → 0 < l2.length → ad.block ≠ g) (h : spec_l01BadCode.f k s0_0 s0_1 s0_2 l1_0 l2 = some (r1, r2, r3)) :
  Calls Tryz.prog 58 #[.pointer (some ⟨g, 0, none⟩), .agg #[.slice A1_0 l1_0.length c1_0], .slice A2 l2.length c2] w fun e w' => ∃ v0_ : Value, e = .returned (v0_) ∧ Kd.R (Kd.int .i64) 2 w' w.heap.size (fun _ => True) v0_ r1 ∧ IsS93 w0 w' g s0_0 r2 r3 ∧ Below w0.heap.size w0 w' ∧ KeepBut w w' g none := by
 have hu26 := Tryz.underlying26
 have HR1_0 := Aside0.mk hr1_0
 have HC1_0 := Aside0.mk hc1_0
 clear hr1_0 hc1_0
 have HR2 := Aside0.mk hr2
 have HC2 := Aside0.mk hc2
 clear hr2 hc2
 have HI0 := Aside0.mk hI
 have HK := Aside0.mk (KeepBut.refl w g none)
 have HL := Aside0.mk hB.size
 clear hI
 have HW0 := Aside0.mk hB.size
 have HB := Aside0.mk hB
 clear hB
 have H := h
 clear h
 unfold spec_l01BadCode.f at H
 replace H := bd_ H
 obtain ⟨t102, A4, H⟩ := H
 replace H := bd_ H
 obtain ⟨⟨t105, t106, t107⟩, A5, H⟩ := H
 try dsimp only at H
 by_cases c6 : t105 = 0
 ·rw [if_pos c6] at H
  have c6b0 : (t105 == 0) = true := beq_iff_eq.mpr c6
  have c6b1 : (t105 != 0) = false := bne_eq_false_iff_eq.mpr c6
  clear c6
  replace H := bd_ H
  obtain ⟨t108, A7, H⟩ := H
  obtain ⟨y109, hy109⟩ : ∃ y_ : List Int, y_ = (([(-1), t108, 0, 1099511627776] : List Int)) := ⟨_, rfl⟩
  replace H : ((spec_l01Pick.f s0_0 t106 t107 y109).bind fun bt112 => (if t102.length < 17592186044416 then (some ((t102 ++ [bt112.1]), bt112.2.1, bt112.2.2)) else (none))) = some (r1, r2, r3) := y_ H
  have Ny109 := Aside0.mk hy109
  clear hy109
  replace H := bd_ H
  obtain ⟨⟨t112, t113, t114⟩, A8, H⟩ := H
  try dsimp only at H
  replace H := ip_ H
  obtain ⟨c9, H⟩ := H
  have LMc9 := Aside0.mk c9
  clear c9
  obtain ⟨y115, hy115⟩ : ∃ y_ : List Int, y_ = (t102 ++ [t112]) := ⟨_, rfl⟩
  replace H : (some (y115, t113, t114)) = some (r1, r2, r3) := y_ H
  have Ny115 := Aside0.mk hy115
  clear hy115
  simp only [Option.some.injEq, Prod.mk.injEq] at H
  obtain ⟨rfl, rfl, rfl⟩ := H
  go_enter Tryz.func58, Tryz.ntmps58
  go_wp2_with (first | ((with_reducible refine gate_dst (N := 4) rfl ?_); refine bx_ (N := 4) (cs := #[.slice A1_0 l1_0.length c1_0]) (t := 26) rfl rfl ?_; intro gb101 hg w10 hbox hb; have n0_ := i1_ HI0 hb; have n1_ := k1_ HK hb; have n2_ := b1_ HB hb; have n3_ := Aside0.mk (hbox); have n4_ := gk_ hg HK; have n5_ := Aside0.mk ((Nat.le_trans HW0.out (by rw [hg]; exact (keep_size (w := w) (g := g) (row := none) (kb_ HK)) : w.heap.size ≤ gb101) : w0.heap.size ≤ gb101)); have n6_ := il_ hg HI0; have n7_ := ir_ hg HI0; clear HI0 HK HB; have HI0 := n0_; have HK := n1_; have HB := n2_; have BK101 := n3_; have GW101 := n4_; have GE101 := n5_; have NB0_101 := n6_; have NB101_0 := n7_; clear n0_ n1_ n2_ n3_ n4_ n5_ n6_ n7_ hb hbox hg) | ((with_reducible refine gate_callee (f := 35) rfl ?_); refine gl_ (some 9) rfl rfl Tryz.func35 #[.slice A2 l2.length c2] rfl ?_; (with_reducible refine (spec_l01Own.calls _ _ l2 t102 _ ?side1 ?side2 A4.out).mono ?_); (case side1 => exact Kd.C_keep 0 HR2.out (kb_ HK) hf2); (case side2 => exact HC2.out); rintro e w11 ⟨v103, rfl, ho0, hb⟩; refine ⟨_, rfl, ?_⟩; have HO104 := Aside0.mk (Kd.R_lower ho0 (keep_size (w := w) (g := g) (row := none) (kb_ HK))); replace HI0 := i1_ HI0 hb; replace BK101 := a2_ BK101 hb; replace HK := k1_ HK hb; replace HB := b1_ HB hb; (try clear hb); (try clear hb2); (try clear hk); (try clear hi); (try clear ho0)) | ((with_reducible refine gate_callee (f := 52) rfl ?_); refine gl_ (some 11) rfl rfl Tryz.func52 #[.pointer (some ⟨g, 0, none⟩), .int .i64 30] rfl ?_; (with_reducible refine (spec_l01Next.calls g s0_0 s0_1 s0_2 30 t105 t106 t107 w0 _ ?side1 ?side2 A5.out).mono ?_); (case side1 => exact i_ HI0); (case side2 => exact gb_ HB.out); rintro e w12 ⟨rfl, hi, hb, hk⟩; refine ⟨_, rfl, ?_⟩; replace BK101 := kx_ BK101 NB101_0 hk; replace HO104 := kr_ HI0 HO104 hk; replace HK := Aside0.mk (KeepBut.trans (kb_ HK) hk (.inl rfl)); replace HB := Aside0.mk (hb); replace HI0 := Aside0.mk (hi); (try clear hb); (try clear hb2); (try clear hk); (try clear hi); have hnb13 := NB101_0.out; have hnc13 := NB0_101.out; have hcz14_0 := hz_ BK101; have hfz14_0 := blk_frozen BK101.out 0) | ((with_reducible refine gate_callee (f := 53) rfl ?_); refine gl_ (some 17) rfl rfl Tryz.func53 #[.agg #[.slice A1_0 l1_0.length c1_0]] rfl ?_; (with_reducible refine (spec_l01N.calls k _ _ l1_0 t108 _ ?side1 ?side2 A7.out).mono ?_); (case side1 => exact Kd.C_keep 0 HR1_0.out (kb_ HK) hf1_0); (case side2 => exact HC1_0.out); rintro e w15 ⟨rfl, hb⟩; refine ⟨_, rfl, ?_⟩; replace HO104 := a1_ HO104 hb; replace HI0 := i1_ HI0 hb; replace BK101 := a2_ BK101 hb; replace HK := k1_ HK hb; replace HB := b1_ HB hb; (try clear hb); (try clear hb2); (try clear hk); (try clear hi)) | ((with_reducible refine gate_dst (N := 18) rfl ?_); refine Kd.R_lit (Kd.int .i64) _ 2 ?hg (N := 18) ?hd (xs := ([(-1), t108, 0, 1099511627776] : List Int)) (inner := [.int .i64 (-1), .int .i64 t108, .int .i64 0, .int .i64 1099511627776]) (ok := fun _ => True) (okp := fun _ => True) ?hr ?hp (fun _ hk => hk) trivial (Below.refl _ _) (Nat.le_refl _) (by simp) ?_; (case hd => rfl); (case hg => rfl); (case hr => exact t3_); (case hp => exact (Reps.one (show Kd.M (Kd.int .i64) _ _ _ (-1) [.int .i64 (-1)] from rfl) (Reps.one (show Kd.M (Kd.int .i64) _ _ _ t108 [.int .i64 t108] from rfl) (Reps.one (show Kd.M (Kd.int .i64) _ _ _ 0 [.int .i64 0] from rfl) (Reps.one (show Kd.M (Kd.int .i64) _ _ _ 1099511627776 [.int .i64 1099511627776] from rfl) (Reps.none _ _)))))); intro v110 w16 ho17 hb hg_ hnew_; clear hg_ hnew_; (first | rw [← Ny109.out] at ho17 | (simp only [Int.reduceToNat] at ho17; rw [← Ny109.out] at ho17)); have HO111 := Aside0.mk (Kd.R_lower (Kd.R_new' ho17 (Kd.R_lt (rb_ HO104.out))) (keep_size (w := w) (g := g) (row := none) (kb_ HK))); replace HO104 := a5_ HO104 ho17 hb; replace HI0 := i1_ HI0 hb; replace BK101 := a2_ BK101 hb; replace HK := k1_ HK hb; replace HB := b1_ HB hb; clear hb ho17; obtain ⟨Ao18, co18, eo18⟩ := Kd.R_slice HO111.out; subst eo18) | ((with_reducible refine gate_callee (f := 51) rfl ?_); refine gl_ (some 19) rfl rfl Tryz.func51 #[.pointer (some ⟨g, 0, none⟩), .slice Ao18 y109.length co18] rfl ?_; (with_reducible refine (spec_l01Pick.calls g s0_0 t106 t107 _ _ y109 t112 t113 t114 w0 _ ?side1 ?side2 ?side3 ?side4 ?side5 A8.out).mono ?_); (case side1 => exact i_ HI0); (case side2 => exact gb_ HB.out); (case side3 => exact c1_ HO111); (case side4 => exact (Kd.R_reads' HO111.out).2.1); (case side5 => exact far_slice (IsS93.own_ne HI0.out HO111.out (by decide))); rintro e w19 ⟨rfl, hi, hb, hk⟩; refine ⟨_, rfl, ?_⟩; replace BK101 := kx_ BK101 NB101_0 hk; replace HO104 := kr_ HI0 HO104 hk; replace HO111 := kr_ HI0 HO111 hk; replace HK := Aside0.mk (KeepBut.trans (kb_ HK) hk (.inl rfl)); replace HB := Aside0.mk (hb); replace HI0 := Aside0.mk (hi); (try clear hb); (try clear hb2); (try clear hk); (try clear hi)) | ((with_reducible refine gate_builtin (b := .append) (xs := #[.tmp 14, .tmp 20]) rfl ?_); at_builtin; refine Kd.R_append (Kd.int .i64) w.heap.size rfl (.tmp 14) (.tmp 20) 24 2 (.int .i64 0) 8 rfl Tryz.underlying24 info2 rfl (by decide) (by omega) v103 t102 t112 [.int .i64 t112] (fun k_ => OB_ k_ (.slice Ao18 y109.length co18)) (fun _ => False) rfl rfl ?aP (fun _ hk => hk.elim) ?aF ?aO (Below.refl _ _) ?aS ?aL ?_; (case aP => exact rfl); (case aF => exact (fun k_ hk => Kd.fresh' (Kd.R_lt (rb_ HO111.out)) k_ hk)); (case aO => exact (rb_ (Kd.R_mono HO104.out (fun _ hk => hk.2)))); (case aS => exact (keep_size (w := w) (g := g) (row := none) (kb_ HK))); (case aL => have := LMc9.out; omega); intro v116 w20 ho hb hg hat; rw [← Ny115.out] at ho; replace HI0 := Aside0.mk (IsS93.grown (i_ HI0) hg (IsS93.own_ne HI0.out HO104.out (by decide))); replace BK101 := Aside0.mk (blk_grown (g := gb101) (o := .cells #[.slice A1_0 l1_0.length c1_0] 26 (0, 0)) (bb_ BK101.out) hg (Kd.R_ne HO104.out BK101.out (by decide))); replace HO111 := Aside0.mk (Kd.R_after (ok := (fun _ => True)) (rb_ HO111.out) hg hat); replace HB := Aside0.mk (below_weaken (gb_ HB.out) HL.out hb); replace HK := Aside0.mk (KeepBut.trans (kb_ HK) (KeepBut.of_grown hg g) (Kd.R_base2 HO104.out)); have HO117 := Aside0.mk (ho); clear HO104 ho hb hg hat))
  go_ret
  exact ⟨_, t5_, rb_ (Kd.R_mono HO117.out (fun _ hk => trivial)), i_ HI0, gb_ HB.out, kb_ HK⟩
 rw [if_neg c6] at H
 have c6b0 : (t105 == 0) = false := beq_eq_false_iff_ne.mpr c6
 have c6b1 : (t105 != 0) = true := bne_iff_ne.mpr c6
 by_cases c21 : t105 = 1
 rotate_left
 ·rw [if_neg c21] at H
  have c21b0 : (t105 == 1) = false := beq_eq_false_iff_ne.mpr c21
  have c21b1 : (t105 != 1) = true := bne_iff_ne.mpr c21
  simp only [Option.some.injEq, Prod.mk.injEq] at H
  obtain ⟨rfl, rfl, rfl⟩ := H
  go_enter Tryz.func58, Tryz.ntmps58
  go_wp2_with (first | ((with_reducible refine gate_dst (N := 4) rfl ?_); refine bx_ (N := 4) (cs := #[.slice A1_0 l1_0.length c1_0]) (t := 26) rfl rfl ?_; intro gb101 hg w36 hbox hb; have n0_ := i1_ HI0 hb; have n1_ := k1_ HK hb; have n2_ := b1_ HB hb; have n3_ := Aside0.mk (hbox); have n4_ := gk_ hg HK; have n5_ := Aside0.mk ((Nat.le_trans HW0.out (by rw [hg]; exact (keep_size (w := w) (g := g) (row := none) (kb_ HK)) : w.heap.size ≤ gb101) : w0.heap.size ≤ gb101)); have n6_ := il_ hg HI0; have n7_ := ir_ hg HI0; clear HI0 HK HB; have HI0 := n0_; have HK := n1_; have HB := n2_; have BK101 := n3_; have GW101 := n4_; have GE101 := n5_; have NB0_101 := n6_; have NB101_0 := n7_; clear n0_ n1_ n2_ n3_ n4_ n5_ n6_ n7_ hb hbox hg) | ((with_reducible refine gate_callee (f := 35) rfl ?_); refine gl_ (some 9) rfl rfl Tryz.func35 #[.slice A2 l2.length c2] rfl ?_; (with_reducible refine (spec_l01Own.calls _ _ l2 t102 _ ?side1 ?side2 A4.out).mono ?_); (case side1 => exact Kd.C_keep 0 HR2.out (kb_ HK) hf2); (case side2 => exact HC2.out); rintro e w37 ⟨v103, rfl, ho0, hb⟩; refine ⟨_, rfl, ?_⟩; have HO104 := Aside0.mk (Kd.R_lower ho0 (keep_size (w := w) (g := g) (row := none) (kb_ HK))); replace HI0 := i1_ HI0 hb; replace BK101 := a2_ BK101 hb; replace HK := k1_ HK hb; replace HB := b1_ HB hb; (try clear hb); (try clear hb2); (try clear hk); (try clear hi); (try clear ho0)) | ((with_reducible refine gate_callee (f := 52) rfl ?_); refine gl_ (some 11) rfl rfl Tryz.func52 #[.pointer (some ⟨g, 0, none⟩), .int .i64 30] rfl ?_; (with_reducible refine (spec_l01Next.calls g s0_0 s0_1 s0_2 30 t105 t106 t107 w0 _ ?side1 ?side2 A5.out).mono ?_); (case side1 => exact i_ HI0); (case side2 => exact gb_ HB.out); rintro e w38 ⟨rfl, hi, hb, hk⟩; refine ⟨_, rfl, ?_⟩; replace BK101 := kx_ BK101 NB101_0 hk; replace HO104 := kr_ HI0 HO104 hk; replace HK := Aside0.mk (KeepBut.trans (kb_ HK) hk (.inl rfl)); replace HB := Aside0.mk (hb); replace HI0 := Aside0.mk (hi); (try clear hb); (try clear hb2); (try clear hk); (try clear hi)))
  go_ret
  exact ⟨_, t5_, rb_ HO104.out, i_ HI0, gb_ HB.out, kb_ HK⟩

 rw [if_pos c21] at H
 have c21b0 : (t105 == 1) = true := beq_iff_eq.mpr c21
 have c21b1 : (t105 != 1) = false := bne_eq_false_iff_eq.mpr c21
 clear c21
 by_cases c22 : (t102.length : Int) > 1
 rotate_left
 ·rw [if_neg c22] at H
  have c22b0 : decide (1 < (t102.length : Int)) = false := decide_eq_false c22
  have c22b1 : decide (1 < t102.length) = false := decide_eq_false (by omega)
  clear c22
  simp only [Option.some.injEq, Prod.mk.injEq] at H
  obtain ⟨rfl, rfl, rfl⟩ := H
  go_enter Tryz.func58, Tryz.ntmps58
  go_wp2_with (first | ((with_reducible refine gate_dst (N := 4) rfl ?_); refine bx_ (N := 4) (cs := #[.slice A1_0 l1_0.length c1_0]) (t := 26) rfl rfl ?_; intro gb101 hg w32 hbox hb; have n0_ := i1_ HI0 hb; have n1_ := k1_ HK hb; have n2_ := b1_ HB hb; have n3_ := Aside0.mk (hbox); have n4_ := gk_ hg HK; have n5_ := Aside0.mk ((Nat.le_trans HW0.out (by rw [hg]; exact (keep_size (w := w) (g := g) (row := none) (kb_ HK)) : w.heap.size ≤ gb101) : w0.heap.size ≤ gb101)); have n6_ := il_ hg HI0; have n7_ := ir_ hg HI0; clear HI0 HK HB; have HI0 := n0_; have HK := n1_; have HB := n2_; have BK101 := n3_; have GW101 := n4_; have GE101 := n5_; have NB0_101 := n6_; have NB101_0 := n7_; clear n0_ n1_ n2_ n3_ n4_ n5_ n6_ n7_ hb hbox hg) | ((with_reducible refine gate_callee (f := 35) rfl ?_); refine gl_ (some 9) rfl rfl Tryz.func35 #[.slice A2 l2.length c2] rfl ?_; (with_reducible refine (spec_l01Own.calls _ _ l2 t102 _ ?side1 ?side2 A4.out).mono ?_); (case side1 => exact Kd.C_keep 0 HR2.out (kb_ HK) hf2); (case side2 => exact HC2.out); rintro e w33 ⟨v103, rfl, ho0, hb⟩; refine ⟨_, rfl, ?_⟩; have HO104 := Aside0.mk (Kd.R_lower ho0 (keep_size (w := w) (g := g) (row := none) (kb_ HK))); replace HI0 := i1_ HI0 hb; replace BK101 := a2_ BK101 hb; replace HK := k1_ HK hb; replace HB := b1_ HB hb; (try clear hb); (try clear hb2); (try clear hk); (try clear hi); (try clear ho0)) | ((with_reducible refine gate_callee (f := 52) rfl ?_); refine gl_ (some 11) rfl rfl Tryz.func52 #[.pointer (some ⟨g, 0, none⟩), .int .i64 30] rfl ?_; (with_reducible refine (spec_l01Next.calls g s0_0 s0_1 s0_2 30 t105 t106 t107 w0 _ ?side1 ?side2 A5.out).mono ?_); (case side1 => exact i_ HI0); (case side2 => exact gb_ HB.out); rintro e w34 ⟨rfl, hi, hb, hk⟩; refine ⟨_, rfl, ?_⟩; replace BK101 := kx_ BK101 NB101_0 hk; replace HO104 := kr_ HI0 HO104 hk; replace HK := Aside0.mk (KeepBut.trans (kb_ HK) hk (.inl rfl)); replace HB := Aside0.mk (hb); replace HI0 := Aside0.mk (hi); (try clear hb); (try clear hb2); (try clear hk); (try clear hi); obtain ⟨Ao35, co35, eo35⟩ := Kd.R_slice HO104.out; subst eo35))
  go_ret
  exact ⟨_, t5_, rb_ HO104.out, i_ HI0, gb_ HB.out, kb_ HK⟩
 rw [if_pos c22] at H
 have c22b0 : decide (1 < (t102.length : Int)) = true := decide_eq_true c22
 have c22b1 : decide (1 < t102.length) = true := decide_eq_true (by omega)
 clear c22
 replace H := ip_ H
 obtain ⟨c23, H⟩ := H
 have c23b0 := decide_eq_true c23
 have c23b1 : decide (1 < t102.length) = true := decide_eq_true (by omega)
 clear c23
 replace H := ip_ H
 obtain ⟨c24, H⟩ := H
 have c24b0 := decide_eq_true c24
 have c24b1 : decide (0 < t102.length) = true := decide_eq_true (by omega)
 clear c24
 obtain ⟨y119, hy119⟩ : ∃ y_ : List Int, y_ = (t102.set (0 : Int).toNat (rd t102 1)) := ⟨_, rfl⟩
 replace H : (some (y119, t106, t107)) = some (r1, r2, r3) := y_ H
 have Ny119 := Aside0.mk hy119
 clear hy119
 simp only [Option.some.injEq, Prod.mk.injEq] at H
 obtain ⟨rfl, rfl, rfl⟩ := H
 go_enter Tryz.func58, Tryz.ntmps58
 go_wp2_with (first | ((with_reducible refine gate_dst (N := 4) rfl ?_); refine bx_ (N := 4) (cs := #[.slice A1_0 l1_0.length c1_0]) (t := 26) rfl rfl ?_; intro gb101 hg w26 hbox hb; have n0_ := i1_ HI0 hb; have n1_ := k1_ HK hb; have n2_ := b1_ HB hb; have n3_ := Aside0.mk (hbox); have n4_ := gk_ hg HK; have n5_ := Aside0.mk ((Nat.le_trans HW0.out (by rw [hg]; exact (keep_size (w := w) (g := g) (row := none) (kb_ HK)) : w.heap.size ≤ gb101) : w0.heap.size ≤ gb101)); have n6_ := il_ hg HI0; have n7_ := ir_ hg HI0; clear HI0 HK HB; have HI0 := n0_; have HK := n1_; have HB := n2_; have BK101 := n3_; have GW101 := n4_; have GE101 := n5_; have NB0_101 := n6_; have NB101_0 := n7_; clear n0_ n1_ n2_ n3_ n4_ n5_ n6_ n7_ hb hbox hg) | ((with_reducible refine gate_callee (f := 35) rfl ?_); refine gl_ (some 9) rfl rfl Tryz.func35 #[.slice A2 l2.length c2] rfl ?_; (with_reducible refine (spec_l01Own.calls _ _ l2 t102 _ ?side1 ?side2 A4.out).mono ?_); (case side1 => exact Kd.C_keep 0 HR2.out (kb_ HK) hf2); (case side2 => exact HC2.out); rintro e w27 ⟨v103, rfl, ho0, hb⟩; refine ⟨_, rfl, ?_⟩; have HO104 := Aside0.mk (Kd.R_lower ho0 (keep_size (w := w) (g := g) (row := none) (kb_ HK))); replace HI0 := i1_ HI0 hb; replace BK101 := a2_ BK101 hb; replace HK := k1_ HK hb; replace HB := b1_ HB hb; (try clear hb); (try clear hb2); (try clear hk); (try clear hi); (try clear ho0)) | ((with_reducible refine gate_callee (f := 52) rfl ?_); refine gl_ (some 11) rfl rfl Tryz.func52 #[.pointer (some ⟨g, 0, none⟩), .int .i64 30] rfl ?_; (with_reducible refine (spec_l01Next.calls g s0_0 s0_1 s0_2 30 t105 t106 t107 w0 _ ?side1 ?side2 A5.out).mono ?_); (case side1 => exact i_ HI0); (case side2 => exact gb_ HB.out); rintro e w28 ⟨rfl, hi, hb, hk⟩; refine ⟨_, rfl, ?_⟩; replace BK101 := kx_ BK101 NB101_0 hk; replace HO104 := kr_ HI0 HO104 hk; replace HK := Aside0.mk (KeepBut.trans (kb_ HK) hk (.inl rfl)); replace HB := Aside0.mk (hb); replace HI0 := Aside0.mk (hi); (try clear hb); (try clear hb2); (try clear hk); (try clear hi); obtain ⟨Ao29, co29, eo29⟩ := Kd.R_slice HO104.out; subst eo29; have p118 : 0 ≤ (1 : Int) := (by omega); have q118 : 1 < (t102.length : Int) := of_decide_eq_true t6_; obtain ⟨ad118, e118, hx118_0⟩ := Kd.at_int (Kd.R_reads' HO104.out).2.2 1 p118 q118; cases e118; (try simp only [show (1 : Int).toNat = 1 from rfl, Nat.reduceMul, Nat.reduceEqDiff, Go.Addr.add, ↓reduceIte] at hx118_0); have qi118 : (1 < t102.length) = True := eq_true (by omega); (try rw [show ((1 : Int)).toNat = 1 from rfl] at hx118_0); replace p118 := eq_true p118; replace q118 := eq_true q118; have p25 : 0 ≤ (0 : Int) := (by omega); have q25 : (0 : Int) < ((t102.length : Int) : Int) := of_decide_eq_true t6_; have qi25 : (0 < t102.length) = True := eq_true (by omega); obtain ⟨go25, co25, eo25, gb25, gl25, cl25, HG25⟩ := Kd.R_form HO104.out (by omega); (first | cases eo25 | (injection eo25 with ea_ en_ ec_; (first | subst ea_ | (injection ea_ with ea_; subst ea_)); subst ec_; clear en_)); have GB25 := Aside0.mk gb25; have GG25 := Aside0.mk HG25; clear gb25 gl25 HG25; (first | simp only [add_plain] at hx118_0 | skip); obtain ⟨hx25_0, hf25_0⟩ := Kd.R_celln 0 HO104.out (0 : Int) p25 q25; (try rw [show ((0 : Int)).toNat = 0 from rfl] at hx25_0); (try simp only [Nat.reduceMul, Nat.zero_mul, Nat.zero_add, Nat.reduceAdd] at hx25_0); (try rw [show ((0 : Int)).toNat = 0 from rfl] at hf25_0); (try simp only [Nat.reduceMul, Nat.zero_mul, Nat.zero_add, Nat.reduceAdd] at hf25_0); replace p25 := eq_true p25; replace q25 := eq_true q25; obtain ⟨hy30_, hz30_⟩ := Kd.R_celln 0 HO104.out (0 : Int) (by omega) (of_decide_eq_true t6_); (try simp only [Int.reduceToNat, Int.toNat_zero, Int.toNat_ofNat, Nat.reduceMul, Nat.zero_mul, Nat.zero_add] at hy30_ hz30_); (try rw [show ((0 : Int)).toNat = 0 from rfl] at hy30_); (try rw [show ((0 : Int)).toNat = 0 from rfl] at hz30_); have HP30 := Kd.R_putg HO104.out (0 : Int) (rd t102 1)) | ((with_reducible refine gate_store (t := 2) (p := 31) rfl ?_); refine store_event (t := 2) (p := 31) (v := ?vo_w31) (w1 := (w28.setCell ⟨go25, (0 : Int).toNat, none⟩ (.int .i64 (rd t102 1)))) ?hg ?ho ?hn ?hr ?_; (case ho => rfl); (case hg => rfl); (case hn => rfl); (case hr => exact t3_); intro w31 hw; have hg : w28.grownBy w31 (some go25) := (by rw [hw]; exact HP30.2); have hp_ : Kd.R (Kd.int .i64) 2 w31 w.heap.size (fun _ => True) (.slice (some ⟨go25, 0, none⟩) t102.length co29) y119 := (by rw [hw, Ny119.out]; exact HP30.1); clear HP30; have n0_ := Aside0.mk (IsS93.grown (i_ HI0) hg (IsS93.own_ne HI0.out HO104.out (by decide))); have n1_ := Aside0.mk (blk_grown (g := gb101) (o := .cells #[.slice A1_0 l1_0.length c1_0] 26 (0, 0)) (bb_ BK101.out) hg (Kd.R_ne HO104.out BK101.out (by decide))); have n2_ := Aside0.mk (hp_); have n3_ := Aside0.mk ((by rw [hw]; exact below_set (HB.out) (Nat.le_trans HL.out GB25.out) : Below w0.heap.size w0 w31)); have n4_ := Aside0.mk (KeepBut.trans (kb_ HK) (KeepBut.of_grown hg g) (Kd.R_base2 HO104.out)); clear HI0 BK101 HO104 HB HK; have HI0 := n0_; have BK101 := n1_; have HO104 := n2_; have HB := n3_; have HK := n4_; clear n0_ n1_ n2_ n3_ n4_ hg hw hp_))
 go_ret
 exact ⟨_, t5_, rb_ HO104.out, i_ HI0, gb_ HB.out, kb_ HK⟩
end Go.Proofs.YtnkndaapamenmaaGreat.P
set_option linter.unusedVariables false
set_option linter.unusedSimpArgs false
namespace Go.Proofs.YtnkndaapamenmaaGreat.P
open Go.RowKit Go.Proofs.YtnkndaapamenmaaGreatW.PrintWords Go.Proofs.YtnkndaapamenmaaGreatW.PrintLast Go.Proofs.YtnkndaapamenmaaGreatW.PrintMore CC
def ordD (e p : List Int) : Nat → List Int
  | 0 => List.replicate 8 0
  | n + 1 => (ordD e p n).set (rd p (n : Int)).toNat (rd e (n : Int))
theorem ordD_length (e p : List Int) : ∀ n, (ordD e p n).length = 8
  | 0 => rfl
  | n + 1 => by rw [ordD, List.length_set, ordD_length e p n]
set_option maxHeartbeats 4000000 in
set_option maxRecDepth 100000 in
theorem ordered_calls (d p : List Int) (hd : d.length = 8) (A : Option Addr) (c : Nat) (w : World) (hr : Kd.C (Kd.int .i64) w A p.length p) (hc : p.length ≤ c) (hpl : p.length ≤ 8) (hp : ∀ j : Nat, j < p.length → 0 ≤ rd p (j : Int) ∧ rd p (j : Int) < 8) :
    Calls Tryz.prog 64 #[arr8 d, .slice A p.length c] w
      fun x w' => x = .returned (arr8 (ordD d p p.length)) ∧ Below w.heap.size w w' := by
  have huD := Tryz.underlying66
  have HR := Aside0.mk hr
  have HD := Aside0.mk hd
  have HP := Aside0.mk hp
  clear hr hd hp
  obtain ⟨R, hR⟩ : ∃ R, R = ordD d p p.length := ⟨_, rfl⟩
  have HX := Aside0.mk hR
  have hRl : R.length = 8 := by rw [hR, ordD_length]
  rw [← hR]
  clear hR
  unfold arr8
  go_enter Tryz.func64, Tryz.ntmps64
  go_wp2
  have HB : Aside0 (Below w.heap.size w (((w.alloc (.cells (nums .u8 d).toArray 66)).alloc (.cells #[.int .u8 0, .int .u8 0, .int .u8 0, .int .u8 0, .int .u8 0, .int .u8 0, .int .u8 0, .int .u8 0] 66)).alloc (.cells #[.int .u8 0, .int .u8 0, .int .u8 0, .int .u8 0, .int .u8 0, .int .u8 0, .int .u8 0, .int .u8 0] 66))) := ⟨below_alloc (below_alloc ((Below.refl _ _).alloc (Nat.le_refl _) _) _) _⟩
  have z8 : (.cells #[.int .u8 0, .int .u8 0, .int .u8 0, .int .u8 0, .int .u8 0, .int .u8 0, .int .u8 0, .int .u8 0] 66 : Obj) = .cells (nums .u8 (List.replicate 8 0)).toArray 66 := rfl
  have b1 : (((w.alloc (.cells (nums .u8 d).toArray 66)).alloc (.cells #[.int .u8 0, .int .u8 0, .int .u8 0, .int .u8 0, .int .u8 0, .int .u8 0, .int .u8 0, .int .u8 0] 66)).alloc (.cells #[.int .u8 0, .int .u8 0, .int .u8 0, .int .u8 0, .int .u8 0, .int .u8 0, .int .u8 0, .int .u8 0] 66)).heap[w.heap.size]? = some (.cells (nums .u8 d).toArray 66 (0, 0)) := blk_alloc (blk_alloc (blk_new _ _) _) _
  have b2 : (((w.alloc (.cells (nums .u8 d).toArray 66)).alloc (.cells #[.int .u8 0, .int .u8 0, .int .u8 0, .int .u8 0, .int .u8 0, .int .u8 0, .int .u8 0, .int .u8 0] 66)).alloc (.cells #[.int .u8 0, .int .u8 0, .int .u8 0, .int .u8 0, .int .u8 0, .int .u8 0, .int .u8 0, .int .u8 0] 66)).heap[w.heap.size + 1]? = some (.cells (nums .u8 (List.replicate 8 0)).toArray 66 (0, 0)) := blk_alloc (by have h := blk_new (w.alloc (.cells (nums .u8 d).toArray 66)) (.cells #[.int .u8 0, .int .u8 0, .int .u8 0, .int .u8 0, .int .u8 0, .int .u8 0, .int .u8 0, .int .u8 0] 66); rwa [World.size_alloc] at h) _
  have b3 : (((w.alloc (.cells (nums .u8 d).toArray 66)).alloc (.cells #[.int .u8 0, .int .u8 0, .int .u8 0, .int .u8 0, .int .u8 0, .int .u8 0, .int .u8 0, .int .u8 0] 66)).alloc (.cells #[.int .u8 0, .int .u8 0, .int .u8 0, .int .u8 0, .int .u8 0, .int .u8 0, .int .u8 0, .int .u8 0] 66)).heap[w.heap.size + 1 + 1]? = some (.cells (nums .u8 (List.replicate 8 0)).toArray 66 (0, 0)) := by have h := blk_new ((w.alloc (.cells (nums .u8 d).toArray 66)).alloc (.cells #[.int .u8 0, .int .u8 0, .int .u8 0, .int .u8 0, .int .u8 0, .int .u8 0, .int .u8 0, .int .u8 0] 66)) (.cells #[.int .u8 0, .int .u8 0, .int .u8 0, .int .u8 0, .int .u8 0, .int .u8 0, .int .u8 0, .int .u8 0] 66); rwa [World.size_alloc, World.size_alloc] at h
  have B1 := Aside0.mk b1
  have B2 := Aside0.mk b2
  have B3 := Aside0.mk b3
  clear b1 b2 b3 z8
  generalize (((w.alloc (.cells (nums .u8 d).toArray 66)).alloc (.cells #[.int .u8 0, .int .u8 0, .int .u8 0, .int .u8 0, .int .u8 0, .int .u8 0, .int .u8 0, .int .u8 0] 66)).alloc (.cells #[.int .u8 0, .int .u8 0, .int .u8 0, .int .u8 0, .int .u8 0, .int .u8 0, .int .u8 0, .int .u8 0] 66)) = W0 at *
  go_loopw [11] (fun i W => ∃ (n : Nat), n ≤ p.length ∧ i = .int .i64 n ∧ Aside0 (W.heap[w.heap.size]? = some (.cells (nums .u8 d).toArray 66 (0, 0))) ∧ Aside0 (W.heap[w.heap.size + 1]? = some (.cells (nums .u8 (List.replicate 8 0)).toArray 66 (0, 0))) ∧
      Aside0 (W.heap[w.heap.size + 1 + 1]? = some (.cells (nums .u8 (ordD d p n)).toArray 66 (0, 0))) ∧ Aside0 (Below w.heap.size w W)) (fun i _ => p.length - (intOf i).toNat)
  case atStart => exact ⟨0, by omega, rfl, B1, B2, B3, HB⟩
  case round =>
    clear B1 B2 B3 HB
    obtain ⟨n, hn, rfl, B1, B2, B3, HB⟩ := hrel
    by_cases hlt : n < p.length
    · obtain ⟨ad, e, _⟩ := Kd.at_int HR.out (n : Int) (by omega) (by omega)
      subst e
      have hx := rd_cell HR.out HB.out n (by omega)
      have hy := cell8 B1.out (i := n) (by have := HD.out; omega)
      obtain ⟨p0, p1⟩ := HP.out n hlt
      obtain ⟨y, hye⟩ : ∃ y : Nat, rd p (n : Int) = (y : Int) := ⟨(rd p (n : Int)).toNat, by omega⟩
      rw [hye] at hx p0 p1
      have HY : Aside0 (ordD d p (n + 1) = (ordD d p n).set y (rd d (n : Int))) := ⟨by rw [ordD, hye, Int.toNat_natCast]⟩
      have hz := cell8 B3.out (i := y) (by rw [ordD_length]; omega)
      have hfz := blk_frozen B3.out y
      have hy8 : (n : Int) < 8 := by omega
      clear hye
      obtain ⟨z, hzz⟩ : ∃ z, z = rd d (n : Int) := ⟨_, rfl⟩
      have HZ := Aside0.mk hzz
      rw [← hzz] at hy
      clear hzz
      go_wp2
      go_roundw
      case rel =>
        refine ⟨n + 1, by omega, by go_num, ⟨blk_far B1.out (by simp; omega) _⟩, ⟨blk_far B2.out (by simp) _⟩, ⟨?_⟩, ⟨below_set HB.out (by omega)⟩⟩
        have h8 := blk_set8 B3.out y z
        rw [HY.out, ← HZ.out]
        exact h8
      case measure => simp [intOf]; omega
    · have hn : n = p.length := by omega
      subst hn
      have B3 := Aside0.mk B3.out
      rw [← HX.out] at B3
      obtain ⟨y0, y1, y2, y3, y4, y5, y6, y7, rfl⟩ := eight (l := R) hRl
      have k0 : wr.cell? ⟨w.heap.size + 1 + 1, 0, none⟩ = some (.int .u8 y0) := blk_cell B3.out 0
      have k1 : wr.cell? ⟨w.heap.size + 1 + 1, 1, none⟩ = some (.int .u8 y1) := blk_cell B3.out 1
      have k2 : wr.cell? ⟨w.heap.size + 1 + 1, 2, none⟩ = some (.int .u8 y2) := blk_cell B3.out 2
      have k3 : wr.cell? ⟨w.heap.size + 1 + 1, 3, none⟩ = some (.int .u8 y3) := blk_cell B3.out 3
      have k4 : wr.cell? ⟨w.heap.size + 1 + 1, 4, none⟩ = some (.int .u8 y4) := blk_cell B3.out 4
      have k5 : wr.cell? ⟨w.heap.size + 1 + 1, 5, none⟩ = some (.int .u8 y5) := blk_cell B3.out 5
      have k6 : wr.cell? ⟨w.heap.size + 1 + 1, 6, none⟩ = some (.int .u8 y6) := blk_cell B3.out 6
      have k7 : wr.cell? ⟨w.heap.size + 1 + 1, 7, none⟩ = some (.int .u8 y7) := blk_cell B3.out 7
      have q0 : wr.cell? ⟨w.heap.size + 1, 0, none⟩ = some (.int .u8 0) := blk_cell B2.out 0
      have q1 : wr.cell? ⟨w.heap.size + 1, 1, none⟩ = some (.int .u8 0) := blk_cell B2.out 1
      have q2 : wr.cell? ⟨w.heap.size + 1, 2, none⟩ = some (.int .u8 0) := blk_cell B2.out 2
      have q3 : wr.cell? ⟨w.heap.size + 1, 3, none⟩ = some (.int .u8 0) := blk_cell B2.out 3
      have q4 : wr.cell? ⟨w.heap.size + 1, 4, none⟩ = some (.int .u8 0) := blk_cell B2.out 4
      have q5 : wr.cell? ⟨w.heap.size + 1, 5, none⟩ = some (.int .u8 0) := blk_cell B2.out 5
      have q6 : wr.cell? ⟨w.heap.size + 1, 6, none⟩ = some (.int .u8 0) := blk_cell B2.out 6
      have q7 : wr.cell? ⟨w.heap.size + 1, 7, none⟩ = some (.int .u8 0) := blk_cell B2.out 7
      have hf := fun i => blk_frozen B2.out i
      go_wp2
      refine bodyPost_ret (v := .agg #[.int .u8 y0, .int .u8 y1, .int .u8 y2, .int .u8 y3, .int .u8 y4, .int .u8 y5, .int .u8 y6, .int .u8 y7]) (by simp [results, Tryz.results64, go_sem, q0, q1, q2, q3, q4, q5, q6, q7]) rfl ⟨rfl, ?_⟩
      repeat (refine below_set ?_ (by omega))
      exact HB.out
def sum8 (s a b : List Int) : List Int := upd8 (fun k => (rd a (k : Int) + rd b (k : Int)) % rd s (k : Int)) s.length
theorem sum8_inR {s : List Int} (hs : isSp s = true) (a b : List Int) : inR s (sum8 s a b) = true := by
  refine inR_of _ _ fun k h1 h2 => ?_
  have hl := isSp_len hs
  obtain ⟨q0, q1⟩ := size_rd (isSp_all hs) h1
  rw [sum8, upd8_rd _ _ h1 (by omega)]
  exact ⟨Int.emod_nonneg _ (by omega), Int.emod_lt_of_pos _ (by omega)⟩
set_option maxHeartbeats 4000000 in
set_option maxRecDepth 100000 in
theorem sumOf_calls (A : Option Addr) (c : Nat) (s d d2 : List Int) (w : World) (hr : Kd.C (Kd.int .i64) w A s.length s) (hc : s.length ≤ c) (hs : isSp s = true) (hd : d.length = 8) (hin : inR s d = true) (hd2 : d2.length = 8) (hin2 : inR s d2 = true) :
    Calls Tryz.prog 74 #[.agg #[.slice A s.length c], arr8 d, arr8 d2] w
      fun e w' => e = .returned (arr8 (sum8 s d d2)) ∧ Below w.heap.size w w' := by
  have huS := Tryz.underlying26
  have huD := Tryz.underlying66
  have HR := Aside0.mk hr
  have HS := Aside0.mk (isSp_all hs)
  have hl := isSp_len hs
  have HD := Aside0.mk hd
  have HI := Aside0.mk hin
  have HD2 := Aside0.mk hd2
  have HI2 := Aside0.mk hin2
  clear hr hs hd hin hd2 hin2
  have HX : Aside0 (sum8 s d d2 = upd8 (fun k => (rd d (k : Int) + rd d2 (k : Int)) % rd s (k : Int)) s.length) := ⟨rfl⟩
  generalize sum8 s d d2 = R at *
  unfold arr8
  go_enter Tryz.func74, Tryz.ntmps74
  go_wp2
  have HB : Aside0 (Below w.heap.size w (((((w.alloc (.cells #[.slice A s.length c] 26)).alloc (.cells (nums .u8 d).toArray 66)).alloc (.cells (nums .u8 d2).toArray 66)).alloc (.cells #[.int .u8 0, .int .u8 0, .int .u8 0, .int .u8 0, .int .u8 0, .int .u8 0, .int .u8 0, .int .u8 0] 66)).alloc (.cells #[.int .u8 0, .int .u8 0, .int .u8 0, .int .u8 0, .int .u8 0, .int .u8 0, .int .u8 0, .int .u8 0] 66))) := ⟨below_alloc (below_alloc (below3 _ _ _ _) _) _⟩
  have b1 : (((((w.alloc (.cells #[.slice A s.length c] 26)).alloc (.cells (nums .u8 d).toArray 66)).alloc (.cells (nums .u8 d2).toArray 66)).alloc (.cells #[.int .u8 0, .int .u8 0, .int .u8 0, .int .u8 0, .int .u8 0, .int .u8 0, .int .u8 0, .int .u8 0] 66)).alloc (.cells #[.int .u8 0, .int .u8 0, .int .u8 0, .int .u8 0, .int .u8 0, .int .u8 0, .int .u8 0, .int .u8 0] 66)).heap[w.heap.size + 1]? = some (.cells (nums .u8 d).toArray 66 (0, 0)) :=
    blk_alloc (blk_alloc (blk_alloc (by simpa using blk_new (w.alloc (.cells #[.slice A s.length c] 26)) (.cells (nums .u8 d).toArray 66)) _) _) _
  have b1b : (((((w.alloc (.cells #[.slice A s.length c] 26)).alloc (.cells (nums .u8 d).toArray 66)).alloc (.cells (nums .u8 d2).toArray 66)).alloc (.cells #[.int .u8 0, .int .u8 0, .int .u8 0, .int .u8 0, .int .u8 0, .int .u8 0, .int .u8 0, .int .u8 0] 66)).alloc (.cells #[.int .u8 0, .int .u8 0, .int .u8 0, .int .u8 0, .int .u8 0, .int .u8 0, .int .u8 0, .int .u8 0] 66)).heap[w.heap.size + 1 + 1]? = some (.cells (nums .u8 d2).toArray 66 (0, 0)) :=
    blk_alloc (blk_alloc (by simpa using blk_new ((w.alloc (.cells #[.slice A s.length c] 26)).alloc (.cells (nums .u8 d).toArray 66)) (.cells (nums .u8 d2).toArray 66)) _) _
  have b2 : (((((w.alloc (.cells #[.slice A s.length c] 26)).alloc (.cells (nums .u8 d).toArray 66)).alloc (.cells (nums .u8 d2).toArray 66)).alloc (.cells #[.int .u8 0, .int .u8 0, .int .u8 0, .int .u8 0, .int .u8 0, .int .u8 0, .int .u8 0, .int .u8 0] 66)).alloc (.cells #[.int .u8 0, .int .u8 0, .int .u8 0, .int .u8 0, .int .u8 0, .int .u8 0, .int .u8 0, .int .u8 0] 66)).heap[w.heap.size + 1 + 1 + 1]? = some (.cells (nums .u8 (List.replicate 8 0)).toArray 66 (0, 0)) := by
    rw [z8]
    exact blk_alloc (by simpa using blk_new (((w.alloc (.cells #[.slice A s.length c] 26)).alloc (.cells (nums .u8 d).toArray 66)).alloc (.cells (nums .u8 d2).toArray 66)) (.cells #[.int .u8 0, .int .u8 0, .int .u8 0, .int .u8 0, .int .u8 0, .int .u8 0, .int .u8 0, .int .u8 0] 66)) _
  have b3 : (((((w.alloc (.cells #[.slice A s.length c] 26)).alloc (.cells (nums .u8 d).toArray 66)).alloc (.cells (nums .u8 d2).toArray 66)).alloc (.cells #[.int .u8 0, .int .u8 0, .int .u8 0, .int .u8 0, .int .u8 0, .int .u8 0, .int .u8 0, .int .u8 0] 66)).alloc (.cells #[.int .u8 0, .int .u8 0, .int .u8 0, .int .u8 0, .int .u8 0, .int .u8 0, .int .u8 0, .int .u8 0] 66)).heap[w.heap.size + 1 + 1 + 1 + 1]? = some (.cells (nums .u8 (List.replicate 8 0)).toArray 66 (0, 0)) := by
    rw [z8]
    simpa using blk_new ((((w.alloc (.cells #[.slice A s.length c] 26)).alloc (.cells (nums .u8 d).toArray 66)).alloc (.cells (nums .u8 d2).toArray 66)).alloc (.cells #[.int .u8 0, .int .u8 0, .int .u8 0, .int .u8 0, .int .u8 0, .int .u8 0, .int .u8 0, .int .u8 0] 66)) (.cells #[.int .u8 0, .int .u8 0, .int .u8 0, .int .u8 0, .int .u8 0, .int .u8 0, .int .u8 0, .int .u8 0] 66)
  have B1 := Aside0.mk b1
  have B1b := Aside0.mk b1b
  have B2 := Aside0.mk b2
  have B3 := Aside0.mk b3
  clear b1 b1b b2 b3
  generalize ((((w.alloc (.cells #[.slice A s.length c] 26)).alloc (.cells (nums .u8 d).toArray 66)).alloc (.cells (nums .u8 d2).toArray 66)).alloc (.cells #[.int .u8 0, .int .u8 0, .int .u8 0, .int .u8 0, .int .u8 0, .int .u8 0, .int .u8 0, .int .u8 0] 66)).alloc (.cells #[.int .u8 0, .int .u8 0, .int .u8 0, .int .u8 0, .int .u8 0, .int .u8 0, .int .u8 0, .int .u8 0] 66) = W0 at *
  go_loopw [14] (fun i W => ∃ (n : Nat), n ≤ s.length ∧ i = .int .i64 n ∧ Aside0 (W.heap[w.heap.size + 1]? = some (.cells (nums .u8 d).toArray 66 (0, 0))) ∧ Aside0 (W.heap[w.heap.size + 1 + 1]? = some (.cells (nums .u8 d2).toArray 66 (0, 0))) ∧ Aside0 (W.heap[w.heap.size + 1 + 1 + 1]? = some (.cells (nums .u8 (List.replicate 8 0)).toArray 66 (0, 0))) ∧
      Aside0 (W.heap[w.heap.size + 1 + 1 + 1 + 1]? = some (.cells (nums .u8 (upd8 (fun k => (rd d (k : Int) + rd d2 (k : Int)) % rd s (k : Int)) n)).toArray 66 (0, 0))) ∧ Aside0 (Below w.heap.size w W)) (fun i _ => s.length - (intOf i).toNat)
  case atStart => exact ⟨0, by omega, rfl, B1, B1b, B2, ⟨by rw [upd8_zero]; exact B3.out⟩, HB⟩
  case round =>
    clear B1 B1b B2 B3 HB
    obtain ⟨n, hn, rfl, B1, B1b, B2, B3, HB⟩ := hrel
    by_cases hlt : n < s.length
    · obtain ⟨ad, e, _⟩ := Kd.at_int HR.out (n : Int) (by omega) (by omega)
      subst e
      have hx := rd_cell HR.out HB.out n (by omega)
      have hy := cell8 B1.out (i := n) (by have := HD.out; omega)
      have hy2 := cell8 B1b.out (i := n) (by have := HD2.out; omega)
      have hz := cell8 B3.out (i := n) (by rw [upd8_length]; omega)
      have hfz := blk_frozen B3.out n
      obtain ⟨r0, r1⟩ := inR_rd s d n HI.out hlt (by have := HD.out; omega)
      obtain ⟨r2, r3⟩ := inR_rd s d2 n HI2.out hlt (by have := HD2.out; omega)
      obtain ⟨q0, q1⟩ := size_rd HS.out hlt
      have HU := Aside0.mk (upd8_succ (fun k => (rd d (k : Int) + rd d2 (k : Int)) % rd s (k : Int)) n)
      obtain ⟨m0, m1⟩ := mod_small (x := rd d (n : Int) + rd d2 (n : Int)) q0 q1
      obtain ⟨q, hq⟩ : ∃ q, q = rd s (n : Int) := ⟨_, rfl⟩
      obtain ⟨x, hx2⟩ : ∃ x, x = rd d (n : Int) := ⟨_, rfl⟩
      obtain ⟨y, hy3⟩ : ∃ y, y = rd d2 (n : Int) := ⟨_, rfl⟩
      have HQ := Aside0.mk (And.intro hq (And.intro hx2 hy3))
      rw [← hq] at hx m0 m1 q0 q1 r1 r3
      rw [← hx2] at hy m0 m1 r0 r1
      rw [← hy3] at hy2 m0 m1 r2 r3
      clear hq hx2 hy3
      have hsum : 0 ≤ x + y ∧ x + y ≤ 6 := by omega
      obtain ⟨s0, s1⟩ := hsum
      go_wp2
      go_region
      all_goals go_wp2
      all_goals
        go_roundw
        case rel =>
          refine ⟨n + 1, by omega, by go_num, ⟨blk_drew (blk_far B1.out (by simp) _)⟩, ⟨blk_drew (blk_far B1b.out (by simp) _)⟩, ⟨blk_drew (blk_far B2.out (by simp) _)⟩, ⟨?_⟩, ⟨below_drew (below_set HB.out (by omega))⟩⟩
          have h8 := blk_set8 B3.out n ((x + y) % q)
          rw [HQ.out.1, HQ.out.2.1, HQ.out.2.2] at h8
          rw [HU.out] at h8
          rw [HQ.out.1, HQ.out.2.1, HQ.out.2.2]
          exact blk_drew h8
        case measure => simp [intOf]; omega
    · have hn : n = s.length := by omega
      subst hn
      have B3 := Aside0.mk B3.out
      rw [← HX.out] at B3
      obtain ⟨y0, y1, y2, y3, y4, y5, y6, y7, rfl⟩ := eight (l := R) (by rw [HX.out, upd8_length])
      have k0 : wr.cell? ⟨w.heap.size + 1 + 1 + 1 + 1, 0, none⟩ = some (.int .u8 y0) := blk_cell B3.out 0
      have k1 : wr.cell? ⟨w.heap.size + 1 + 1 + 1 + 1, 1, none⟩ = some (.int .u8 y1) := blk_cell B3.out 1
      have k2 : wr.cell? ⟨w.heap.size + 1 + 1 + 1 + 1, 2, none⟩ = some (.int .u8 y2) := blk_cell B3.out 2
      have k3 : wr.cell? ⟨w.heap.size + 1 + 1 + 1 + 1, 3, none⟩ = some (.int .u8 y3) := blk_cell B3.out 3
      have k4 : wr.cell? ⟨w.heap.size + 1 + 1 + 1 + 1, 4, none⟩ = some (.int .u8 y4) := blk_cell B3.out 4
      have k5 : wr.cell? ⟨w.heap.size + 1 + 1 + 1 + 1, 5, none⟩ = some (.int .u8 y5) := blk_cell B3.out 5
      have k6 : wr.cell? ⟨w.heap.size + 1 + 1 + 1 + 1, 6, none⟩ = some (.int .u8 y6) := blk_cell B3.out 6
      have k7 : wr.cell? ⟨w.heap.size + 1 + 1 + 1 + 1, 7, none⟩ = some (.int .u8 y7) := blk_cell B3.out 7
      have q0 : wr.cell? ⟨w.heap.size + 1 + 1 + 1, 0, none⟩ = some (.int .u8 0) := blk_cell B2.out 0
      have q1 : wr.cell? ⟨w.heap.size + 1 + 1 + 1, 1, none⟩ = some (.int .u8 0) := blk_cell B2.out 1
      have q2 : wr.cell? ⟨w.heap.size + 1 + 1 + 1, 2, none⟩ = some (.int .u8 0) := blk_cell B2.out 2
      have q3 : wr.cell? ⟨w.heap.size + 1 + 1 + 1, 3, none⟩ = some (.int .u8 0) := blk_cell B2.out 3
      have q4 : wr.cell? ⟨w.heap.size + 1 + 1 + 1, 4, none⟩ = some (.int .u8 0) := blk_cell B2.out 4
      have q5 : wr.cell? ⟨w.heap.size + 1 + 1 + 1, 5, none⟩ = some (.int .u8 0) := blk_cell B2.out 5
      have q6 : wr.cell? ⟨w.heap.size + 1 + 1 + 1, 6, none⟩ = some (.int .u8 0) := blk_cell B2.out 6
      have q7 : wr.cell? ⟨w.heap.size + 1 + 1 + 1, 7, none⟩ = some (.int .u8 0) := blk_cell B2.out 7
      have hf := fun i => blk_frozen B2.out i
      go_wp2
      refine bodyPost_ret (v := .agg #[.int .u8 y0, .int .u8 y1, .int .u8 y2, .int .u8 y3, .int .u8 y4, .int .u8 y5, .int .u8 y6, .int .u8 y7]) (by simp [results, Tryz.results74, go_sem, q0, q1, q2, q3, q4, q5, q6, q7]) rfl ⟨rfl, ?_⟩
      repeat (refine below_set ?_ (by omega))
      exact HB.out
set_option maxHeartbeats 4000000 in
set_option maxRecDepth 100000 in
theorem sumWords_calls (A : Option Addr) (c : Nat) (s : List Int) (x y : Int) (w : World) (hr : Kd.C (Kd.int .i64) w A s.length s) (hc : s.length ≤ c) (hs : isSp s = true) (h0 : 0 ≤ x) (h1 : x ≤ 1024) (h2 : 0 ≤ y) (h3 : y ≤ 1024) :
    Calls Tryz.prog 61 #[.agg #[.slice A s.length c], .int .i64 x, .int .i64 y] w
      fun e w' => e = .returned (.int .i64 (hor 0 s (sum8 s (dig8 s x) (dig8 s y)))) ∧ Below w.heap.size w w' := by
  have huS := Tryz.underlying26
  have HR := Aside0.mk hr
  have HS := Aside0.mk hs
  have I1 := Aside0.mk (dig8_inR hs x)
  have I2 := Aside0.mk (dig8_inR hs y)
  have I3 := Aside0.mk (sum8_inR hs (dig8 s x) (dig8 s y))
  clear hr hs
  go_enter Tryz.func61, Tryz.ntmps61
  go_wp2_with fail
  have hcell : (w.alloc (.cells #[.slice A s.length c] 26)).cell? ⟨w.heap.size, 0, none⟩ = some (.slice A s.length c) := blk_cell (blk_new _ _) 0
  have hB : Below w.heap.size w (w.alloc (.cells #[.slice A s.length c] 26)) := (Below.refl _ _).alloc (Nat.le_refl _) _
  go_region_held3 (fun w' => w'.cell? ⟨w.heap.size, 0, none⟩ = some (.slice A s.length c) ∧ Below w.heap.size w w') (first | exact ⟨hcell, below_drew hB⟩ | exact keepS hb (by assumption))
    (first
      | (go_at_call 65; refine (digitsOf_calls A c s _ _ ?k1 hc HS.out (by omega) (by omega)).mono ?_; (case k1 => exact Kd.C_below HR.out (by first | assumption | exact (by assumption : _ ∧ Below _ _ _).2)); rintro e w' ⟨rfl, hb⟩)
      | (go_at_call 74; refine (sumOf_calls A c s (dig8 s x) (dig8 s y) _ ?k1 hc HS.out (dig8_length _ _) I1.out (dig8_length _ _) I2.out).mono ?_; (case k1 => exact Kd.C_below HR.out (by first | assumption | exact (by assumption : _ ∧ Below _ _ _).2)); rintro e w' ⟨rfl, hb⟩)
      | (go_at_call 63; refine (wordOf_calls A c s (sum8 s (dig8 s x) (dig8 s y)) _ ?k1 hc HS.out (upd8_length _ _) I3.out).mono ?_; (case k1 => exact Kd.C_below HR.out (by first | assumption | exact (by assumption : _ ∧ Below _ _ _).2)); rintro e w' ⟨rfl, hb⟩))
  all_goals
    go_wp2
    go_ret
    exact ⟨rfl, (by assumption : _ ∧ Below w.heap.size w _).2⟩
end Go.Proofs.YtnkndaapamenmaaGreat.P
