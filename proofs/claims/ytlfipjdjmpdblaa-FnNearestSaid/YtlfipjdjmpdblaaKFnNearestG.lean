/- What the law FnNearest needs, part 7: words, walks of functions (each says that a call returns what the plain Lean function beside it says), plain lemmas. -/
import Derived.Test.YtlfipjdjmpdblaaKFnNearestF
namespace Go.Proofs.Ytlfipjdjmpdblaa.P
open Go.RowKit Go.Proofs.YtlfipjdjmpdblaaW.PrintWords Go.Proofs.YtlfipjdjmpdblaaW.PrintLast Go.Proofs.YtlfipjdjmpdblaaW.PrintMore
attribute [local go_sem] max2_int min2_int max_two min_two max_three min_three max_four min_four
set_option linter.unusedVariables false
set_option linter.unusedSimpArgs false
def spec_l01Own.f (l0 : List Int) : Option (List Int) := (some (([] : List Int) : List Int)).bind fun y101 => (if y101.length + l0.length < 17592186044416 then (some (y101 ++ l0)) else (none))
set_option maxHeartbeats 8000000 in
set_option maxRecDepth 100000 in
theorem spec_l01Own.calls (A0 : Option Addr) (c0 : Nat) (l0 : List Int) (r : List Int) (w : World) (hr0 : Kd.C (Kd.int .i64) w A0 l0.length l0) (hc0 : l0.length ≤ c0) (h : spec_l01Own.f l0 = some r) :
  Calls Try.prog 115 #[.slice A0 l0.length c0] w fun e w' => ∃ v0_ : Value, e = .returned (v0_) ∧ Kd.R (Kd.int .i64) 2 w' w.heap.size (fun _ => True) v0_ r ∧ Below w.heap.size w w' := by
 have HR0 := Aside0.mk hr0
 have HC0 := Aside0.mk hc0
 clear hr0 hc0
 have HB := Aside0.mk (Below.refl w.heap.size w)
 have H : ((some (([] : List Int) : List Int)).bind fun y101 => (if y101.length + l0.length < 17592186044416 then (some (y101 ++ l0)) else (none))) = some r := h
 clear h
 obtain ⟨y101, hy101⟩ : ∃ y_ : List Int, y_ = (([] : List Int)) := ⟨_, rfl⟩
 replace H : (if y101.length + l0.length < 17592186044416 then (some (y101 ++ l0)) else (none)) = some r := by first | (rw [hy101]; with_reducible exact H) | (have H2_ := (Option.bind_some _ _).symm.trans H; rw [hy101]; with_reducible exact H2_) | (have H2_ := (Option.bind_some _ _).symm.trans H; with_reducible exact H2_) | with_reducible exact H | (rw [hy101]; exact H) | exact H
 have Ny101 := Aside0.mk hy101
 clear hy101
 by_cases c2 : y101.length + l0.length < 17592186044416
 rotate_left
 ·rw [if_neg c2] at H
  exact absurd H (by simp)

 rw [if_pos c2] at H
 have LMc2 := Aside0.mk c2
 clear c2
 obtain ⟨y104, hy104⟩ : ∃ y_ : List Int, y_ = (y101 ++ l0) := ⟨_, rfl⟩
 replace H : (some y104) = some r := by first | (rw [hy104]; with_reducible exact H) | (have H2_ := (Option.bind_some _ _).symm.trans H; rw [hy104]; with_reducible exact H2_) | (have H2_ := (Option.bind_some _ _).symm.trans H; with_reducible exact H2_) | with_reducible exact H | (rw [hy104]; exact H) | exact H
 have Ny104 := Aside0.mk hy104
 clear hy104
 obtain rfl := Option.some.inj H
 go_enter Try.func115, Try.ntmps115
 go_wp2_with (first | ((with_reducible refine gate_dst (N := 3) rfl ?_); refine Kd.R_lit (Kd.int .i64) _ 2 ?hg (N := 3) ?hd (xs := ([] : List Int)) (inner := []) (ok := fun _ => True) (okp := fun _ => True) ?hr ?hp (fun _ hk => hk) trivial (Below.refl _ _) (Nat.le_refl _) (by simp) ?_; (case hd => rfl); (case hg => rfl); (case hr => exact t3_); (case hp => exact (Reps.none _ _)); intro v102 w3 ho4 hb hg_ hnew_; clear hg_ hnew_; (first | rw [← Ny101.out] at ho4 | (simp only [Int.reduceToNat] at ho4; rw [← Ny101.out] at ho4)); have n0_ := Aside0.mk (Kd.R_lower ho4 (below_size (gb_ HB.out))); have n1_ := b1_ HB hb; clear HB; have HO103 := n0_; have HB := n1_; clear n0_ n1_ hb ho4) | ((with_reducible refine gate_builtin (b := .append) (xs := #[.tmp 3, .tmp 4]) rfl ?_); at_builtin; refine Kd.R_append_rows (Kd.int .i64) (w0 := w) w.heap.size rfl (.tmp 3) (.tmp 4) 24 2 (.int .i64 0) 8 rfl Try.underlying24 info2 rfl (by decide) (by omega) v102 y101 l0 _ _ _ (fun _ => True) (fun _ => False) rfl rfl ?aO ?aR (fun _ _ h => h) (fun _ h => h.elim) ?aF ?aB ?aS ?aL ?_; (case aR => repeat (first | exact (Kd.C_below HR0.out HB.out) | (with_reducible refine Kd.C_alloc ?_ _) | (with_reducible refine Kd.C_drewN ?_ _) | (with_reducible refine Kd.C_drew ?_))); (case aB => exact (gb_ HB.out)); (case aF => exact (fun _ _ => trivial)); (case aO => exact (rb_ HO103.out)); (case aS => exact (below_size (gb_ HB.out))); (case aL => have := LMc2.out; omega); intro v105 w5 ho hb hg hat; rw [← Ny104.out] at ho; have n0_ := Aside0.mk (hb); have n1_ := Aside0.mk (ho); clear HB HO103; have HB := n0_; have HO106 := n1_; clear n0_ n1_ ho hb hg hat))
 go_ret
 exact ⟨_, t5_, rb_ HO106.out, gb_ HB.out⟩
def impl_areWords.l0 : Nat → Int → List Int → Int → Int → Option (Bool)
 | 0, _, _, _, _ => none
 | k + 1, x5, x10, x11, x12 => if x12 < x11 then (if 0 ≤ x12 then (if x12 < (x10.length : Int) then (if (rd x10 x12) < 0 then (some false) else (if (rd x10 x12) ≥ x5 then (some false) else (impl_areWords.l0 k x5 x10 x11 (wrap64 (x12 + 1))))) else (none)) else (none)) else (some true)
def impl_areWords.f (k : Nat) (l0_0 : List Int) (l1 : List Int) : Option (Bool) := (impl_count.f k l0_0).bind fun t102 => (impl_areWords.l0 k t102 l1 (l1.length : Int) 0)
set_option maxHeartbeats 8000000 in
set_option maxRecDepth 100000 in
theorem impl_areWords.calls (k : Nat) (A0_0 : Option Addr) (c0_0 : Nat) (l0_0 : List Int) (A1 : Option Addr) (c1 : Nat) (l1 : List Int) (r : Bool) (w : World) (hr0_0 : Kd.C (Kd.int .i64) w A0_0 l0_0.length l0_0) (hc0_0 : l0_0.length ≤ c0_0) (hr1 : Kd.C (Kd.int .i64) w A1 l1.length l1) (hc1 : l1.length ≤ c1) (h : impl_areWords.f k l0_0 l1 = some r) :
  Calls Try.prog 110 #[.agg #[.slice A0_0 l0_0.length c0_0], .slice A1 l1.length c1] w fun e w' => e = .returned (.bool r) ∧ Below w.heap.size w w' := by
 have hu26 := Try.underlying26
 have HR0_0 := Aside0.mk hr0_0
 have HC0_0 := Aside0.mk hc0_0
 clear hr0_0 hc0_0
 have HR1 := Aside0.mk hr1
 have HC1 := Aside0.mk hc1
 clear hr1 hc1
 have HB := Aside0.mk (Below.refl w.heap.size w)
 have H : ((impl_count.f k l0_0).bind fun t102 => (impl_areWords.l0 k t102 l1 (l1.length : Int) 0)) = some r := h
 clear h
 replace H := Option.bind_eq_some_iff.mp H
 obtain ⟨t102, A30, H⟩ := H
 replace H : (impl_areWords.l0 k t102 l1 (l1.length : Int) 0) = some r := H
 have A3 := Aside0.mk A30
 clear A30
 have H' := Aside0.mk H
 clear H
 go_enter Try.func110, Try.ntmps110
 go_wp2_with (first | ((with_reducible refine gate_dst (N := 2) rfl ?_); refine box_event ?hg (N := 2) ?hd (cs := #[.slice A0_0 l0_0.length c0_0]) (t := 26) ?hr ?_; (case hd => rfl); (case hg => rfl); (case hr => exact t3_); intro gb101 hg w4 hbox hb; have n0_ := b1_ HB hb; have n1_ := Aside0.mk (hbox); have n2_ := Aside0.mk ((by rw [hg]; exact (below_size (gb_ HB.out)) : w.heap.size ≤ gb101)); have n3_ := Aside0.mk ((by rw [hg]; exact (below_size (gb_ HB.out)) : w.heap.size ≤ gb101)); clear HB; have HB := n0_; have BK101 := n1_; have GW101 := n2_; have GE101 := n3_; clear n0_ n1_ n2_ n3_ hb hbox hg; have hcz5_0 : w4.cell? ⟨gb101, 0, none⟩ = some (.slice A0_0 l0_0.length c0_0) := (blk_cell BK101.out 0).trans rfl; have hfz5_0 := blk_frozen BK101.out 0) | ((with_reducible refine gate_callee (f := 124) rfl ?_); refine goesL_ (some 9) rfl rfl Try.func124 (by kernel_rfl) rfl #[.agg #[.slice A0_0 l0_0.length c0_0]] rfl t1_ ?_; (with_reducible refine (impl_count.calls k _ _ l0_0 t102 _ ?side1 ?side2 A3.out).mono ?_); (case side1 => exact c2_ HR0_0 HB); (case side2 => exact HC0_0.out); rintro e w6 ⟨rfl, hb⟩; refine ⟨_, rfl, ?_⟩; replace BK101 := a2_ BK101 hb; replace HB := b1_ HB hb; (try clear hb); (try clear hb2); (try clear hk); (try clear hi)))
 go_loopg [12] k (fun kq v12 w' => ∃ (x12_1 : Int), v12 = .int .i64 x12_1 ∧ Aside0 (impl_areWords.l0 kq t102 l1 (l1.length : Int) x12_1 = some r) ∧ Aside0 (kq ≤ k) ∧ Aside0 (w'.heap[gb101]? = some (.cells #[(.slice A0_0 l0_0.length c0_0)] 26 (0, 0))) ∧ Aside0 (Below w.heap.size w w'))
 case atStart => exact ⟨(0), t2_, H', ⟨Nat.le_refl _⟩, ⟨bb_ BK101.out⟩, ⟨gb_ HB.out⟩⟩
 clear H'
 try clear c1
 try clear p2
 try clear hcz5_0
 try clear hfz5_0
 obtain ⟨x12_1, rfl, HA, HK1, BK101, HB⟩ := hrel
 obtain _ | k1 := gk
 ·exact absurd HA.out (by simp [impl_areWords.l0])
 have H := HA.out
 clear HA
 simp only [impl_areWords.l0] at H
 by_cases c7 : x12_1 < (l1.length : Int)
 rotate_left
 ·rw [if_neg c7] at H
  have c7b0 : decide (x12_1 < (l1.length : Int)) = false := decide_eq_false c7
  clear c7
  obtain rfl := Option.some.inj H
  go_wp2
  go_ret
  exact ⟨t5_, gb_ HB.out⟩

 rw [if_pos c7] at H
 have c7b0 : decide (x12_1 < (l1.length : Int)) = true := decide_eq_true c7
 clear c7
 by_cases c8 : 0 ≤ x12_1
 rotate_left
 ·rw [if_neg c8] at H
  exact absurd H (by simp)
 rw [if_pos c8] at H
 have c8b0 : decide (0 ≤ x12_1) = true := decide_eq_true c8
 clear c8
 by_cases c9 : x12_1 < (l1.length : Int)
 rotate_left
 ·rw [if_neg c9] at H
  exact absurd H (by simp)
 rw [if_pos c9] at H
 have c9b0 : decide (x12_1 < (l1.length : Int)) = true := decide_eq_true c9
 clear c9
 by_cases c10 : (rd l1 x12_1) < 0
 ·rw [if_pos c10] at H
  have c10b0 : decide ((rd l1 x12_1) < 0) = true := decide_eq_true c10
  clear c10
  obtain rfl := Option.some.inj H
  have p103 : 0 ≤ (x12_1 : Int) := of_decide_eq_true (by first | (with_reducible assumption) | assumption)
  have q103 : x12_1 < (l1.length : Int) := of_decide_eq_true (by first | (with_reducible assumption) | assumption)
  obtain ⟨ad103, e103, hx103_0⟩ := Kd.at_int HR1.out x12_1 p103 q103
  cases e103
  replace hx103_0 := (HB.out.cell (World.block_lt_of_cell? _ _ hx103_0)).trans hx103_0
  replace p103 := eq_true p103
  replace q103 := eq_true q103
  go_wp2
  go_ret
  exact ⟨t5_, gb_ HB.out⟩
 rw [if_neg c10] at H
 have c10b0 : decide ((rd l1 x12_1) < 0) = false := decide_eq_false c10
 clear c10
 by_cases c11 : (rd l1 x12_1) ≥ t102
 ·rw [if_pos c11] at H
  have c11b0 : decide (t102 ≤ (rd l1 x12_1)) = true := decide_eq_true c11
  clear c11
  obtain rfl := Option.some.inj H
  have p103 : 0 ≤ (x12_1 : Int) := of_decide_eq_true (by first | (with_reducible assumption) | assumption)
  have q103 : x12_1 < (l1.length : Int) := of_decide_eq_true (by first | (with_reducible assumption) | assumption)
  obtain ⟨ad103, e103, hx103_0⟩ := Kd.at_int HR1.out x12_1 p103 q103
  cases e103
  replace hx103_0 := (HB.out.cell (World.block_lt_of_cell? _ _ hx103_0)).trans hx103_0
  replace p103 := eq_true p103
  replace q103 := eq_true q103
  go_wp2
  go_ret
  exact ⟨t5_, gb_ HB.out⟩
 rw [if_neg c11] at H
 have c11b0 : decide (t102 ≤ (rd l1 x12_1)) = false := decide_eq_false c11
 clear c11
 have H' := Aside0.mk H
 clear H
 have p103 : 0 ≤ (x12_1 : Int) := of_decide_eq_true (by first | (with_reducible assumption) | assumption)
 have q103 : x12_1 < (l1.length : Int) := of_decide_eq_true (by first | (with_reducible assumption) | assumption)
 obtain ⟨ad103, e103, hx103_0⟩ := Kd.at_int HR1.out x12_1 p103 q103
 cases e103
 replace hx103_0 := (HB.out.cell (World.block_lt_of_cell? _ _ hx103_0)).trans hx103_0
 replace p103 := eq_true p103
 replace q103 := eq_true q103
 go_wp2
 go_roundg k1
 case measure => have := HK1.out; omega
 case rel => exact ⟨(wrap64 (x12_1 + 1)), t2_, H', ⟨by have := HK1.out; omega⟩, ⟨bb_ BK101.out⟩, ⟨gb_ HB.out⟩⟩
def impl_wordCode.f (k : Nat) (l0_0 : List Int) (l1 : List Int) : Option (Int) := (impl_IsSpace.f k l0_0).bind fun t102 => (if t102 = true then ((impl_areWords.f k l0_0 l1).bind fun t103 => (if t103 = true then (some 0) else (some 2))) else (some 1))
set_option maxHeartbeats 8000000 in
set_option maxRecDepth 100000 in
theorem impl_wordCode.calls (k : Nat) (A0_0 : Option Addr) (c0_0 : Nat) (l0_0 : List Int) (A1 : Option Addr) (c1 : Nat) (l1 : List Int) (r : Int) (w : World) (hr0_0 : Kd.C (Kd.int .i64) w A0_0 l0_0.length l0_0) (hc0_0 : l0_0.length ≤ c0_0) (hr1 : Kd.C (Kd.int .i64) w A1 l1.length l1) (hc1 : l1.length ≤ c1) (h : impl_wordCode.f k l0_0 l1 = some r) :
  Calls Try.prog 56 #[.agg #[.slice A0_0 l0_0.length c0_0], .slice A1 l1.length c1] w fun e w' => e = .returned (.int .i64 r) ∧ Below w.heap.size w w' := by
 have hu26 := Try.underlying26
 have HR0_0 := Aside0.mk hr0_0
 have HC0_0 := Aside0.mk hc0_0
 clear hr0_0 hc0_0
 have HR1 := Aside0.mk hr1
 have HC1 := Aside0.mk hc1
 clear hr1 hc1
 have HB := Aside0.mk (Below.refl w.heap.size w)
 have H : ((impl_IsSpace.f k l0_0).bind fun t102 => (if t102 = true then ((impl_areWords.f k l0_0 l1).bind fun t103 => (if t103 = true then (some 0) else (some 2))) else (some 1))) = some r := h
 clear h
 replace H := Option.bind_eq_some_iff.mp H
 obtain ⟨t102, A30, H⟩ := H
 replace H : (if t102 = true then ((impl_areWords.f k l0_0 l1).bind fun t103 => (if t103 = true then (some 0) else (some 2))) else (some 1)) = some r := H
 have A3 := Aside0.mk A30
 clear A30
 by_cases c4 : t102 = true
 rotate_left
 ·replace c4 := Bool.eq_false_iff.mpr c4
  subst c4
  have H1 : (some 1) = some r := by rw [if_neg (show ¬ (false = true) by decide)] at H; exact H
  clear H
  have H := H1
  clear H1
  obtain rfl := Option.some.inj H
  go_enter Try.func56, Try.ntmps56
  go_wp2_with (first | ((with_reducible refine gate_dst (N := 2) rfl ?_); refine box_event ?hg (N := 2) ?hd (cs := #[.slice A0_0 l0_0.length c0_0]) (t := 26) ?hr ?_; (case hd => rfl); (case hg => rfl); (case hr => exact t3_); intro gb101 hg w17 hbox hb; have n0_ := b1_ HB hb; have n1_ := Aside0.mk (hbox); have n2_ := Aside0.mk ((by rw [hg]; exact (below_size (gb_ HB.out)) : w.heap.size ≤ gb101)); have n3_ := Aside0.mk ((by rw [hg]; exact (below_size (gb_ HB.out)) : w.heap.size ≤ gb101)); clear HB; have HB := n0_; have BK101 := n1_; have GW101 := n2_; have GE101 := n3_; clear n0_ n1_ n2_ n3_ hb hbox hg; have hcz18_0 : w17.cell? ⟨gb101, 0, none⟩ = some (.slice A0_0 l0_0.length c0_0) := (blk_cell BK101.out 0).trans rfl; have hfz18_0 := blk_frozen BK101.out 0) | ((with_reducible refine gate_callee (f := 19) rfl ?_); refine goesL_ (some 7) rfl rfl Try.func19 (by kernel_rfl) rfl #[.agg #[.slice A0_0 l0_0.length c0_0]] rfl t1_ ?_; (with_reducible refine (impl_IsSpace.calls k _ _ l0_0 false _ ?side1 ?side2 A3.out).mono ?_); (case side1 => exact c2_ HR0_0 HB); (case side2 => exact HC0_0.out); rintro e w19 ⟨rfl, hb⟩; refine ⟨_, rfl, ?_⟩; replace BK101 := a2_ BK101 hb; replace HB := b1_ HB hb; (try clear hb); (try clear hb2); (try clear hk); (try clear hi)))
  go_ret
  exact ⟨t5_, gb_ HB.out⟩

 subst c4
 have H1 : ((impl_areWords.f k l0_0 l1).bind fun t103 => (if t103 = true then (some 0) else (some 2))) = some r := by rw [if_pos rfl] at H; exact H
 clear H
 have H := H1
 clear H1
 replace H := Option.bind_eq_some_iff.mp H
 obtain ⟨t103, A50, H⟩ := H
 replace H : (if t103 = true then (some 0) else (some 2)) = some r := H
 have A5 := Aside0.mk A50
 clear A50
 by_cases c6 : t103 = true
 ·subst c6
  have H1 : (some 0) = some r := by rw [if_pos rfl] at H; exact H
  clear H
  have H := H1
  clear H1
  obtain rfl := Option.some.inj H
  go_enter Try.func56, Try.ntmps56
  go_wp2_with (first | ((with_reducible refine gate_dst (N := 2) rfl ?_); refine box_event ?hg (N := 2) ?hd (cs := #[.slice A0_0 l0_0.length c0_0]) (t := 26) ?hr ?_; (case hd => rfl); (case hg => rfl); (case hr => exact t3_); intro gb101 hg w7 hbox hb; have n0_ := b1_ HB hb; have n1_ := Aside0.mk (hbox); have n2_ := Aside0.mk ((by rw [hg]; exact (below_size (gb_ HB.out)) : w.heap.size ≤ gb101)); have n3_ := Aside0.mk ((by rw [hg]; exact (below_size (gb_ HB.out)) : w.heap.size ≤ gb101)); clear HB; have HB := n0_; have BK101 := n1_; have GW101 := n2_; have GE101 := n3_; clear n0_ n1_ n2_ n3_ hb hbox hg; have hcz8_0 : w7.cell? ⟨gb101, 0, none⟩ = some (.slice A0_0 l0_0.length c0_0) := (blk_cell BK101.out 0).trans rfl; have hfz8_0 := blk_frozen BK101.out 0) | ((with_reducible refine gate_callee (f := 19) rfl ?_); refine goesL_ (some 7) rfl rfl Try.func19 (by kernel_rfl) rfl #[.agg #[.slice A0_0 l0_0.length c0_0]] rfl t1_ ?_; (with_reducible refine (impl_IsSpace.calls k _ _ l0_0 true _ ?side1 ?side2 A3.out).mono ?_); (case side1 => exact c2_ HR0_0 HB); (case side2 => exact HC0_0.out); rintro e w9 ⟨rfl, hb⟩; refine ⟨_, rfl, ?_⟩; replace BK101 := a2_ BK101 hb; replace HB := b1_ HB hb; (try clear hb); (try clear hb2); (try clear hk); (try clear hi); have hcz10_0 : w9.cell? ⟨gb101, 0, none⟩ = some (.slice A0_0 l0_0.length c0_0) := (blk_cell BK101.out 0).trans rfl; have hfz10_0 := blk_frozen BK101.out 0) | ((with_reducible refine gate_callee (f := 110) rfl ?_); refine goesL_ (some 12) rfl rfl Try.func110 (by kernel_rfl) rfl #[.agg #[.slice A0_0 l0_0.length c0_0], .slice A1 l1.length c1] rfl t1_ ?_; (with_reducible refine (impl_areWords.calls k _ _ l0_0 _ _ l1 true _ ?side1 ?side2 ?side3 ?side4 A5.out).mono ?_); (case side1 => exact c2_ HR0_0 HB); (case side2 => exact HC0_0.out); (case side3 => exact c2_ HR1 HB); (case side4 => exact HC1.out); rintro e w11 ⟨rfl, hb⟩; refine ⟨_, rfl, ?_⟩; replace BK101 := a2_ BK101 hb; replace HB := b1_ HB hb; (try clear hb); (try clear hb2); (try clear hk); (try clear hi)))
  go_ret
  exact ⟨t5_, gb_ HB.out⟩
 replace c6 := Bool.eq_false_iff.mpr c6
 subst c6
 have H1 : (some 2) = some r := by rw [if_neg (show ¬ (false = true) by decide)] at H; exact H
 clear H
 have H := H1
 clear H1
 obtain rfl := Option.some.inj H
 go_enter Try.func56, Try.ntmps56
 go_wp2_with (first | ((with_reducible refine gate_dst (N := 2) rfl ?_); refine box_event ?hg (N := 2) ?hd (cs := #[.slice A0_0 l0_0.length c0_0]) (t := 26) ?hr ?_; (case hd => rfl); (case hg => rfl); (case hr => exact t3_); intro gb101 hg w12 hbox hb; have n0_ := b1_ HB hb; have n1_ := Aside0.mk (hbox); have n2_ := Aside0.mk ((by rw [hg]; exact (below_size (gb_ HB.out)) : w.heap.size ≤ gb101)); have n3_ := Aside0.mk ((by rw [hg]; exact (below_size (gb_ HB.out)) : w.heap.size ≤ gb101)); clear HB; have HB := n0_; have BK101 := n1_; have GW101 := n2_; have GE101 := n3_; clear n0_ n1_ n2_ n3_ hb hbox hg; have hcz13_0 : w12.cell? ⟨gb101, 0, none⟩ = some (.slice A0_0 l0_0.length c0_0) := (blk_cell BK101.out 0).trans rfl; have hfz13_0 := blk_frozen BK101.out 0) | ((with_reducible refine gate_callee (f := 19) rfl ?_); refine goesL_ (some 7) rfl rfl Try.func19 (by kernel_rfl) rfl #[.agg #[.slice A0_0 l0_0.length c0_0]] rfl t1_ ?_; (with_reducible refine (impl_IsSpace.calls k _ _ l0_0 true _ ?side1 ?side2 A3.out).mono ?_); (case side1 => exact c2_ HR0_0 HB); (case side2 => exact HC0_0.out); rintro e w14 ⟨rfl, hb⟩; refine ⟨_, rfl, ?_⟩; replace BK101 := a2_ BK101 hb; replace HB := b1_ HB hb; (try clear hb); (try clear hb2); (try clear hk); (try clear hi); have hcz15_0 : w14.cell? ⟨gb101, 0, none⟩ = some (.slice A0_0 l0_0.length c0_0) := (blk_cell BK101.out 0).trans rfl; have hfz15_0 := blk_frozen BK101.out 0) | ((with_reducible refine gate_callee (f := 110) rfl ?_); refine goesL_ (some 12) rfl rfl Try.func110 (by kernel_rfl) rfl #[.agg #[.slice A0_0 l0_0.length c0_0], .slice A1 l1.length c1] rfl t1_ ?_; (with_reducible refine (impl_areWords.calls k _ _ l0_0 _ _ l1 false _ ?side1 ?side2 ?side3 ?side4 A5.out).mono ?_); (case side1 => exact c2_ HR0_0 HB); (case side2 => exact HC0_0.out); (case side3 => exact c2_ HR1 HB); (case side4 => exact HC1.out); rintro e w16 ⟨rfl, hb⟩; refine ⟨_, rfl, ?_⟩; replace BK101 := a2_ BK101 hb; replace HB := b1_ HB hb; (try clear hb); (try clear hb2); (try clear hk); (try clear hi)))
 go_ret
 exact ⟨t5_, gb_ HB.out⟩
def spec_l01Digits.l0 : Nat → Int → List Int → Int → List Int → Option (List Int)
 | 0, _, _, _, _ => none
 | k + 1, x1, x5, x6, x102000 => if x6 ≥ 0 then (if 0 ≤ x6 then (if x6 < (x102000.length : Int) then (if (rd x102000 x6) = 0 then (none) else (if x6 < (x5.length : Int) then (spec_l01Digits.l0 k (wrap64 (Int.tdiv x1 (rd x102000 x6))) (x5.set (x6 : Int).toNat (Int.tmod x1 (rd x102000 x6))) (wrap64 (x6 - 1)) x102000) else (none))) else (none)) else (none)) else (some x5)
def spec_l01Digits.f (k : Nat) (l0_0 : List Int) (a1 : Int) : Option (List Int) := if 0 ≤ (l0_0.length : Int) then (if ((l0_0.length : Int) : Int).toNat ≤ 35184372088832 then (spec_l01Digits.l0 k a1 (List.replicate ((l0_0.length : Int) : Int).toNat 0) (wrap64 ((l0_0.length : Int) - 1)) l0_0) else (none)) else (none)
set_option maxHeartbeats 8000000 in
set_option maxRecDepth 100000 in
theorem spec_l01Digits.calls (k : Nat) (A0_0 : Option Addr) (c0_0 : Nat) (l0_0 : List Int) (a1 : Int) (r : List Int) (w : World) (hr0_0 : Kd.C (Kd.int .i64) w A0_0 l0_0.length l0_0) (hc0_0 : l0_0.length ≤ c0_0) (h : spec_l01Digits.f k l0_0 a1 = some r) :
  Calls Try.prog 65 #[.agg #[.slice A0_0 l0_0.length c0_0], .int .i64 a1] w fun e w' => ∃ v0_ : Value, e = .returned (v0_) ∧ Kd.R (Kd.int .i64) 2 w' w.heap.size (fun _ => True) v0_ r ∧ Below w.heap.size w w' := by
 have hu26 := Try.underlying26
 have HR0_0 := Aside0.mk hr0_0
 have HC0_0 := Aside0.mk hc0_0
 clear hr0_0 hc0_0
 have HB := Aside0.mk (Below.refl w.heap.size w)
 have H : (if 0 ≤ (l0_0.length : Int) then (if ((l0_0.length : Int) : Int).toNat ≤ 35184372088832 then (spec_l01Digits.l0 k a1 (List.replicate ((l0_0.length : Int) : Int).toNat 0) (wrap64 ((l0_0.length : Int) - 1)) l0_0) else (none)) else (none)) = some r := h
 clear h
 by_cases c3 : 0 ≤ (l0_0.length : Int)
 rotate_left
 ·rw [if_neg c3] at H
  exact absurd H (by simp)

 rw [if_pos c3] at H
 have c3b0 := eq_true c3
 have c3b1 : decide (0 ≤ (l0_0.length : Int)) = true := decide_eq_true c3
 clear c3
 by_cases c4 : ((l0_0.length : Int) : Int).toNat ≤ 35184372088832
 rotate_left
 ·rw [if_neg c4] at H
  exact absurd H (by simp)
 rw [if_pos c4] at H
 have c4b0 := eq_true c4
 have c4b1 : decide (((l0_0.length : Int) : Int).toNat ≤ 35184372088832) = true := decide_eq_true c4
 clear c4
 obtain ⟨y102, hy102⟩ : ∃ y_ : List Int, y_ = (List.replicate ((l0_0.length : Int) : Int).toNat 0) := ⟨_, rfl⟩
 replace H : (spec_l01Digits.l0 k a1 y102 (wrap64 ((l0_0.length : Int) - 1)) l0_0) = some r := by first | (rw [hy102]; with_reducible exact H) | (have H2_ := (Option.bind_some _ _).symm.trans H; rw [hy102]; with_reducible exact H2_) | (have H2_ := (Option.bind_some _ _).symm.trans H; with_reducible exact H2_) | with_reducible exact H | (rw [hy102]; exact H) | exact H
 have Ny102 := Aside0.mk hy102
 clear hy102
 have H' := Aside0.mk H
 clear H
 go_enter Try.func65, Try.ntmps65
 go_wp2_with (first | ((with_reducible refine gate_dst (N := 2) rfl ?_); refine box_event ?hg (N := 2) ?hd (cs := #[.slice A0_0 l0_0.length c0_0]) (t := 26) ?hr ?_; (case hd => rfl); (case hg => rfl); (case hr => exact t3_); intro gb101 hg w5 hbox hb; have n0_ := b1_ HB hb; have n1_ := Aside0.mk (hbox); have n2_ := Aside0.mk ((by rw [hg]; exact (below_size (gb_ HB.out)) : w.heap.size ≤ gb101)); have n3_ := Aside0.mk ((by rw [hg]; exact (below_size (gb_ HB.out)) : w.heap.size ≤ gb101)); clear HB; have HB := n0_; have BK101 := n1_; have GW101 := n2_; have GE101 := n3_; clear n0_ n1_ n2_ n3_ hb hbox hg; have hcz6_0 : w5.cell? ⟨gb101, 0, none⟩ = some (.slice A0_0 l0_0.length c0_0) := (blk_cell BK101.out 0).trans rfl; have hfz6_0 := blk_frozen BK101.out 0) | ((with_reducible refine gate_dst (N := 10) rfl ?_); refine Kd.R_make (Kd.int .i64) _ 2 rfl (N := 10) rfl 24 _ _ rfl (l0_0.length : Int) rfl rfl Try.underlying24 (.int .i64 0) 8 info2 rfl (by decide) (by omega) 0 (ok := fun _ => True) (okp := fun _ => True) rfl (fun _ hk => hk) trivial (of_decide_eq_true (by first | (with_reducible assumption) | assumption)) (Nat.le_trans (Nat.mul_le_mul_right _ (of_decide_eq_true (by first | (with_reducible assumption) | assumption) : (l0_0.length : Int).toNat ≤ 35184372088832)) (by omega)) (Below.refl _ _) (Nat.le_refl _) ?_; intro v103 w7 ho8 hb hg_ hnew_; clear hg_ hnew_; (first | rw [← Ny102.out] at ho8 | (simp only [Int.reduceToNat] at ho8; rw [← Ny102.out] at ho8)); have n0_ := Aside0.mk (Kd.R_lower ho8 (below_size (gb_ HB.out))); have n1_ := a2_ BK101 hb; have n2_ := b1_ HB hb; clear BK101 HB; have HO104 := n0_; have BK101 := n1_; have HB := n2_; clear n0_ n1_ n2_ hb ho8; have hcz9_0 : w7.cell? ⟨gb101, 0, none⟩ = some (.slice A0_0 l0_0.length c0_0) := (blk_cell BK101.out 0).trans rfl; have hfz9_0 := blk_frozen BK101.out 0))
 go_loopg [1, 6] k (fun kq v1 v6 w' => ∃ (x1_1 : Int) (x5_1 : List Int) (x6_1 : Int), v1 = .int .i64 x1_1 ∧ v6 = .int .i64 x6_1 ∧ Aside0 (spec_l01Digits.l0 kq x1_1 x5_1 x6_1 l0_0 = some r) ∧ Aside0 (kq ≤ k) ∧ Aside0 (Kd.R (Kd.int .i64) 2 w' w.heap.size (fun _ => True) v103 x5_1) ∧ Aside0 (w'.heap[gb101]? = some (.cells #[(.slice A0_0 l0_0.length c0_0)] 26 (0, 0))) ∧ Aside0 (Below w.heap.size w w'))
 case atStart => exact ⟨(a1), (y102), (wrap64 ((l0_0.length : Int) - 1)), t2_, t2_, H', ⟨Nat.le_refl _⟩, ⟨rb_ HO104.out⟩, ⟨bb_ BK101.out⟩, ⟨gb_ HB.out⟩⟩
 clear H'
 try clear p2
 try clear c3
 try clear c3b0
 try clear c3b1
 try clear c4
 try clear c4b0
 try clear c4b1
 try clear c6
 try clear p6
 try clear hcz6_0
 try clear hcz9_0
 try clear hfz6_0
 try clear hfz9_0
 obtain ⟨x1_1, x5_1, x6_1, rfl, rfl, HA, HK1, HO_5, BK101, HB⟩ := hrel
 obtain _ | k1 := gk
 ·exact absurd HA.out (by simp [spec_l01Digits.l0])
 have H := HA.out
 clear HA
 simp only [spec_l01Digits.l0] at H
 by_cases c10 : x6_1 ≥ 0
 rotate_left
 ·rw [if_neg c10] at H
  have c10b0 : decide (0 ≤ x6_1) = false := decide_eq_false c10
  clear c10
  obtain rfl := Option.some.inj H
  go_wp2
  go_ret
  exact ⟨_, t5_, rb_ HO_5.out, gb_ HB.out⟩
 rw [if_pos c10] at H
 have c10b0 : decide (0 ≤ x6_1) = true := decide_eq_true c10
 clear c10
 by_cases c11 : 0 ≤ x6_1
 rotate_left
 ·rw [if_neg c11] at H
  exact absurd H (by simp)
 rw [if_pos c11] at H
 have c11b0 : decide (0 ≤ x6_1) = true := decide_eq_true c11
 clear c11
 by_cases c12 : x6_1 < (l0_0.length : Int)
 rotate_left
 ·rw [if_neg c12] at H
  exact absurd H (by simp)
 rw [if_pos c12] at H
 have c12b0 : decide (x6_1 < (l0_0.length : Int)) = true := decide_eq_true c12
 clear c12
 by_cases c13 : (rd l0_0 x6_1) = 0
 ·rw [if_pos c13] at H
  exact absurd H (by simp)
 rw [if_neg c13] at H
 have c13b0 : ((rd l0_0 x6_1) == 0) = false := beq_eq_false_iff_ne.mpr c13
 have c13b1 : ((rd l0_0 x6_1) != 0) = true := bne_iff_ne.mpr c13
 by_cases c14 : x6_1 < (x5_1.length : Int)
 rotate_left
 ·rw [if_neg c14] at H
  exact absurd H (by simp)
 rw [if_pos c14] at H
 have c14b0 : decide (x6_1 < (x5_1.length : Int)) = true := decide_eq_true c14
 clear c14
 obtain ⟨y106, hy106⟩ : ∃ y_ : List Int, y_ = (x5_1.set (x6_1 : Int).toNat (Int.tmod x1_1 (rd l0_0 x6_1))) := ⟨_, rfl⟩
 replace H : (spec_l01Digits.l0 k1 (wrap64 (Int.tdiv x1_1 (rd l0_0 x6_1))) y106 (wrap64 (x6_1 - 1)) l0_0) = some r := by first | (rw [hy106]; with_reducible exact H) | (have H2_ := (Option.bind_some _ _).symm.trans H; rw [hy106]; with_reducible exact H2_) | (have H2_ := (Option.bind_some _ _).symm.trans H; with_reducible exact H2_) | with_reducible exact H | (rw [hy106]; exact H) | exact H
 have Ny106 := Aside0.mk hy106
 clear hy106
 have H' := Aside0.mk H
 clear H
 have hcz16_0 : wr.cell? ⟨gb101, 0, none⟩ = some (.slice A0_0 l0_0.length c0_0) := (blk_cell BK101.out 0).trans rfl
 have hfz16_0 := blk_frozen BK101.out 0
 have p105 : 0 ≤ (x6_1 : Int) := of_decide_eq_true (by first | (with_reducible assumption) | assumption)
 have q105 : x6_1 < (l0_0.length : Int) := of_decide_eq_true (by first | (with_reducible assumption) | assumption)
 obtain ⟨ad105, e105, hx105_0⟩ := Kd.at_int HR0_0.out x6_1 p105 q105
 cases e105
 replace hx105_0 := (HB.out.cell (World.block_lt_of_cell? _ _ hx105_0)).trans hx105_0
 replace p105 := eq_true p105
 replace q105 := eq_true q105
 have p15 : 0 ≤ (x6_1 : Int) := of_decide_eq_true (by first | (with_reducible assumption) | assumption)
 have q15 : (x6_1 : Int) < ((x5_1.length : Int) : Int) := of_decide_eq_true (by first | (with_reducible assumption) | assumption)
 obtain ⟨go15, co15, eo15, gb15, gl15, cl15, HG15⟩ := Kd.R_form HO_5.out (by omega)
 (first | cases eo15 | (injection eo15 with ea_ en_ ec_; (first | subst ea_ | (injection ea_ with ea_; subst ea_)); subst ec_; clear en_))
 have GB15 := Aside0.mk gb15
 have GG15 := Aside0.mk HG15
 clear gb15 gl15 HG15
 obtain ⟨hx15_0, hf15_0⟩ := Kd.R_celln 0 HO_5.out (x6_1 : Int) p15 q15
 replace p15 := eq_true p15
 replace q15 := eq_true q15
 have HP17 := Kd.R_putg HO_5.out (x6_1 : Int) (Int.tmod x1_1 (rd l0_0 x6_1))
 go_wp2_with (first | ((with_reducible refine gate_store (t := 2) (p := 28) rfl ?_); refine store_event (t := 2) (p := 28) (v := ?vo_w18) (w1 := (wr.setCell ⟨go15, (x6_1 : Int).toNat, none⟩ (.int .i64 (Int.tmod x1_1 (rd l0_0 x6_1))))) ?hg ?ho ?hn ?hr ?_; (case ho => rfl); (case hg => rfl); (case hn => rfl); (case hr => exact t3_); intro w18 hw; have hg : wr.grownBy w18 (some go15) := (by rw [hw]; exact HP17.2); have hp_ : Kd.R (Kd.int .i64) 2 w18 w.heap.size (fun _ => True) (.slice (some ⟨go15, 0, none⟩) x5_1.length co15) y106 := (by rw [hw, Ny106.out]; exact HP17.1); clear HP17; have n0_ := Aside0.mk (hp_); have n1_ := Aside0.mk (blk_grown (g := gb101) (o := .cells #[.slice (some ad105) l0_0.length c0_0] 26 (0, 0)) (bb_ BK101.out) hg (Kd.R_ne HO_5.out BK101.out (by decide))); have n2_ := Aside0.mk ((by rw [hw]; exact below_set (HB.out) GB15.out : Below w.heap.size w w18)); clear HO_5 BK101 HB; have HO_5 := n0_; have BK101 := n1_; have HB := n2_; clear n0_ n1_ n2_ hg hw hp_; have hcz19_0 : w18.cell? ⟨gb101, 0, none⟩ = some (.slice (some ad105) l0_0.length c0_0) := (blk_cell BK101.out 0).trans rfl; have hfz19_0 := blk_frozen BK101.out 0; have p107 : 0 ≤ (x6_1 : Int) := of_decide_eq_true (by first | (with_reducible assumption) | assumption); have q107 : x6_1 < (l0_0.length : Int) := of_decide_eq_true (by first | (with_reducible assumption) | assumption); obtain ⟨ad107, e107, hx107_0⟩ := Kd.at_int HR0_0.out x6_1 p107 q107; obtain rfl : ad105 = ad107 := (by injection e107); replace hx107_0 := (HB.out.cell (World.block_lt_of_cell? _ _ hx107_0)).trans hx107_0; replace p107 := eq_true p107; replace q107 := eq_true q107))
 go_roundg k1
 case measure => have := HK1.out; omega
 case rel => exact ⟨(wrap64 (Int.tdiv x1_1 (rd l0_0 x6_1))), (y106), (wrap64 (x6_1 - 1)), t2_, t2_, H', ⟨by have := HK1.out; omega⟩, ⟨rb_ HO_5.out⟩, ⟨bb_ BK101.out⟩, ⟨gb_ HB.out⟩⟩
def spec_l01Put.l0 : Nat → List Int → Int → Int → Option (List Int)
 | 0, _, _, _ => none
 | k + 1, x0, x1, x5 => if x5 > 0 then (if 0 ≤ (wrap64 (x5 - 1)) then (if (wrap64 (x5 - 1)) < (x0.length : Int) then (if (rd x0 (wrap64 (x5 - 1))) > x1 then (spec_l01Put.l0 k x0 x1 (wrap64 (x5 - 1))) else (if (rd x0 (wrap64 (x5 - 1))) = x1 then (some x0) else (if 0 ≤ x5 then (if x5 ≤ (x0.length : Int) then ((spec_l01Own.f (x0.take (x5 : Int).toNat)).bind fun t107 => (if t107.length < 17592186044416 then ((some (t107 ++ [x1] : List Int)).bind fun y110 => ((some (x0.drop (x5 : Int).toNat : List Int)).bind fun y113 => (if y110.length + y113.length < 17592186044416 then (some (y110 ++ y113)) else (none)))) else (none))) else (none)) else (none)))) else (none)) else (none)) else (if 0 ≤ x5 then (if x5 ≤ (x0.length : Int) then ((spec_l01Own.f (x0.take (x5 : Int).toNat)).bind fun t124 => (if t124.length < 17592186044416 then ((some (t124 ++ [x1] : List Int)).bind fun y127 => ((some (x0.drop (x5 : Int).toNat : List Int)).bind fun y130 => (if y127.length + y130.length < 17592186044416 then (some (y127 ++ y130)) else (none)))) else (none))) else (none)) else (none))
def spec_l01Put.f (k : Nat) (l0 : List Int) (a1 : Int) : Option (List Int) := spec_l01Put.l0 k l0 a1 (l0.length : Int)
set_option maxHeartbeats 8000000 in
set_option maxRecDepth 100000 in
theorem spec_l01Put.calls (k : Nat) (P0_ : Nat → Prop) (u9000_ : Value) (l0 : List Int) (a1 : Int) (r : List Int) (w0 w : World) (hB : Below w0.heap.size w0 w) (ho0 : Kd.R (Kd.int .i64) 2 w w0.heap.size P0_ u9000_ l0) (h : spec_l01Put.f k l0 a1 = some r) :
  Calls Try.prog 127 #[u9000_, .int .i64 a1] w fun e w' => ∃ v0_ : Value, e = .returned (v0_) ∧ Kd.R (Kd.int .i64) 2 w' w0.heap.size (fun k_ => (P0_ k_ ∨ w.heap.size ≤ k_)) v0_ r ∧ Below w0.heap.size w0 w' ∧ Kept w w' (fun k_ => P0_ k_) := by
 have HO0 := Aside0.mk (show Kd.R (Kd.int .i64) 2 w w0.heap.size (fun k_ => (P0_ k_ ∨ w.heap.size ≤ k_)) u9000_ l0 from Kd.R_mono ho0 (fun k_ hk => (.inl hk)))
 have HK := Aside0.mk (Kept.refl w (fun k_ => P0_ k_))
 have HW0 := Aside0.mk hB.size
 have HB := Aside0.mk hB
 clear hB
 have H : (spec_l01Put.l0 k l0 a1 (l0.length : Int)) = some r := h
 clear h
 have H' := Aside0.mk H
 clear H
 obtain ⟨Ao3, co3, eo3⟩ := Kd.R_slice HO0.out
 subst eo3
 go_enter Try.func127, Try.ntmps127
 go_wp2
 go_loopg [5] k (fun kq v5 w' => ∃ (x5_1 : Int), v5 = .int .i64 x5_1 ∧ Aside0 (spec_l01Put.l0 kq l0 a1 x5_1 = some r) ∧ Aside0 (kq ≤ k) ∧ Aside0 (Kd.R (Kd.int .i64) 2 w' w0.heap.size (fun k_ => (P0_ k_ ∨ w.heap.size ≤ k_)) (.slice Ao3 l0.length co3) l0) ∧ Aside0 (Kept w w' (fun k_ => P0_ k_)) ∧ Aside0 (Below w0.heap.size w0 w'))
 case atStart => exact ⟨((l0.length : Int)), t2_, H', ⟨Nat.le_refl _⟩, ⟨rb_ HO0.out⟩, ⟨kt_ HK⟩, ⟨gb_ HB.out⟩⟩
 clear H'
 try clear c1
 try clear p2
 obtain ⟨x5_1, rfl, HA, HK1, HO_0, HK, HB⟩ := hrel
 obtain _ | k1 := gk
 ·exact absurd HA.out (by simp [spec_l01Put.l0])
 have H := HA.out
 clear HA
 simp only [spec_l01Put.l0] at H
 by_cases c4 : x5_1 > 0
 rotate_left
 ·rw [if_neg c4] at H
  have c4b0 : decide (0 < x5_1) = false := decide_eq_false c4
  clear c4
  by_cases c22 : 0 ≤ x5_1
  rotate_left
  ·rw [if_neg c22] at H
   exact absurd H (by simp)

  rw [if_pos c22] at H
  have c22b0 := eq_true c22
  have c22b1 : decide (0 ≤ x5_1) = true := decide_eq_true c22
  clear c22
  by_cases c23 : x5_1 ≤ (l0.length : Int)
  rotate_left
  ·rw [if_neg c23] at H
   exact absurd H (by simp)
  rw [if_pos c23] at H
  have c23b0 := eq_true c23
  have c23b1 : decide (x5_1 ≤ (l0.length : Int)) = true := decide_eq_true c23
  clear c23
  obtain ⟨y120, hy120⟩ : ∃ y_ : List Int, y_ = (l0.take (x5_1 : Int).toNat) := ⟨_, rfl⟩
  replace H : ((spec_l01Own.f y120).bind fun t124 => (if t124.length < 17592186044416 then ((some (t124 ++ [a1] : List Int)).bind fun y127 => ((some (l0.drop (x5_1 : Int).toNat : List Int)).bind fun y130 => (if y127.length + y130.length < 17592186044416 then (some (y127 ++ y130)) else (none)))) else (none))) = some r := by first | (rw [hy120]; with_reducible exact H) | (have H2_ := (Option.bind_some _ _).symm.trans H; rw [hy120]; with_reducible exact H2_) | (have H2_ := (Option.bind_some _ _).symm.trans H; with_reducible exact H2_) | with_reducible exact H | (rw [hy120]; exact H) | exact H
  have Ny120 := Aside0.mk hy120
  clear hy120
  replace H := Option.bind_eq_some_iff.mp H
  obtain ⟨t124, A240, H⟩ := H
  replace H : (if t124.length < 17592186044416 then ((some (t124 ++ [a1] : List Int)).bind fun y127 => ((some (l0.drop (x5_1 : Int).toNat : List Int)).bind fun y130 => (if y127.length + y130.length < 17592186044416 then (some (y127 ++ y130)) else (none)))) else (none)) = some r := H
  have A24 := Aside0.mk A240
  clear A240
  by_cases c25 : t124.length < 17592186044416
  rotate_left
  ·rw [if_neg c25] at H
   exact absurd H (by simp)
  rw [if_pos c25] at H
  have LMc25 := Aside0.mk c25
  clear c25
  obtain ⟨y127, hy127⟩ : ∃ y_ : List Int, y_ = (t124 ++ [a1]) := ⟨_, rfl⟩
  replace H : ((some (l0.drop (x5_1 : Int).toNat : List Int)).bind fun y130 => (if y127.length + y130.length < 17592186044416 then (some (y127 ++ y130)) else (none))) = some r := by first | (rw [hy127]; with_reducible exact H) | (have H2_ := (Option.bind_some _ _).symm.trans H; rw [hy127]; with_reducible exact H2_) | (have H2_ := (Option.bind_some _ _).symm.trans H; with_reducible exact H2_) | with_reducible exact H | (rw [hy127]; exact H) | exact H
  have Ny127 := Aside0.mk hy127
  clear hy127
  have c26b0 := eq_true (of_decide_eq_true (by first | (with_reducible assumption) | assumption) : 0 ≤ x5_1)
  have c27b0 := eq_true (of_decide_eq_true (by first | (with_reducible assumption) | assumption) : x5_1 ≤ (l0.length : Int))
  obtain ⟨y130, hy130⟩ : ∃ y_ : List Int, y_ = (l0.drop (x5_1 : Int).toNat) := ⟨_, rfl⟩
  replace H : (if y127.length + y130.length < 17592186044416 then (some (y127 ++ y130)) else (none)) = some r := by first | (rw [hy130]; with_reducible exact H) | (have H2_ := (Option.bind_some _ _).symm.trans H; rw [hy130]; with_reducible exact H2_) | (have H2_ := (Option.bind_some _ _).symm.trans H; with_reducible exact H2_) | with_reducible exact H | (rw [hy130]; exact H) | exact H
  have Ny130 := Aside0.mk hy130
  clear hy130
  by_cases c28 : y127.length + y130.length < 17592186044416
  rotate_left
  ·rw [if_neg c28] at H
   exact absurd H (by simp)
  rw [if_pos c28] at H
  have LMc28 := Aside0.mk c28
  clear c28
  obtain ⟨y134, hy134⟩ : ∃ y_ : List Int, y_ = (y127 ++ y130) := ⟨_, rfl⟩
  replace H : (some y134) = some r := by first | (rw [hy134]; with_reducible exact H) | (have H2_ := (Option.bind_some _ _).symm.trans H; rw [hy134]; with_reducible exact H2_) | (have H2_ := (Option.bind_some _ _).symm.trans H; with_reducible exact H2_) | with_reducible exact H | (rw [hy134]; exact H) | exact H
  have Ny134 := Aside0.mk hy134
  clear hy134
  obtain rfl := Option.some.inj H
  have q29 : (x5_1 : Int) ≤ ((l0.length : Int) : Int) := of_decide_eq_true (by first | (with_reducible assumption) | assumption)
  obtain ⟨i029, hi029, _, hsz29, _⟩ := info_parts info2
  have hroom29 : l0.length ≤ co3 := (Kd.R_reads' HO_0.out).2.1
  have hC29 : Kd.C (Kd.int .i64) _ Ao3 l0.length l0 := (Kd.R_reads' HO_0.out).2.2
  have hcut29 := cut_to (P := Try.prog) 24 2 .i64 Try.underlying24 hi029 Ao3 l0.length co3 x5_1 (of_decide_eq_true (by first | (with_reducible assumption) | assumption)) q29 hroom29
  have hr29 := Kd.C_take (m := (x5_1 : Int).toNat) hC29 (by omega)
  have hy29 : y120.length = (x5_1 : Int).toNat := (by rw [Ny120.out, List.length_take]; omega)
  rw [← Ny120.out] at hr29
  rw [← hy29] at hcut29
  have HR123 := Aside0.mk hr29
  have HC123 := Aside0.mk (show y120.length ≤ co3 from by omega)
  clear hr29 hC29 hroom29 hi029 hsz29
  have KY29 := Aside0.mk hy29
  clear hy29
  have KL29 := Aside0.mk (show (x5_1 : Int).toNat ≤ l0.length from by omega)
  replace q29 := eq_true q29
  go_wp2_with (first | ((with_reducible refine gate_callee (f := 115) rfl ?_); refine goesL_ (some 37) rfl rfl Try.func115 (by kernel_rfl) rfl #[.slice Ao3 y120.length co3] rfl t1_ ?_; (with_reducible refine (spec_l01Own.calls _ _ y120 t124 _ ?side1 ?side2 A24.out).mono ?_); (case side1 => repeat (first | exact (by repeat (first | (with_reducible exact HR123.out) | (with_reducible refine Kd.C_alloc ?_ _) | (with_reducible refine Kd.C_drewN ?_ _) | (with_reducible refine Kd.C_drew ?_) | exact HR123.out)) | (with_reducible refine Kd.C_alloc ?_ _) | (with_reducible refine Kd.C_drewN ?_ _) | (with_reducible refine Kd.C_drew ?_))); (case side2 => exact HC123.out); rintro e w30 ⟨v125, rfl, ho0, hb⟩; refine ⟨_, rfl, ?_⟩; have HO126 := Aside0.mk (Kd.R_lower (Kd.R_new' (Kd.R_newM (M := fun k_ => (P0_ k_ ∨ w.heap.size ≤ k_)) ho0 (by first | exact HK.out.1 | exact (show Kept w _ (fun k_ => P0_ k_) from kt_ HK).1) (fun k_ h_ => .inr h_)) (Kd.R_lt (rb_ HO_0.out))) (below_size (gb_ HB.out))); replace HO_0 := a5_ HO_0 ho0 hb; replace HR123 := Aside0.mk (Kd.C_below (by repeat (first | (with_reducible exact HR123.out) | (with_reducible refine Kd.C_alloc ?_ _) | (with_reducible refine Kd.C_drewN ?_ _) | (with_reducible refine Kd.C_drew ?_) | exact HR123.out)) hb); replace HK := Aside0.mk (Kept.below (S := (fun k_ => P0_ k_)) (kt_ HK) hb); replace HB := b1_ HB hb; (try clear hb); (try clear hb2); (try clear hk); (try clear hi); (try clear ho0)) | ((with_reducible refine gate_builtin (b := .append) (xs := #[.tmp 37, .tmp 39]) rfl ?_); at_builtin; refine Kd.R_append (Kd.int .i64) (w0 := w0) w0.heap.size rfl (.tmp 37) (.tmp 39) 24 2 (.int .i64 0) 8 rfl Try.underlying24 info2 rfl (by decide) (by omega) v125 t124 a1 [.int .i64 a1] (fun k_ => (P0_ k_ ∨ w.heap.size ≤ k_) ∧ OB_ k_ (.slice Ao3 l0.length co3)) (fun _ => False) rfl rfl ?aP (fun _ hk => hk.elim) ?aF ?aO ?aB ?aS ?aL ?_; (case aP => exact rfl); (case aB => exact (gb_ HB.out)); (case aF => exact (fun k_ hk => ⟨(.inr (Nat.le_trans (by first | exact HK.out.1 | exact (show Kept w _ (fun k_ => P0_ k_) from kt_ HK).1) hk)), Kd.fresh' (Kd.R_lt (rb_ HO_0.out)) k_ hk⟩)); (case aO => exact (rb_ (Kd.R_mono HO126.out (fun _ hk => ⟨hk.1.1, hk.2⟩)))); (case aS => exact (below_size (gb_ HB.out))); (case aL => have := LMc25.out; omega); intro v128 w31 ho hb hg hat; rw [← Ny127.out] at ho; have n0_ := Aside0.mk (Kd.R_after (ok := (fun k_ => (P0_ k_ ∨ w.heap.size ≤ k_))) (rb_ HO_0.out) hg hat); have n1_ := Aside0.mk (hb); have n2_ := Aside0.mk (Kept.of_grown (S := (fun k_ => P0_ k_)) hg (kt_ HK) (fun k_ e_ => (HO126.out.1 k_ e_).1.1)); have n3_ := Aside0.mk ((show Kd.C (Kd.int .i64) w31 Ao3 y120.length y120 from by rw [Ny120.out]; exact Kd.C_take (m := (x5_1 : Int).toNat) ((Kd.R_reads' (Kd.R_after (ok := (fun k_ => (P0_ k_ ∨ w.heap.size ≤ k_))) (rb_ HO_0.out) hg hat)).2.2) KL29.out)); have n4_ := Aside0.mk (ho); clear HO_0 HB HK HR123 HO126; have HO_0 := n0_; have HB := n1_; have HK := n2_; have HR123 := n3_; have HO129 := n4_; clear n0_ n1_ n2_ n3_ n4_ ho hb hg hat; have q32 : (x5_1 : Int) ≤ ((l0.length : Int) : Int) := of_decide_eq_true (by first | (with_reducible assumption) | assumption); obtain ⟨i032, hi032, _, hsz32, _⟩ := info_parts info2; have hroom32 : l0.length ≤ co3 := (Kd.R_reads' HO_0.out).2.1; have hC32 : Kd.C (Kd.int .i64) _ Ao3 l0.length l0 := (Kd.R_reads' HO_0.out).2.2; have q032 : (0 : Int) ≤ (x5_1 : Int) := of_decide_eq_true (by first | (with_reducible assumption) | assumption); have hcut32 := cut_from (P := Try.prog) 24 2 .i64 Try.underlying24 hi032 1 hsz32 Ao3 l0.length co3 x5_1 q032 q32; have hr32 := Kd.C_drop (m := (x5_1 : Int).toNat) (c := co3) hC32 (by omega) hroom32; obtain ⟨A32, hA32⟩ : ∃ A1, A1 = (if co3 = (x5_1 : Int).toNat then Ao3 else (Ao3 : Option Addr).map (·.add ((x5_1 : Int).toNat * 1))) := ⟨_, rfl⟩; obtain ⟨c32, hc32⟩ : ∃ c1, c1 = co3 - (x5_1 : Int).toNat := ⟨_, rfl⟩; have hy32 : y130.length = l0.length - (x5_1 : Int).toNat := (by rw [Ny130.out, List.length_drop] <;> omega); rw [show (l0).drop (x5_1 : Int).toNat = y130 from Ny130.out.symm] at hr32; replace hr32 : Kd.C (Kd.int .i64) _ A32 y130.length y130 := (by rw [hA32]; exact hr32); rw [← hy32, ← hA32, ← hc32] at hcut32; have HR133 := Aside0.mk hr32; have HC133 := Aside0.mk (show y130.length ≤ c32 from by rw [hy32, hc32]; exact Nat.sub_le_sub_right hroom32 _); clear hr32 hC32 hroom32 hi032 hsz32 hc32; have KY32 := Aside0.mk hy32; have KA32 := Aside0.mk hA32; clear hy32 hA32; have KL32 := Aside0.mk (show (x5_1 : Int).toNat ≤ l0.length from by omega); replace q32 := eq_true q32) | ((with_reducible refine gate_builtin (b := .append) (xs := #[.tmp 41, .tmp 44]) rfl ?_); at_builtin; refine Kd.R_append_rows (Kd.int .i64) (w0 := w0) w0.heap.size rfl (.tmp 41) (.tmp 44) 24 2 (.int .i64 0) 8 rfl Try.underlying24 info2 rfl (by decide) (by omega) v128 y127 y130 _ _ _ (fun k_ => (P0_ k_ ∨ w.heap.size ≤ k_) ∧ OB_ k_ (.slice Ao3 l0.length co3)) (fun _ => False) rfl rfl ?aO ?aR (fun _ _ h => h) (fun _ h => h.elim) ?aF ?aB ?aS ?aL ?_; (case aR => repeat (first | exact (by repeat (first | (with_reducible exact HR133.out) | (with_reducible refine Kd.C_alloc ?_ _) | (with_reducible refine Kd.C_drewN ?_ _) | (with_reducible refine Kd.C_drew ?_) | exact HR133.out)) | (with_reducible refine Kd.C_alloc ?_ _) | (with_reducible refine Kd.C_drewN ?_ _) | (with_reducible refine Kd.C_drew ?_))); (case aB => exact (gb_ HB.out)); (case aF => exact (fun k_ hk => ⟨(.inr (Nat.le_trans (by first | exact HK.out.1 | exact (show Kept w _ (fun k_ => P0_ k_) from kt_ HK).1) hk)), Kd.fresh' (Kd.R_lt (rb_ HO_0.out)) k_ hk⟩)); (case aO => exact (rb_ HO129.out)); (case aS => exact (below_size (gb_ HB.out))); (case aL => have := LMc28.out; omega); intro v135 w33 ho hb hg hat; rw [← Ny134.out] at ho; have n0_ := Aside0.mk (Kd.R_after (ok := (fun k_ => (P0_ k_ ∨ w.heap.size ≤ k_))) (rb_ HO_0.out) hg hat); have n1_ := Aside0.mk (hb); have n2_ := Aside0.mk (Kept.of_grown (S := (fun k_ => P0_ k_)) hg (kt_ HK) (fun k_ e_ => (HO129.out.1 k_ e_).1)); have n3_ := Aside0.mk ((show Kd.C (Kd.int .i64) w33 Ao3 y120.length y120 from by rw [Ny120.out]; exact Kd.C_take (m := (x5_1 : Int).toNat) ((Kd.R_reads' (Kd.R_after (ok := (fun k_ => (P0_ k_ ∨ w.heap.size ≤ k_))) (rb_ HO_0.out) hg hat)).2.2) KL29.out)); have n4_ := Aside0.mk ((show Kd.C (Kd.int .i64) w33 A32 y130.length y130 from by rw [Ny130.out, KA32.out]; exact Kd.C_drop (m := (x5_1 : Int).toNat) (c := co3) ((Kd.R_reads' (Kd.R_after (ok := (fun k_ => (P0_ k_ ∨ w.heap.size ≤ k_))) (rb_ HO_0.out) hg hat)).2.2) KL32.out ((Kd.R_reads' (Kd.R_after (ok := (fun k_ => (P0_ k_ ∨ w.heap.size ≤ k_))) (rb_ HO_0.out) hg hat)).2.1))); have n5_ := Aside0.mk (ho); clear HO_0 HB HK HR123 HR133 HO129; have HO_0 := n0_; have HB := n1_; have HK := n2_; have HR123 := n3_; have HR133 := n4_; have HO136 := n5_; clear n0_ n1_ n2_ n3_ n4_ n5_ ho hb hg hat))
  go_ret
  exact ⟨_, t5_, by (with_reducible repeat (first | apply Kd.R_alloc | apply Kd.R_drewN | apply Kd.R_drew)); exact Kd.R_mono HO136.out (fun _ hk => hk.1), gb_ HB.out, kt_ HK⟩
 rw [if_pos c4] at H
 have c4b0 : decide (0 < x5_1) = true := decide_eq_true c4
 clear c4
 obtain ⟨ji5, hji5⟩ : ∃ j_ : Int, (wrap64 (x5_1 - 1)) = j_ := ⟨_, rfl⟩
 replace H : (if 0 ≤ (ji5) then (if (ji5) < (l0.length : Int) then (if (rd l0 (ji5)) > a1 then (spec_l01Put.l0 k1 l0 a1 ji5) else (if (rd l0 (ji5)) = a1 then (some l0) else (if 0 ≤ x5_1 then (if x5_1 ≤ (l0.length : Int) then ((spec_l01Own.f (l0.take (x5_1 : Int).toNat)).bind fun t107 => (if t107.length < 17592186044416 then ((some (t107 ++ [a1] : List Int)).bind fun y110 => ((some (l0.drop (x5_1 : Int).toNat : List Int)).bind fun y113 => (if y110.length + y113.length < 17592186044416 then (some (y110 ++ y113)) else (none)))) else (none))) else (none)) else (none)))) else (none)) else (none)) = some r := by first | (rw [hji5] at H; exact H) | (simp only [hji5] at H ⊢; exact H)
 have hji5w : (IntKind.i64.wrap (x5_1 - 1)) = ji5 := (i64_w _).trans hji5
 by_cases c6 : 0 ≤ (ji5)
 rotate_left
 ·rw [if_neg c6] at H
  exact absurd H (by simp)
 rw [if_pos c6] at H
 have c6b0 : decide (0 ≤ (ji5)) = true := decide_eq_true c6
 clear c6
 by_cases c7 : (ji5) < (l0.length : Int)
 rotate_left
 ·rw [if_neg c7] at H
  exact absurd H (by simp)
 rw [if_pos c7] at H
 have c7b0 : decide ((ji5) < (l0.length : Int)) = true := decide_eq_true c7
 clear c7
 by_cases c8 : (rd l0 (ji5)) > a1
 ·rw [if_pos c8] at H
  have c8b0 : decide (a1 < (rd l0 (ji5))) = true := decide_eq_true c8
  clear c8
  have H' := Aside0.mk H
  clear H
  have p101 : 0 ≤ ((ji5) : Int) := of_decide_eq_true (by first | (with_reducible assumption) | assumption)
  have q101 : (ji5) < (l0.length : Int) := of_decide_eq_true (by first | (with_reducible assumption) | assumption)
  obtain ⟨ad101, e101, hx101_0⟩ := Kd.at_int (Kd.R_reads' HO_0.out).2.2 (ji5) p101 q101
  cases e101
  replace p101 := eq_true p101
  replace q101 := eq_true q101
  go_wp2
  go_roundg k1
  case measure => have := HK1.out; omega
  case rel => exact ⟨(ji5), (by first | rfl | (simp; done) | (simp only [← hji5] <;> (first | rfl | simp)) | (simp [*]; done)), H', ⟨by have := HK1.out; omega⟩, ⟨rb_ HO_0.out⟩, ⟨kt_ HK⟩, ⟨gb_ HB.out⟩⟩
 rw [if_neg c8] at H
 have c8b0 : decide (a1 < (rd l0 (ji5))) = false := decide_eq_false c8
 clear c8
 by_cases c9 : (rd l0 (ji5)) = a1
 ·rw [if_pos c9] at H
  have c9b0 : ((rd l0 (ji5)) == a1) = true := beq_iff_eq.mpr c9
  have c9b1 : ((rd l0 (ji5)) != a1) = false := bne_eq_false_iff_eq.mpr c9
  clear c9
  obtain rfl := Option.some.inj H
  have p101 : 0 ≤ ((ji5) : Int) := of_decide_eq_true (by first | (with_reducible assumption) | assumption)
  have q101 : (ji5) < (l0.length : Int) := of_decide_eq_true (by first | (with_reducible assumption) | assumption)
  obtain ⟨ad101, e101, hx101_0⟩ := Kd.at_int (Kd.R_reads' HO_0.out).2.2 (ji5) p101 q101
  cases e101
  replace p101 := eq_true p101
  replace q101 := eq_true q101
  have p102 : 0 ≤ ((ji5) : Int) := of_decide_eq_true (by first | (with_reducible assumption) | assumption)
  have q102 : (ji5) < (l0.length : Int) := of_decide_eq_true (by first | (with_reducible assumption) | assumption)
  obtain ⟨ad102, e102, hx102_0⟩ := Kd.at_int (Kd.R_reads' HO_0.out).2.2 (ji5) p102 q102
  obtain rfl : ad101 = ad102 := (by injection e102)
  replace p102 := eq_true p102
  replace q102 := eq_true q102
  go_wp2
  go_ret
  exact ⟨_, by first | rfl | (simp [errW_none, errW_some] <;> rfl) | (simp only [← hji5]; first | rfl | (simp [errW_none, errW_some] <;> rfl)) | (simp [*, errW_none, errW_some] <;> rfl), rb_ HO_0.out, gb_ HB.out, kt_ HK⟩
 rw [if_neg c9] at H
 have c9b0 : ((rd l0 (ji5)) == a1) = false := beq_eq_false_iff_ne.mpr c9
 have c9b1 : ((rd l0 (ji5)) != a1) = true := bne_iff_ne.mpr c9
 by_cases c10 : 0 ≤ x5_1
 rotate_left
 ·rw [if_neg c10] at H
  exact absurd H (by simp)
 rw [if_pos c10] at H
 have c10b0 := eq_true c10
 have c10b1 : decide (0 ≤ x5_1) = true := decide_eq_true c10
 clear c10
 by_cases c11 : x5_1 ≤ (l0.length : Int)
 rotate_left
 ·rw [if_neg c11] at H
  exact absurd H (by simp)
 rw [if_pos c11] at H
 have c11b0 := eq_true c11
 have c11b1 : decide (x5_1 ≤ (l0.length : Int)) = true := decide_eq_true c11
 clear c11
 obtain ⟨y103, hy103⟩ : ∃ y_ : List Int, y_ = (l0.take (x5_1 : Int).toNat) := ⟨_, rfl⟩
 replace H : ((spec_l01Own.f y103).bind fun t107 => (if t107.length < 17592186044416 then ((some (t107 ++ [a1] : List Int)).bind fun y110 => ((some (l0.drop (x5_1 : Int).toNat : List Int)).bind fun y113 => (if y110.length + y113.length < 17592186044416 then (some (y110 ++ y113)) else (none)))) else (none))) = some r := by first | (rw [hy103]; with_reducible exact H) | (have H2_ := (Option.bind_some _ _).symm.trans H; rw [hy103]; with_reducible exact H2_) | (have H2_ := (Option.bind_some _ _).symm.trans H; with_reducible exact H2_) | with_reducible exact H | (rw [hy103]; exact H) | exact H
 have Ny103 := Aside0.mk hy103
 clear hy103
 replace H := Option.bind_eq_some_iff.mp H
 obtain ⟨t107, A120, H⟩ := H
 replace H : (if t107.length < 17592186044416 then ((some (t107 ++ [a1] : List Int)).bind fun y110 => ((some (l0.drop (x5_1 : Int).toNat : List Int)).bind fun y113 => (if y110.length + y113.length < 17592186044416 then (some (y110 ++ y113)) else (none)))) else (none)) = some r := H
 have A12 := Aside0.mk A120
 clear A120
 by_cases c13 : t107.length < 17592186044416
 rotate_left
 ·rw [if_neg c13] at H
  exact absurd H (by simp)
 rw [if_pos c13] at H
 have LMc13 := Aside0.mk c13
 clear c13
 obtain ⟨y110, hy110⟩ : ∃ y_ : List Int, y_ = (t107 ++ [a1]) := ⟨_, rfl⟩
 replace H : ((some (l0.drop (x5_1 : Int).toNat : List Int)).bind fun y113 => (if y110.length + y113.length < 17592186044416 then (some (y110 ++ y113)) else (none))) = some r := by first | (rw [hy110]; with_reducible exact H) | (have H2_ := (Option.bind_some _ _).symm.trans H; rw [hy110]; with_reducible exact H2_) | (have H2_ := (Option.bind_some _ _).symm.trans H; with_reducible exact H2_) | with_reducible exact H | (rw [hy110]; exact H) | exact H
 have Ny110 := Aside0.mk hy110
 clear hy110
 have c14b0 := eq_true (of_decide_eq_true (by first | (with_reducible assumption) | assumption) : 0 ≤ x5_1)
 have c15b0 := eq_true (of_decide_eq_true (by first | (with_reducible assumption) | assumption) : x5_1 ≤ (l0.length : Int))
 obtain ⟨y113, hy113⟩ : ∃ y_ : List Int, y_ = (l0.drop (x5_1 : Int).toNat) := ⟨_, rfl⟩
 replace H : (if y110.length + y113.length < 17592186044416 then (some (y110 ++ y113)) else (none)) = some r := by first | (rw [hy113]; with_reducible exact H) | (have H2_ := (Option.bind_some _ _).symm.trans H; rw [hy113]; with_reducible exact H2_) | (have H2_ := (Option.bind_some _ _).symm.trans H; with_reducible exact H2_) | with_reducible exact H | (rw [hy113]; exact H) | exact H
 have Ny113 := Aside0.mk hy113
 clear hy113
 by_cases c16 : y110.length + y113.length < 17592186044416
 rotate_left
 ·rw [if_neg c16] at H
  exact absurd H (by simp)
 rw [if_pos c16] at H
 have LMc16 := Aside0.mk c16
 clear c16
 obtain ⟨y117, hy117⟩ : ∃ y_ : List Int, y_ = (y110 ++ y113) := ⟨_, rfl⟩
 replace H : (some y117) = some r := by first | (rw [hy117]; with_reducible exact H) | (have H2_ := (Option.bind_some _ _).symm.trans H; rw [hy117]; with_reducible exact H2_) | (have H2_ := (Option.bind_some _ _).symm.trans H; with_reducible exact H2_) | with_reducible exact H | (rw [hy117]; exact H) | exact H
 have Ny117 := Aside0.mk hy117
 clear hy117
 obtain rfl := Option.some.inj H
 have p101 : 0 ≤ ((ji5) : Int) := of_decide_eq_true (by first | (with_reducible assumption) | assumption)
 have q101 : (ji5) < (l0.length : Int) := of_decide_eq_true (by first | (with_reducible assumption) | assumption)
 obtain ⟨ad101, e101, hx101_0⟩ := Kd.at_int (Kd.R_reads' HO_0.out).2.2 (ji5) p101 q101
 cases e101
 replace p101 := eq_true p101
 replace q101 := eq_true q101
 have p102 : 0 ≤ ((ji5) : Int) := of_decide_eq_true (by first | (with_reducible assumption) | assumption)
 have q102 : (ji5) < (l0.length : Int) := of_decide_eq_true (by first | (with_reducible assumption) | assumption)
 obtain ⟨ad102, e102, hx102_0⟩ := Kd.at_int (Kd.R_reads' HO_0.out).2.2 (ji5) p102 q102
 obtain rfl : ad101 = ad102 := (by injection e102)
 replace p102 := eq_true p102
 replace q102 := eq_true q102
 have q17 : (x5_1 : Int) ≤ ((l0.length : Int) : Int) := of_decide_eq_true (by first | (with_reducible assumption) | assumption)
 obtain ⟨i017, hi017, _, hsz17, _⟩ := info_parts info2
 have hroom17 : l0.length ≤ co3 := (Kd.R_reads' HO_0.out).2.1
 have hC17 : Kd.C (Kd.int .i64) _ (some ad101) l0.length l0 := (Kd.R_reads' HO_0.out).2.2
 have hcut17 := cut_to (P := Try.prog) 24 2 .i64 Try.underlying24 hi017 (some ad101) l0.length co3 x5_1 (of_decide_eq_true (by first | (with_reducible assumption) | assumption)) q17 hroom17
 have hr17 := Kd.C_take (m := (x5_1 : Int).toNat) hC17 (by omega)
 have hy17 : y103.length = (x5_1 : Int).toNat := (by rw [Ny103.out, List.length_take]; omega)
 rw [← Ny103.out] at hr17
 rw [← hy17] at hcut17
 have HR106 := Aside0.mk hr17
 have HC106 := Aside0.mk (show y103.length ≤ co3 from by omega)
 clear hr17 hC17 hroom17 hi017 hsz17
 have KY17 := Aside0.mk hy17
 clear hy17
 have KL17 := Aside0.mk (show (x5_1 : Int).toNat ≤ l0.length from by omega)
 replace q17 := eq_true q17
 go_wp2_with (first | ((with_reducible refine gate_callee (f := 115) rfl ?_); refine goesL_ (some 37) rfl rfl Try.func115 (by kernel_rfl) rfl #[.slice (some ad101) y103.length co3] rfl t1_ ?_; (with_reducible refine (spec_l01Own.calls _ _ y103 t107 _ ?side1 ?side2 A12.out).mono ?_); (case side1 => repeat (first | exact (by repeat (first | (with_reducible exact HR106.out) | (with_reducible refine Kd.C_alloc ?_ _) | (with_reducible refine Kd.C_drewN ?_ _) | (with_reducible refine Kd.C_drew ?_) | exact HR106.out)) | (with_reducible refine Kd.C_alloc ?_ _) | (with_reducible refine Kd.C_drewN ?_ _) | (with_reducible refine Kd.C_drew ?_))); (case side2 => exact HC106.out); rintro e w18 ⟨v108, rfl, ho0, hb⟩; refine ⟨_, rfl, ?_⟩; have HO109 := Aside0.mk (Kd.R_lower (Kd.R_new' (Kd.R_newM (M := fun k_ => (P0_ k_ ∨ w.heap.size ≤ k_)) ho0 (by first | exact HK.out.1 | exact (show Kept w _ (fun k_ => P0_ k_) from kt_ HK).1) (fun k_ h_ => .inr h_)) (Kd.R_lt (rb_ HO_0.out))) (below_size (gb_ HB.out))); replace HO_0 := a5_ HO_0 ho0 hb; replace HR106 := Aside0.mk (Kd.C_below (by repeat (first | (with_reducible exact HR106.out) | (with_reducible refine Kd.C_alloc ?_ _) | (with_reducible refine Kd.C_drewN ?_ _) | (with_reducible refine Kd.C_drew ?_) | exact HR106.out)) hb); replace HK := Aside0.mk (Kept.below (S := (fun k_ => P0_ k_)) (kt_ HK) hb); replace HB := b1_ HB hb; (try clear hb); (try clear hb2); (try clear hk); (try clear hi); (try clear ho0)) | ((with_reducible refine gate_builtin (b := .append) (xs := #[.tmp 37, .tmp 39]) rfl ?_); at_builtin; refine Kd.R_append (Kd.int .i64) (w0 := w0) w0.heap.size rfl (.tmp 37) (.tmp 39) 24 2 (.int .i64 0) 8 rfl Try.underlying24 info2 rfl (by decide) (by omega) v108 t107 a1 [.int .i64 a1] (fun k_ => (P0_ k_ ∨ w.heap.size ≤ k_) ∧ OB_ k_ (.slice (some ad101) l0.length co3)) (fun _ => False) rfl rfl ?aP (fun _ hk => hk.elim) ?aF ?aO ?aB ?aS ?aL ?_; (case aP => exact rfl); (case aB => exact (gb_ HB.out)); (case aF => exact (fun k_ hk => ⟨(.inr (Nat.le_trans (by first | exact HK.out.1 | exact (show Kept w _ (fun k_ => P0_ k_) from kt_ HK).1) hk)), Kd.fresh' (Kd.R_lt (rb_ HO_0.out)) k_ hk⟩)); (case aO => exact (rb_ (Kd.R_mono HO109.out (fun _ hk => ⟨hk.1.1, hk.2⟩)))); (case aS => exact (below_size (gb_ HB.out))); (case aL => have := LMc13.out; omega); intro v111 w19 ho hb hg hat; rw [← Ny110.out] at ho; have n0_ := Aside0.mk (Kd.R_after (ok := (fun k_ => (P0_ k_ ∨ w.heap.size ≤ k_))) (rb_ HO_0.out) hg hat); have n1_ := Aside0.mk (hb); have n2_ := Aside0.mk (Kept.of_grown (S := (fun k_ => P0_ k_)) hg (kt_ HK) (fun k_ e_ => (HO109.out.1 k_ e_).1.1)); have n3_ := Aside0.mk ((show Kd.C (Kd.int .i64) w19 (some ad101) y103.length y103 from by rw [Ny103.out]; exact Kd.C_take (m := (x5_1 : Int).toNat) ((Kd.R_reads' (Kd.R_after (ok := (fun k_ => (P0_ k_ ∨ w.heap.size ≤ k_))) (rb_ HO_0.out) hg hat)).2.2) KL17.out)); have n4_ := Aside0.mk (ho); clear HO_0 HB HK HR106 HO109; have HO_0 := n0_; have HB := n1_; have HK := n2_; have HR106 := n3_; have HO112 := n4_; clear n0_ n1_ n2_ n3_ n4_ ho hb hg hat; have q20 : (x5_1 : Int) ≤ ((l0.length : Int) : Int) := of_decide_eq_true (by first | (with_reducible assumption) | assumption); obtain ⟨i020, hi020, _, hsz20, _⟩ := info_parts info2; have hroom20 : l0.length ≤ co3 := (Kd.R_reads' HO_0.out).2.1; have hC20 : Kd.C (Kd.int .i64) _ (some ad101) l0.length l0 := (Kd.R_reads' HO_0.out).2.2; have q020 : (0 : Int) ≤ (x5_1 : Int) := of_decide_eq_true (by first | (with_reducible assumption) | assumption); have hcut20 := cut_from (P := Try.prog) 24 2 .i64 Try.underlying24 hi020 1 hsz20 (some ad101) l0.length co3 x5_1 q020 q20; have hr20 := Kd.C_drop (m := (x5_1 : Int).toNat) (c := co3) hC20 (by omega) hroom20; obtain ⟨A20, hA20⟩ : ∃ A1, A1 = (if co3 = (x5_1 : Int).toNat then (some ad101) else ((some ad101) : Option Addr).map (·.add ((x5_1 : Int).toNat * 1))) := ⟨_, rfl⟩; obtain ⟨c20, hc20⟩ : ∃ c1, c1 = co3 - (x5_1 : Int).toNat := ⟨_, rfl⟩; have hy20 : y113.length = l0.length - (x5_1 : Int).toNat := (by rw [Ny113.out, List.length_drop] <;> omega); rw [show (l0).drop (x5_1 : Int).toNat = y113 from Ny113.out.symm] at hr20; replace hr20 : Kd.C (Kd.int .i64) _ A20 y113.length y113 := (by rw [hA20]; exact hr20); rw [← hy20, ← hA20, ← hc20] at hcut20; have HR116 := Aside0.mk hr20; have HC116 := Aside0.mk (show y113.length ≤ c20 from by rw [hy20, hc20]; exact Nat.sub_le_sub_right hroom20 _); clear hr20 hC20 hroom20 hi020 hsz20 hc20; have KY20 := Aside0.mk hy20; have KA20 := Aside0.mk hA20; clear hy20 hA20; have KL20 := Aside0.mk (show (x5_1 : Int).toNat ≤ l0.length from by omega); replace q20 := eq_true q20) | ((with_reducible refine gate_builtin (b := .append) (xs := #[.tmp 41, .tmp 44]) rfl ?_); at_builtin; refine Kd.R_append_rows (Kd.int .i64) (w0 := w0) w0.heap.size rfl (.tmp 41) (.tmp 44) 24 2 (.int .i64 0) 8 rfl Try.underlying24 info2 rfl (by decide) (by omega) v111 y110 y113 _ _ _ (fun k_ => (P0_ k_ ∨ w.heap.size ≤ k_) ∧ OB_ k_ (.slice (some ad101) l0.length co3)) (fun _ => False) rfl rfl ?aO ?aR (fun _ _ h => h) (fun _ h => h.elim) ?aF ?aB ?aS ?aL ?_; (case aR => repeat (first | exact (by repeat (first | (with_reducible exact HR116.out) | (with_reducible refine Kd.C_alloc ?_ _) | (with_reducible refine Kd.C_drewN ?_ _) | (with_reducible refine Kd.C_drew ?_) | exact HR116.out)) | (with_reducible refine Kd.C_alloc ?_ _) | (with_reducible refine Kd.C_drewN ?_ _) | (with_reducible refine Kd.C_drew ?_))); (case aB => exact (gb_ HB.out)); (case aF => exact (fun k_ hk => ⟨(.inr (Nat.le_trans (by first | exact HK.out.1 | exact (show Kept w _ (fun k_ => P0_ k_) from kt_ HK).1) hk)), Kd.fresh' (Kd.R_lt (rb_ HO_0.out)) k_ hk⟩)); (case aO => exact (rb_ HO112.out)); (case aS => exact (below_size (gb_ HB.out))); (case aL => have := LMc16.out; omega); intro v118 w21 ho hb hg hat; rw [← Ny117.out] at ho; have n0_ := Aside0.mk (Kd.R_after (ok := (fun k_ => (P0_ k_ ∨ w.heap.size ≤ k_))) (rb_ HO_0.out) hg hat); have n1_ := Aside0.mk (hb); have n2_ := Aside0.mk (Kept.of_grown (S := (fun k_ => P0_ k_)) hg (kt_ HK) (fun k_ e_ => (HO112.out.1 k_ e_).1)); have n3_ := Aside0.mk ((show Kd.C (Kd.int .i64) w21 (some ad101) y103.length y103 from by rw [Ny103.out]; exact Kd.C_take (m := (x5_1 : Int).toNat) ((Kd.R_reads' (Kd.R_after (ok := (fun k_ => (P0_ k_ ∨ w.heap.size ≤ k_))) (rb_ HO_0.out) hg hat)).2.2) KL17.out)); have n4_ := Aside0.mk ((show Kd.C (Kd.int .i64) w21 A20 y113.length y113 from by rw [Ny113.out, KA20.out]; exact Kd.C_drop (m := (x5_1 : Int).toNat) (c := co3) ((Kd.R_reads' (Kd.R_after (ok := (fun k_ => (P0_ k_ ∨ w.heap.size ≤ k_))) (rb_ HO_0.out) hg hat)).2.2) KL20.out ((Kd.R_reads' (Kd.R_after (ok := (fun k_ => (P0_ k_ ∨ w.heap.size ≤ k_))) (rb_ HO_0.out) hg hat)).2.1))); have n5_ := Aside0.mk (ho); clear HO_0 HB HK HR106 HR116 HO112; have HO_0 := n0_; have HB := n1_; have HK := n2_; have HR106 := n3_; have HR116 := n4_; have HO119 := n5_; clear n0_ n1_ n2_ n3_ n4_ n5_ ho hb hg hat))
 go_ret
 exact ⟨_, by first | rfl | (simp [errW_none, errW_some] <;> rfl) | (simp only [← hji5]; first | rfl | (simp [errW_none, errW_some] <;> rfl)) | (simp [*, errW_none, errW_some] <;> rfl), by (with_reducible repeat (first | apply Kd.R_alloc | apply Kd.R_drewN | apply Kd.R_drew)); exact Kd.R_mono HO119.out (fun _ hk => hk.1), gb_ HB.out, kt_ HK⟩
mutual
def impl_isCode.j0 : Nat → List Int → Bool → Option (Bool)
 | 0, _, _ => none
 | k + 1, x1, x16 => if x16 = true then (some false) else (impl_isCode.l0 k x1 1)
def impl_isCode.l0 : Nat → List Int → Int → Option (Bool)
 | 0, _, _ => none
 | k + 1, x1, x5 => if x5 < (x1.length : Int) then (if 0 ≤ x5 then (if 0 ≤ (wrap64 (x5 - 1)) then (if (wrap64 (x5 - 1)) < (x1.length : Int) then (if (rd x1 x5) ≤ (rd x1 (wrap64 (x5 - 1))) then (some false) else (impl_isCode.l0 k x1 (wrap64 (x5 + 1)))) else (none)) else (none)) else (none)) else (some true)
end
def impl_isCode.f (k : Nat) (l0_0 : List Int) (l1 : List Int) : Option (Bool) := (impl_count.f k l0_0).bind fun t102 => (if (l1.length : Int) > t102 then (impl_isCode.j0 k l1 true) else ((impl_areWords.f k l0_0 l1).bind fun t103 => (impl_isCode.j0 k l1 (!t103))))
set_option maxHeartbeats 8000000 in
set_option maxRecDepth 100000 in
theorem impl_isCode.calls (k : Nat) (A0_0 : Option Addr) (c0_0 : Nat) (l0_0 : List Int) (A1 : Option Addr) (c1 : Nat) (l1 : List Int) (r : Bool) (w : World) (hr0_0 : Kd.C (Kd.int .i64) w A0_0 l0_0.length l0_0) (hc0_0 : l0_0.length ≤ c0_0) (hr1 : Kd.C (Kd.int .i64) w A1 l1.length l1) (hc1 : l1.length ≤ c1) (h : impl_isCode.f k l0_0 l1 = some r) :
  Calls Try.prog 117 #[.agg #[.slice A0_0 l0_0.length c0_0], .slice A1 l1.length c1] w fun e w' => e = .returned (.bool r) ∧ Below w.heap.size w w' := by
 have hu26 := Try.underlying26
 have HR0_0 := Aside0.mk hr0_0
 have HC0_0 := Aside0.mk hc0_0
 clear hr0_0 hc0_0
 have HR1 := Aside0.mk hr1
 have HC1 := Aside0.mk hc1
 clear hr1 hc1
 have HB := Aside0.mk (Below.refl w.heap.size w)
 have H : ((impl_count.f k l0_0).bind fun t102 => (if (l1.length : Int) > t102 then (impl_isCode.j0 k l1 true) else ((impl_areWords.f k l0_0 l1).bind fun t103 => (impl_isCode.j0 k l1 (!t103))))) = some r := h
 clear h
 have HC3 := Aside0.mk H
 clear H
 go_enter Try.func117, Try.ntmps117
 go_upto_region 1 with (first | ((with_reducible refine gate_dst (N := 2) rfl ?_); refine box_event ?hg (N := 2) ?hd (cs := #[.slice A0_0 l0_0.length c0_0]) (t := 26) ?hr ?_; (case hd => rfl); (case hg => rfl); (case hr => exact t3_); intro gb101 hg w4 hbox hb; have n0_ := b1_ HB hb; have n1_ := Aside0.mk (hbox); have n2_ := Aside0.mk ((by rw [hg]; exact (below_size (gb_ HB.out)) : w.heap.size ≤ gb101)); have n3_ := Aside0.mk ((by rw [hg]; exact (below_size (gb_ HB.out)) : w.heap.size ≤ gb101)); clear HB; have HB := n0_; have BK101 := n1_; have GW101 := n2_; have GE101 := n3_; clear n0_ n1_ n2_ n3_ hb hbox hg))
 repeat (go_quiet (first | ((with_reducible refine gate_dst (N := 2) rfl ?_); refine box_event ?hg (N := 2) ?hd (cs := #[.slice A0_0 l0_0.length c0_0]) (t := 26) ?hr ?_; (case hd => rfl); (case hg => rfl); (case hr => exact t3_); intro gb101 hg w4 hbox hb; have n0_ := b1_ HB hb; have n1_ := Aside0.mk (hbox); have n2_ := Aside0.mk ((by rw [hg]; exact (below_size (gb_ HB.out)) : w.heap.size ≤ gb101)); have n3_ := Aside0.mk ((by rw [hg]; exact (below_size (gb_ HB.out)) : w.heap.size ≤ gb101)); clear HB; have HB := n0_; have BK101 := n1_; have GW101 := n2_; have GE101 := n3_; clear n0_ n1_ n2_ n3_ hb hbox hg)); go_upto_region 1 with (first | ((with_reducible refine gate_dst (N := 2) rfl ?_); refine box_event ?hg (N := 2) ?hd (cs := #[.slice A0_0 l0_0.length c0_0]) (t := 26) ?hr ?_; (case hd => rfl); (case hg => rfl); (case hr => exact t3_); intro gb101 hg w4 hbox hb; have n0_ := b1_ HB hb; have n1_ := Aside0.mk (hbox); have n2_ := Aside0.mk ((by rw [hg]; exact (below_size (gb_ HB.out)) : w.heap.size ≤ gb101)); have n3_ := Aside0.mk ((by rw [hg]; exact (below_size (gb_ HB.out)) : w.heap.size ≤ gb101)); clear HB; have HB := n0_; have BK101 := n1_; have GW101 := n2_; have GE101 := n3_; clear n0_ n1_ n2_ n3_ hb hbox hg)))
 (try simp only [Act.put, List.setIfInBounds_toArray, List.set_cons_zero, List.set_cons_succ])
 go_cut [16] (fun cs_16 wc => ∃ (kq : Nat) (x16_2 : Bool), cs_16 = .bool x16_2 ∧ Aside0 (impl_isCode.j0 kq l1 x16_2 = some r) ∧ Aside0 (kq ≤ k) ∧ Aside0 (wc.heap[gb101]? = some (.cells #[(.slice A0_0 l0_0.length c0_0)] 26 (0, 0))) ∧ Aside0 (Below w.heap.size w wc))
 case first =>
  have H := HC3.out
  clear HC3
  replace H := Option.bind_eq_some_iff.mp H
  obtain ⟨t102, A50, H⟩ := H
  replace H : (if (l1.length : Int) > t102 then (impl_isCode.j0 k l1 true) else ((impl_areWords.f k l0_0 l1).bind fun t103 => (impl_isCode.j0 k l1 (!t103)))) = some r := H
  have A5 := Aside0.mk A50
  clear A50
  by_cases c6 : (l1.length : Int) > t102
  ·rw [if_pos c6] at H
   have c6b0 : decide (t102 < (l1.length : Int)) = true := decide_eq_true c6
   clear c6
   (first | rw [c6b0] | (simp only [i64_w, i32_w]; rw [c6b0]) | skip)
   have H' := Aside0.mk H
   clear H
   have hcz7_0 : w4.cell? ⟨gb101, 0, none⟩ = some (.slice A0_0 l0_0.length c0_0) := (blk_cell BK101.out 0).trans rfl
   have hfz7_0 := blk_frozen BK101.out 0
   go_wp2_with (first | (go_at_call 124; (with_reducible refine (impl_count.calls k _ _ l0_0 t102 _ ?side1 ?side2 A5.out).mono ?_); (case side1 => exact c2_ HR0_0 HB); (case side2 => exact HC0_0.out); rintro e w8 ⟨rfl, hb⟩; replace BK101 := a2_ BK101 hb; replace HB := b1_ HB hb; (try clear hb); (try clear hb2); (try clear hk); (try clear hi)))
   repeat (go_quiet (first | (go_at_call 124; (with_reducible refine (impl_count.calls k _ _ l0_0 t102 _ ?side1 ?side2 A5.out).mono ?_); (case side1 => exact c2_ HR0_0 HB); (case side2 => exact HC0_0.out); rintro e w8 ⟨rfl, hb⟩; replace BK101 := a2_ BK101 hb; replace HB := b1_ HB hb; (try clear hb); (try clear hb2); (try clear hk); (try clear hi))); try go_wp2_with (first | (go_at_call 124; (with_reducible refine (impl_count.calls k _ _ l0_0 t102 _ ?side1 ?side2 A5.out).mono ?_); (case side1 => exact c2_ HR0_0 HB); (case side2 => exact HC0_0.out); rintro e w8 ⟨rfl, hb⟩; replace BK101 := a2_ BK101 hb; replace HB := b1_ HB hb; (try clear hb); (try clear hb2); (try clear hk); (try clear hi))))
   go_meet
   case rel => exact ⟨_, (true), t2_, H', ⟨by first | omega | exact Nat.le_refl _⟩, ⟨bb_ BK101.out⟩, ⟨gb_ HB.out⟩⟩
  rw [if_neg c6] at H
  have c6b0 : decide (t102 < (l1.length : Int)) = false := decide_eq_false c6
  clear c6
  (first | rw [c6b0] | (simp only [i64_w, i32_w]; rw [c6b0]) | skip)
  replace H := Option.bind_eq_some_iff.mp H
  obtain ⟨t103, A90, H⟩ := H
  replace H : (impl_isCode.j0 k l1 (!t103)) = some r := H
  have A9 := Aside0.mk A90
  clear A90
  have H' := Aside0.mk H
  clear H
  have hcz10_0 : w4.cell? ⟨gb101, 0, none⟩ = some (.slice A0_0 l0_0.length c0_0) := (blk_cell BK101.out 0).trans rfl
  have hfz10_0 := blk_frozen BK101.out 0
  go_wp2_with (first | (go_at_call 124; (with_reducible refine (impl_count.calls k _ _ l0_0 t102 _ ?side1 ?side2 A5.out).mono ?_); (case side1 => exact c2_ HR0_0 HB); (case side2 => exact HC0_0.out); rintro e w11 ⟨rfl, hb⟩; replace BK101 := a2_ BK101 hb; replace HB := b1_ HB hb; (try clear hb); (try clear hb2); (try clear hk); (try clear hi); have hcz12_0 : w11.cell? ⟨gb101, 0, none⟩ = some (.slice A0_0 l0_0.length c0_0) := (blk_cell BK101.out 0).trans rfl; have hfz12_0 := blk_frozen BK101.out 0) | (go_at_call 110; (with_reducible refine (impl_areWords.calls k _ _ l0_0 _ _ l1 t103 _ ?side1 ?side2 ?side3 ?side4 A9.out).mono ?_); (case side1 => exact c2_ HR0_0 HB); (case side2 => exact HC0_0.out); (case side3 => exact c2_ HR1 HB); (case side4 => exact HC1.out); rintro e w13 ⟨rfl, hb⟩; replace BK101 := a2_ BK101 hb; replace HB := b1_ HB hb; (try clear hb); (try clear hb2); (try clear hk); (try clear hi)))
  repeat (go_quiet (first | (go_at_call 124; (with_reducible refine (impl_count.calls k _ _ l0_0 t102 _ ?side1 ?side2 A5.out).mono ?_); (case side1 => exact c2_ HR0_0 HB); (case side2 => exact HC0_0.out); rintro e w11 ⟨rfl, hb⟩; replace BK101 := a2_ BK101 hb; replace HB := b1_ HB hb; (try clear hb); (try clear hb2); (try clear hk); (try clear hi); have hcz12_0 : w11.cell? ⟨gb101, 0, none⟩ = some (.slice A0_0 l0_0.length c0_0) := (blk_cell BK101.out 0).trans rfl; have hfz12_0 := blk_frozen BK101.out 0) | (go_at_call 110; (with_reducible refine (impl_areWords.calls k _ _ l0_0 _ _ l1 t103 _ ?side1 ?side2 ?side3 ?side4 A9.out).mono ?_); (case side1 => exact c2_ HR0_0 HB); (case side2 => exact HC0_0.out); (case side3 => exact c2_ HR1 HB); (case side4 => exact HC1.out); rintro e w13 ⟨rfl, hb⟩; replace BK101 := a2_ BK101 hb; replace HB := b1_ HB hb; (try clear hb); (try clear hb2); (try clear hk); (try clear hi))); try go_wp2_with (first | (go_at_call 124; (with_reducible refine (impl_count.calls k _ _ l0_0 t102 _ ?side1 ?side2 A5.out).mono ?_); (case side1 => exact c2_ HR0_0 HB); (case side2 => exact HC0_0.out); rintro e w11 ⟨rfl, hb⟩; replace BK101 := a2_ BK101 hb; replace HB := b1_ HB hb; (try clear hb); (try clear hb2); (try clear hk); (try clear hi); have hcz12_0 : w11.cell? ⟨gb101, 0, none⟩ = some (.slice A0_0 l0_0.length c0_0) := (blk_cell BK101.out 0).trans rfl; have hfz12_0 := blk_frozen BK101.out 0) | (go_at_call 110; (with_reducible refine (impl_areWords.calls k _ _ l0_0 _ _ l1 t103 _ ?side1 ?side2 ?side3 ?side4 A9.out).mono ?_); (case side1 => exact c2_ HR0_0 HB); (case side2 => exact HC0_0.out); (case side3 => exact c2_ HR1 HB); (case side4 => exact HC1.out); rintro e w13 ⟨rfl, hb⟩; replace BK101 := a2_ BK101 hb; replace HB := b1_ HB hb; (try clear hb); (try clear hb2); (try clear hk); (try clear hi))))
  go_meet
  case rel => exact ⟨_, (!t103), t2_, H', ⟨by first | omega | exact Nat.le_refl _⟩, ⟨bb_ BK101.out⟩, ⟨gb_ HB.out⟩⟩
 clear HC3
 try clear c1
 try clear p2
 try clear c6
 try clear c6b0
 try clear c11
 try clear hcz10_0
 try clear hcz12_0
 try clear hcz7_0
 try clear hfz10_0
 try clear hfz12_0
 try clear hfz7_0
 obtain ⟨kq, x16_2, rfl, HA, HJ2, BK101, HB⟩ := hcut
 cases kq with
 | zero => exact absurd HA.out (by simp [impl_isCode.j0])
 | succ kj2 =>
  have H := HA.out
  clear HA
  simp only [impl_isCode.j0] at H
  by_cases c14 : x16_2 = true
  ·subst c14
   have H1 : (some false) = some r := by rw [if_pos rfl] at H; exact H
   clear H
   have H := H1
   clear H1
   obtain rfl := Option.some.inj H
   go_wp2
   repeat (go_quiet (fail); try go_wp2)
   go_ret
   exact ⟨t5_, gb_ HB.out⟩
  replace c14 := Bool.eq_false_iff.mpr c14
  subst c14
  have H1 : (impl_isCode.l0 kj2 l1 1) = some r := by rw [if_neg (show ¬ (false = true) by decide)] at H; exact H
  clear H
  have H := H1
  clear H1
  have H' := Aside0.mk H
  clear H
  go_wp2
  repeat (go_quiet (fail); try go_wp2)
  go_loopg [5] kj2 (fun kq v5 w' => ∃ (x5_2 : Int), v5 = .int .i64 x5_2 ∧ Aside0 (impl_isCode.l0 kq l1 x5_2 = some r) ∧ Aside0 (kq ≤ kj2) ∧ Aside0 (w'.heap[gb101]? = some (.cells #[(.slice A0_0 l0_0.length c0_0)] 26 (0, 0))) ∧ Aside0 (Below w.heap.size w w'))
  case atStart => exact ⟨(1), t2_, H', ⟨Nat.le_refl _⟩, ⟨bb_ BK101.out⟩, ⟨gb_ HB.out⟩⟩
  clear H'
  try clear c1
  try clear p2
  try clear c6
  try clear c6b0
  try clear c11
  try clear c14
  try clear hcz10_0
  try clear hcz12_0
  try clear hcz7_0
  try clear hfz10_0
  try clear hfz12_0
  try clear hfz7_0
  try clear p2
  obtain ⟨x5_2, rfl, HA, HK2, BK101, HB⟩ := hrel
  obtain _ | k2 := gk
  ·exact absurd HA.out (by simp [impl_isCode.l0])
  have H := HA.out
  clear HA
  simp only [impl_isCode.l0] at H
  by_cases c15 : x5_2 < (l1.length : Int)
  rotate_left
  ·rw [if_neg c15] at H
   have c15b0 : decide (x5_2 < (l1.length : Int)) = false := decide_eq_false c15
   clear c15
   obtain rfl := Option.some.inj H
   go_wp2
   repeat (go_quiet (fail); try go_wp2)
   go_ret
   exact ⟨t5_, gb_ HB.out⟩

  rw [if_pos c15] at H
  have c15b0 : decide (x5_2 < (l1.length : Int)) = true := decide_eq_true c15
  clear c15
  by_cases c16 : 0 ≤ x5_2
  rotate_left
  ·rw [if_neg c16] at H
   exact absurd H (by simp)
  rw [if_pos c16] at H
  have c16b0 : decide (0 ≤ x5_2) = true := decide_eq_true c16
  clear c16
  obtain ⟨ji17, hji17⟩ : ∃ j_ : Int, (wrap64 (x5_2 - 1)) = j_ := ⟨_, rfl⟩
  replace H : (if 0 ≤ (ji17) then (if (ji17) < (l1.length : Int) then (if (rd l1 x5_2) ≤ (rd l1 (ji17)) then (some false) else (impl_isCode.l0 k2 l1 (wrap64 (x5_2 + 1)))) else (none)) else (none)) = some r := by first | (rw [hji17] at H; exact H) | (simp only [hji17] at H ⊢; exact H)
  have hji17w : (IntKind.i64.wrap (x5_2 - 1)) = ji17 := (i64_w _).trans hji17
  by_cases c18 : 0 ≤ (ji17)
  rotate_left
  ·rw [if_neg c18] at H
   exact absurd H (by simp)
  rw [if_pos c18] at H
  have c18b0 : decide (0 ≤ (ji17)) = true := decide_eq_true c18
  clear c18
  by_cases c19 : (ji17) < (l1.length : Int)
  rotate_left
  ·rw [if_neg c19] at H
   exact absurd H (by simp)
  rw [if_pos c19] at H
  have c19b0 : decide ((ji17) < (l1.length : Int)) = true := decide_eq_true c19
  clear c19
  by_cases c20 : (rd l1 x5_2) ≤ (rd l1 (ji17))
  ·rw [if_pos c20] at H
   have c20b0 : decide ((rd l1 x5_2) ≤ (rd l1 (ji17))) = true := decide_eq_true c20
   clear c20
   obtain rfl := Option.some.inj H
   have p104 : 0 ≤ (x5_2 : Int) := of_decide_eq_true (by first | (with_reducible assumption) | assumption)
   have q104 : x5_2 < (l1.length : Int) := of_decide_eq_true (by first | (with_reducible assumption) | assumption)
   obtain ⟨ad104, e104, hx104_0⟩ := Kd.at_int HR1.out x5_2 p104 q104
   cases e104
   replace hx104_0 := (HB.out.cell (World.block_lt_of_cell? _ _ hx104_0)).trans hx104_0
   replace p104 := eq_true p104
   replace q104 := eq_true q104
   have p105 : 0 ≤ ((ji17) : Int) := of_decide_eq_true (by first | (with_reducible assumption) | assumption)
   have q105 : (ji17) < (l1.length : Int) := of_decide_eq_true (by first | (with_reducible assumption) | assumption)
   obtain ⟨ad105, e105, hx105_0⟩ := Kd.at_int HR1.out (ji17) p105 q105
   obtain rfl : ad104 = ad105 := (by injection e105)
   replace hx105_0 := (HB.out.cell (World.block_lt_of_cell? _ _ hx105_0)).trans hx105_0
   replace p105 := eq_true p105
   replace q105 := eq_true q105
   go_wp2
   repeat (go_quiet (fail); try go_wp2)
   go_ret
   exact ⟨by first | rfl | (simp [errW_none, errW_some] <;> rfl) | (simp only [← hji17]; first | rfl | (simp [errW_none, errW_some] <;> rfl)) | (simp [*, errW_none, errW_some] <;> rfl), gb_ HB.out⟩
  rw [if_neg c20] at H
  have c20b0 : decide ((rd l1 x5_2) ≤ (rd l1 (ji17))) = false := decide_eq_false c20
  clear c20
  have H' := Aside0.mk H
  clear H
  have p104 : 0 ≤ (x5_2 : Int) := of_decide_eq_true (by first | (with_reducible assumption) | assumption)
  have q104 : x5_2 < (l1.length : Int) := of_decide_eq_true (by first | (with_reducible assumption) | assumption)
  obtain ⟨ad104, e104, hx104_0⟩ := Kd.at_int HR1.out x5_2 p104 q104
  cases e104
  replace hx104_0 := (HB.out.cell (World.block_lt_of_cell? _ _ hx104_0)).trans hx104_0
  replace p104 := eq_true p104
  replace q104 := eq_true q104
  have p105 : 0 ≤ ((ji17) : Int) := of_decide_eq_true (by first | (with_reducible assumption) | assumption)
  have q105 : (ji17) < (l1.length : Int) := of_decide_eq_true (by first | (with_reducible assumption) | assumption)
  obtain ⟨ad105, e105, hx105_0⟩ := Kd.at_int HR1.out (ji17) p105 q105
  obtain rfl : ad104 = ad105 := (by injection e105)
  replace hx105_0 := (HB.out.cell (World.block_lt_of_cell? _ _ hx105_0)).trans hx105_0
  replace p105 := eq_true p105
  replace q105 := eq_true q105
  go_wp2
  repeat (go_quiet (fail); try go_wp2)
  go_roundg k2
  case measure => have := HJ2.out; have := HK2.out; omega
  case rel => exact ⟨(wrap64 (x5_2 + 1)), t2_, H', ⟨by have := HJ2.out; have := HK2.out; omega⟩, ⟨bb_ BK101.out⟩, ⟨gb_ HB.out⟩⟩
def impl_codeCode.f (k : Nat) (l0_0 : List Int) (l1 : List Int) (l2 : List Int) : Option (Int) := (impl_wordCode.f k l0_0 l2).bind fun t102 => (if t102 = 0 then ((impl_isCode.f k l0_0 l1).bind fun t103 => (if t103 = true then (some 0) else (some 2))) else (some t102))
set_option maxHeartbeats 8000000 in
set_option maxRecDepth 100000 in
theorem impl_codeCode.calls (k : Nat) (A0_0 : Option Addr) (c0_0 : Nat) (l0_0 : List Int) (A1 : Option Addr) (c1 : Nat) (l1 : List Int) (A2 : Option Addr) (c2 : Nat) (l2 : List Int) (r : Int) (w : World) (hr0_0 : Kd.C (Kd.int .i64) w A0_0 l0_0.length l0_0) (hc0_0 : l0_0.length ≤ c0_0) (hr1 : Kd.C (Kd.int .i64) w A1 l1.length l1) (hc1 : l1.length ≤ c1) (hr2 : Kd.C (Kd.int .i64) w A2 l2.length l2) (hc2 : l2.length ≤ c2) (h : impl_codeCode.f k l0_0 l1 l2 = some r) :
  Calls Try.prog 87 #[.agg #[.slice A0_0 l0_0.length c0_0], .slice A1 l1.length c1, .slice A2 l2.length c2] w fun e w' => e = .returned (.int .i64 r) ∧ Below w.heap.size w w' := by
 have hu26 := Try.underlying26
 have HR0_0 := Aside0.mk hr0_0
 have HC0_0 := Aside0.mk hc0_0
 clear hr0_0 hc0_0
 have HR1 := Aside0.mk hr1
 have HC1 := Aside0.mk hc1
 clear hr1 hc1
 have HR2 := Aside0.mk hr2
 have HC2 := Aside0.mk hc2
 clear hr2 hc2
 have HB := Aside0.mk (Below.refl w.heap.size w)
 have H : ((impl_wordCode.f k l0_0 l2).bind fun t102 => (if t102 = 0 then ((impl_isCode.f k l0_0 l1).bind fun t103 => (if t103 = true then (some 0) else (some 2))) else (some t102))) = some r := h
 clear h
 replace H := Option.bind_eq_some_iff.mp H
 obtain ⟨t102, A40, H⟩ := H
 replace H : (if t102 = 0 then ((impl_isCode.f k l0_0 l1).bind fun t103 => (if t103 = true then (some 0) else (some 2))) else (some t102)) = some r := H
 have A4 := Aside0.mk A40
 clear A40
 by_cases c5 : t102 = 0
 rotate_left
 ·rw [if_neg c5] at H
  have c5b0 : (t102 == 0) = false := beq_eq_false_iff_ne.mpr c5
  have c5b1 : (t102 != 0) = true := bne_iff_ne.mpr c5
  obtain rfl := Option.some.inj H
  go_enter Try.func87, Try.ntmps87
  go_wp2_with (first | ((with_reducible refine gate_dst (N := 3) rfl ?_); refine box_event ?hg (N := 3) ?hd (cs := #[.slice A0_0 l0_0.length c0_0]) (t := 26) ?hr ?_; (case hd => rfl); (case hg => rfl); (case hr => exact t3_); intro gb101 hg w18 hbox hb; have n0_ := b1_ HB hb; have n1_ := Aside0.mk (hbox); have n2_ := Aside0.mk ((by rw [hg]; exact (below_size (gb_ HB.out)) : w.heap.size ≤ gb101)); have n3_ := Aside0.mk ((by rw [hg]; exact (below_size (gb_ HB.out)) : w.heap.size ≤ gb101)); clear HB; have HB := n0_; have BK101 := n1_; have GW101 := n2_; have GE101 := n3_; clear n0_ n1_ n2_ n3_ hb hbox hg; have hcz19_0 : w18.cell? ⟨gb101, 0, none⟩ = some (.slice A0_0 l0_0.length c0_0) := (blk_cell BK101.out 0).trans rfl; have hfz19_0 := blk_frozen BK101.out 0) | ((with_reducible refine gate_callee (f := 56) rfl ?_); refine goesL_ (some 10) rfl rfl Try.func56 (by kernel_rfl) rfl #[.agg #[.slice A0_0 l0_0.length c0_0], .slice A2 l2.length c2] rfl t1_ ?_; (with_reducible refine (impl_wordCode.calls k _ _ l0_0 _ _ l2 t102 _ ?side1 ?side2 ?side3 ?side4 A4.out).mono ?_); (case side1 => exact c2_ HR0_0 HB); (case side2 => exact HC0_0.out); (case side3 => exact c2_ HR2 HB); (case side4 => exact HC2.out); rintro e w20 ⟨rfl, hb⟩; refine ⟨_, rfl, ?_⟩; replace BK101 := a2_ BK101 hb; replace HB := b1_ HB hb; (try clear hb); (try clear hb2); (try clear hk); (try clear hi)))
  go_ret
  exact ⟨t5_, gb_ HB.out⟩

 rw [if_pos c5] at H
 have c5b0 : (t102 == 0) = true := beq_iff_eq.mpr c5
 have c5b1 : (t102 != 0) = false := bne_eq_false_iff_eq.mpr c5
 clear c5
 replace H := Option.bind_eq_some_iff.mp H
 obtain ⟨t103, A60, H⟩ := H
 replace H : (if t103 = true then (some 0) else (some 2)) = some r := H
 have A6 := Aside0.mk A60
 clear A60
 by_cases c7 : t103 = true
 ·subst c7
  have H1 : (some 0) = some r := by rw [if_pos rfl] at H; exact H
  clear H
  have H := H1
  clear H1
  obtain rfl := Option.some.inj H
  go_enter Try.func87, Try.ntmps87
  go_wp2_with (first | ((with_reducible refine gate_dst (N := 3) rfl ?_); refine box_event ?hg (N := 3) ?hd (cs := #[.slice A0_0 l0_0.length c0_0]) (t := 26) ?hr ?_; (case hd => rfl); (case hg => rfl); (case hr => exact t3_); intro gb101 hg w8 hbox hb; have n0_ := b1_ HB hb; have n1_ := Aside0.mk (hbox); have n2_ := Aside0.mk ((by rw [hg]; exact (below_size (gb_ HB.out)) : w.heap.size ≤ gb101)); have n3_ := Aside0.mk ((by rw [hg]; exact (below_size (gb_ HB.out)) : w.heap.size ≤ gb101)); clear HB; have HB := n0_; have BK101 := n1_; have GW101 := n2_; have GE101 := n3_; clear n0_ n1_ n2_ n3_ hb hbox hg; have hcz9_0 : w8.cell? ⟨gb101, 0, none⟩ = some (.slice A0_0 l0_0.length c0_0) := (blk_cell BK101.out 0).trans rfl; have hfz9_0 := blk_frozen BK101.out 0) | ((with_reducible refine gate_callee (f := 56) rfl ?_); refine goesL_ (some 10) rfl rfl Try.func56 (by kernel_rfl) rfl #[.agg #[.slice A0_0 l0_0.length c0_0], .slice A2 l2.length c2] rfl t1_ ?_; (with_reducible refine (impl_wordCode.calls k _ _ l0_0 _ _ l2 t102 _ ?side1 ?side2 ?side3 ?side4 A4.out).mono ?_); (case side1 => exact c2_ HR0_0 HB); (case side2 => exact HC0_0.out); (case side3 => exact c2_ HR2 HB); (case side4 => exact HC2.out); rintro e w10 ⟨rfl, hb⟩; refine ⟨_, rfl, ?_⟩; replace BK101 := a2_ BK101 hb; replace HB := b1_ HB hb; (try clear hb); (try clear hb2); (try clear hk); (try clear hi); have hcz11_0 : w10.cell? ⟨gb101, 0, none⟩ = some (.slice A0_0 l0_0.length c0_0) := (blk_cell BK101.out 0).trans rfl; have hfz11_0 := blk_frozen BK101.out 0) | ((with_reducible refine gate_callee (f := 117) rfl ?_); refine goesL_ (some 16) rfl rfl Try.func117 (by kernel_rfl) rfl #[.agg #[.slice A0_0 l0_0.length c0_0], .slice A1 l1.length c1] rfl t1_ ?_; (with_reducible refine (impl_isCode.calls k _ _ l0_0 _ _ l1 true _ ?side1 ?side2 ?side3 ?side4 A6.out).mono ?_); (case side1 => exact c2_ HR0_0 HB); (case side2 => exact HC0_0.out); (case side3 => exact c2_ HR1 HB); (case side4 => exact HC1.out); rintro e w12 ⟨rfl, hb⟩; refine ⟨_, rfl, ?_⟩; replace BK101 := a2_ BK101 hb; replace HB := b1_ HB hb; (try clear hb); (try clear hb2); (try clear hk); (try clear hi)))
  go_ret
  exact ⟨t5_, gb_ HB.out⟩
 replace c7 := Bool.eq_false_iff.mpr c7
 subst c7
 have H1 : (some 2) = some r := by rw [if_neg (show ¬ (false = true) by decide)] at H; exact H
 clear H
 have H := H1
 clear H1
 obtain rfl := Option.some.inj H
 go_enter Try.func87, Try.ntmps87
 go_wp2_with (first | ((with_reducible refine gate_dst (N := 3) rfl ?_); refine box_event ?hg (N := 3) ?hd (cs := #[.slice A0_0 l0_0.length c0_0]) (t := 26) ?hr ?_; (case hd => rfl); (case hg => rfl); (case hr => exact t3_); intro gb101 hg w13 hbox hb; have n0_ := b1_ HB hb; have n1_ := Aside0.mk (hbox); have n2_ := Aside0.mk ((by rw [hg]; exact (below_size (gb_ HB.out)) : w.heap.size ≤ gb101)); have n3_ := Aside0.mk ((by rw [hg]; exact (below_size (gb_ HB.out)) : w.heap.size ≤ gb101)); clear HB; have HB := n0_; have BK101 := n1_; have GW101 := n2_; have GE101 := n3_; clear n0_ n1_ n2_ n3_ hb hbox hg; have hcz14_0 : w13.cell? ⟨gb101, 0, none⟩ = some (.slice A0_0 l0_0.length c0_0) := (blk_cell BK101.out 0).trans rfl; have hfz14_0 := blk_frozen BK101.out 0) | ((with_reducible refine gate_callee (f := 56) rfl ?_); refine goesL_ (some 10) rfl rfl Try.func56 (by kernel_rfl) rfl #[.agg #[.slice A0_0 l0_0.length c0_0], .slice A2 l2.length c2] rfl t1_ ?_; (with_reducible refine (impl_wordCode.calls k _ _ l0_0 _ _ l2 t102 _ ?side1 ?side2 ?side3 ?side4 A4.out).mono ?_); (case side1 => exact c2_ HR0_0 HB); (case side2 => exact HC0_0.out); (case side3 => exact c2_ HR2 HB); (case side4 => exact HC2.out); rintro e w15 ⟨rfl, hb⟩; refine ⟨_, rfl, ?_⟩; replace BK101 := a2_ BK101 hb; replace HB := b1_ HB hb; (try clear hb); (try clear hb2); (try clear hk); (try clear hi); have hcz16_0 : w15.cell? ⟨gb101, 0, none⟩ = some (.slice A0_0 l0_0.length c0_0) := (blk_cell BK101.out 0).trans rfl; have hfz16_0 := blk_frozen BK101.out 0) | ((with_reducible refine gate_callee (f := 117) rfl ?_); refine goesL_ (some 16) rfl rfl Try.func117 (by kernel_rfl) rfl #[.agg #[.slice A0_0 l0_0.length c0_0], .slice A1 l1.length c1] rfl t1_ ?_; (with_reducible refine (impl_isCode.calls k _ _ l0_0 _ _ l1 false _ ?side1 ?side2 ?side3 ?side4 A6.out).mono ?_); (case side1 => exact c2_ HR0_0 HB); (case side2 => exact HC0_0.out); (case side3 => exact c2_ HR1 HB); (case side4 => exact HC1.out); rintro e w17 ⟨rfl, hb⟩; refine ⟨_, rfl, ?_⟩; replace BK101 := a2_ BK101 hb; replace HB := b1_ HB hb; (try clear hb); (try clear hb2); (try clear hk); (try clear hi)))
 go_ret
 exact ⟨t5_, gb_ HB.out⟩
def spec_l01Code.l0 : Nat → List Int → Int → List Int → Option (Bool)
 | 0, _, _, _ => none
 | k + 1, x1, x5, x102000 => if x5 < (x1.length : Int) then (if 0 ≤ x5 then ((spec_l01N.f k x102000).bind fun t103 => ((spec_l01In.f (rd x1 x5) 0 (wrap64 (t103 - 1))).bind fun t104 => (if t104 = true then (if x5 > 0 then (if 0 ≤ (wrap64 (x5 - 1)) then (if (wrap64 (x5 - 1)) < (x1.length : Int) then (if (rd x1 x5) ≤ (rd x1 (wrap64 (x5 - 1))) then (some false) else (spec_l01Code.l0 k x1 (wrap64 (x5 + 1)) x102000)) else (none)) else (none)) else (spec_l01Code.l0 k x1 (wrap64 (x5 + 1)) x102000)) else (some false)))) else (none)) else (some true)
def spec_l01Code.f (k : Nat) (l0_0 : List Int) (l1 : List Int) : Option (Bool) := spec_l01Code.l0 k l1 0 l0_0
def spec_l01Code.T4 : Bool × List (List Nat × List Nat) := (true, [([], []), ([], []), ([0, 1], [0, 1]), ([2], [2]), ([], []), ([4], [4]), ([5], [5]), ([3, 6, 5], [3, 6]), ([7], [7]), ([8, 7], [8]), ([9], [9]), ([10, 9], [9, 10]), ([11, 9, 9], [9, 11]), ([12], [12]), ([12], [12]), ([13, 14, 12], [12, 13, 14]), ([15, 12], [12, 15]), ([12], [12]), ([12], [12]), ([18, 12], [12, 18]), ([17, 19, 12], [12, 17, 19]), ([20, 12], [12, 20]), ([16, 21, 12], [12, 16, 21]), ([12, 22, 9], [9, 12, 22]), ([9, 23], [9, 23])])
def spec_l01Code.B4 : List Nat := [0, 0, 3, 7, 0, 16, 48, 127, 255, 511, 1023, 2047, 4095, 8191, 8191, 32767, 65535, 8191, 8191, 270335, 925695, 1974271, 4194303, 8388607, 16777215]
theorem spec_l01Code.tab4 : rtab .any (opsOf Try.f118 4) = spec_l01Code.T4 := by kernel_rfl
theorem spec_l01Code.bits4 : waitsOk spec_l01Code.T4.2 spec_l01Code.B4 = true := by kernel_rfl
set_option maxHeartbeats 8000000 in
set_option maxRecDepth 100000 in
theorem spec_l01Code.calls (k : Nat) (A0_0 : Option Addr) (c0_0 : Nat) (l0_0 : List Int) (A1 : Option Addr) (c1 : Nat) (l1 : List Int) (r : Bool) (w : World) (hr0_0 : Kd.C (Kd.int .i64) w A0_0 l0_0.length l0_0) (hc0_0 : l0_0.length ≤ c0_0) (hr1 : Kd.C (Kd.int .i64) w A1 l1.length l1) (hc1 : l1.length ≤ c1) (h : spec_l01Code.f k l0_0 l1 = some r) :
  Calls Try.prog 118 #[.agg #[.slice A0_0 l0_0.length c0_0], .slice A1 l1.length c1] w fun e w' => e = .returned (.bool r) ∧ Below w.heap.size w w' := by
 have hu26 := Try.underlying26
 have HR0_0 := Aside0.mk hr0_0
 have HC0_0 := Aside0.mk hc0_0
 clear hr0_0 hc0_0
 have HR1 := Aside0.mk hr1
 have HC1 := Aside0.mk hc1
 clear hr1 hc1
 have HB := Aside0.mk (Below.refl w.heap.size w)
 have H : (spec_l01Code.l0 k l1 0 l0_0) = some r := h
 clear h
 have H' := Aside0.mk H
 clear H
 go_enter Try.func118, Try.ntmps118
 go_wp2_with (first | ((with_reducible refine gate_dst (N := 2) rfl ?_); refine box_event ?hg (N := 2) ?hd (cs := #[.slice A0_0 l0_0.length c0_0]) (t := 26) ?hr ?_; (case hd => rfl); (case hg => rfl); (case hr => exact t3_); intro gb101 hg w3 hbox hb; have n0_ := b1_ HB hb; have n1_ := Aside0.mk (hbox); have n2_ := Aside0.mk ((by rw [hg]; exact (below_size (gb_ HB.out)) : w.heap.size ≤ gb101)); have n3_ := Aside0.mk ((by rw [hg]; exact (below_size (gb_ HB.out)) : w.heap.size ≤ gb101)); clear HB; have HB := n0_; have BK101 := n1_; have GW101 := n2_; have GE101 := n3_; clear n0_ n1_ n2_ n3_ hb hbox hg))
 go_loopg [5] k (fun kq v5 w' => ∃ (x5_1 : Int), v5 = .int .i64 x5_1 ∧ Aside0 (spec_l01Code.l0 kq l1 x5_1 l0_0 = some r) ∧ Aside0 (kq ≤ k) ∧ Aside0 (w'.heap[gb101]? = some (.cells #[(.slice A0_0 l0_0.length c0_0)] 26 (0, 0))) ∧ Aside0 (Below w.heap.size w w'))
 case atStart => exact ⟨(0), t2_, H', ⟨Nat.le_refl _⟩, ⟨bb_ BK101.out⟩, ⟨gb_ HB.out⟩⟩
 clear H'
 try clear c1
 try clear p2
 obtain ⟨x5_1, rfl, HA, HK1, BK101, HB⟩ := hrel
 obtain _ | k1 := gk
 ·exact absurd HA.out (by simp [spec_l01Code.l0])
 have H := HA.out
 clear HA
 simp only [spec_l01Code.l0] at H
 by_cases c4 : x5_1 < (l1.length : Int)
 rotate_left
 ·rw [if_neg c4] at H
  have c4b0 : decide (x5_1 < (l1.length : Int)) = false := decide_eq_false c4
  clear c4
  obtain rfl := Option.some.inj H
  go_wp2
  go_ret
  exact ⟨t5_, gb_ HB.out⟩

 rw [if_pos c4] at H
 have c4b0 : decide (x5_1 < (l1.length : Int)) = true := decide_eq_true c4
 clear c4
 by_cases c5 : 0 ≤ x5_1
 rotate_left
 ·rw [if_neg c5] at H
  exact absurd H (by simp)
 rw [if_pos c5] at H
 have c5b0 : decide (0 ≤ x5_1) = true := decide_eq_true c5
 clear c5
 replace H := Option.bind_eq_some_iff.mp H
 obtain ⟨t103, A60, H⟩ := H
 replace H : ((spec_l01In.f (rd l1 x5_1) 0 (wrap64 (t103 - 1))).bind fun t104 => (if t104 = true then (if x5_1 > 0 then (if 0 ≤ (wrap64 (x5_1 - 1)) then (if (wrap64 (x5_1 - 1)) < (l1.length : Int) then (if (rd l1 x5_1) ≤ (rd l1 (wrap64 (x5_1 - 1))) then (some false) else (spec_l01Code.l0 k1 l1 (wrap64 (x5_1 + 1)) l0_0)) else (none)) else (none)) else (spec_l01Code.l0 k1 l1 (wrap64 (x5_1 + 1)) l0_0)) else (some false))) = some r := H
 have A6 := Aside0.mk A60
 clear A60
 replace H := Option.bind_eq_some_iff.mp H
 obtain ⟨t104, A70, H⟩ := H
 replace H : (if t104 = true then (if x5_1 > 0 then (if 0 ≤ (wrap64 (x5_1 - 1)) then (if (wrap64 (x5_1 - 1)) < (l1.length : Int) then (if (rd l1 x5_1) ≤ (rd l1 (wrap64 (x5_1 - 1))) then (some false) else (spec_l01Code.l0 k1 l1 (wrap64 (x5_1 + 1)) l0_0)) else (none)) else (none)) else (spec_l01Code.l0 k1 l1 (wrap64 (x5_1 + 1)) l0_0)) else (some false)) = some r := H
 have A7 := Aside0.mk A70
 clear A70
 by_cases c8 : t104 = true
 rotate_left
 ·replace c8 := Bool.eq_false_iff.mpr c8
  subst c8
  have H1 : (some false) = some r := by rw [if_neg (show ¬ (false = true) by decide)] at H; exact H
  clear H
  have H := H1
  clear H1
  obtain rfl := Option.some.inj H
  try go_wp2
  replace BK101 := Aside0.mk (blk_drew BK101.out)
  replace HB := Aside0.mk (below_drew1 HB.out)
  have p102 : 0 ≤ (x5_1 : Int) := of_decide_eq_true (by first | (with_reducible assumption) | assumption)
  have q102 : x5_1 < (l1.length : Int) := of_decide_eq_true (by first | (with_reducible assumption) | assumption)
  obtain ⟨ad102, e102, hx102_0⟩ := Kd.at_int HR1.out x5_1 p102 q102
  have hw102_0 := hx102_0
  cases e102
  replace hx102_0 := (HB.out.cell (World.block_lt_of_cell? _ _ hx102_0)).trans hx102_0
  replace p102 := eq_true p102
  replace q102 := eq_true q102
  refine start_ (n := 25) (S := fun w' => w'.cell? ⟨gb101, 0, none⟩ = some (.slice A0_0 l0_0.length c0_0) ∧ w'.cell? (ad102.add (x5_1).toNat) = some (.int .i64 (rd l1 x5_1))) (ds := []) #[false, false, false, false, false, false, false, false, false, false, false, false, false, false, false, false, false, false, false, false, false, false, false, false, false] (by kernel_rfl) rfl rfl ⟨(blk_cell BK101.out 0).trans rfl, ((HB.out.cell (World.block_lt_of_cell? _ _ hw102_0)).trans hw102_0)⟩ (fun hHeld => ?_); refine with_tabW spec_l01Code.tab4 spec_l01Code.bits4 (fun HT_ HW_ => ?_)
  generalize wr.drew = w20 at BK101 HB hx102_0 hHeld ⊢
  refine pure_ (i := 0) (N := some 12) (v := ?_) (a' := ?_) #[true, false, false, false, false, false, false, false, false, false, false, false, false, false, false, false, false, false, false, false, false, false, false, false, false] rfl rfl (any_of HT_.out (by kernel_rfl)) (fun _ _ _ h => h) (Or.inl ⟨by rfl, ?_⟩) ?_ ?_
  rotate_left
  ·intro w'
   go_simp
   with_reducible rfl
  rotate_left
  ·exact t4_
  refine pure_ (i := 1) (N := some 13) (v := ?_) (a' := ?_) #[true, true, false, false, false, false, false, false, false, false, false, false, false, false, false, false, false, false, false, false, false, false, false, false, false] rfl rfl (any_of HT_.out (by kernel_rfl)) (fun _ _ _ h => h) (Or.inl ⟨by rfl, ?_⟩) ?_ ?_
  rotate_left
  ·intro w'
   go_simp
   with_reducible rfl
  rotate_left
  ·exact t4_
  refine pure_ (i := 2) (N := some 14) (v := ?_) (a' := ?_) #[true, true, true, false, false, false, false, false, false, false, false, false, false, false, false, false, false, false, false, false, false, false, false, false, false] rfl rfl (any_of HT_.out (by kernel_rfl)) (fun _ _ _ h => h) (Or.inl ⟨by rfl, ?_⟩) ?_ ?_
  rotate_left
  ·intro w'
   go_simp
   with_reducible rfl
  rotate_left
  ·exact t4_
  refine take_ (i := 3) (N := some 15) (v := ?_) (a' := ?_) #[true, true, true, true, false, false, false, false, false, false, false, false, false, false, false, false, false, false, false, false, false, false, false, false, false] rfl rfl (take_ofW HT_.out HW_.out (by kernel_rfl)) (fun _ _ _ h => h) (Or.inl ⟨by rfl, ?_⟩) hHeld ?_ ?_
  rotate_left
  ·rintro w' ⟨s0, s1⟩
   go_simp
   with_reducible rfl
  rotate_left
  ·exact t4_
  refine take_ (i := 4) (N := some 16) (v := ?_) (a' := ?_) #[true, true, true, true, true, false, false, false, false, false, false, false, false, false, false, false, false, false, false, false, false, false, false, false, false] rfl rfl (take_ofW HT_.out HW_.out (by kernel_rfl)) (fun _ _ _ h => h) (Or.inl ⟨by rfl, ?_⟩) hHeld ?_ ?_
  rotate_left
  ·rintro w' ⟨s0, s1⟩
   go_simp
   with_reducible rfl
  rotate_left
  ·exact t4_
  refine one_ (i := 5) (N := some 17) #[true, true, true, true, true, true, false, false, false, false, false, false, false, false, false, false, false, false, false, false, false, false, false, false, false] rfl rfl (one_of HT_.out (by kernel_rfl)) (by decide) (fun K hK => ?_)
  refine goes_ Try.func76 (by kernel_rfl) rfl #[.agg #[.slice A0_0 l0_0.length c0_0]] (by rfl) rfl rfl t1_ ?_
  with_reducible refine (spec_l01N.calls k1 _ _ l0_0 t103 _ ?side1 ?side2 A6.out).mono ?_
  (case side1 => exact c2_ HR0_0 HB)
  (case side2 => exact HC0_0.out)
  rintro e w21 ⟨rfl, hb⟩
  refine ⟨_, rfl, ?_⟩
  replace BK101 := a2_ BK101 hb
  replace HB := b1_ HB hb
  (try clear hb)
  (try clear hb2)
  (try clear hk)
  (try clear hi)
  refine hK.out _ _ ⟨(blk_cell BK101.out 0).trans rfl, ((HB.out.cell (World.block_lt_of_cell? _ _ hw102_0)).trans hw102_0)⟩ (fun hHeld => ?_)
  clear hK K
  refine norm_ (a' := ?_) ?_ ?_
  rotate_left
  ·show Act.put _ (some 17) _ = _
   simp only [Act.put, List.setIfInBounds_toArray, List.set_cons_zero, List.set_cons_succ, i64_w, i32_w]
   rfl
  refine pure_ (i := 6) (N := some 18) (v := ?_) (a' := ?_) #[true, true, true, true, true, true, true, false, false, false, false, false, false, false, false, false, false, false, false, false, false, false, false, false, false] rfl rfl (any_of HT_.out (by kernel_rfl)) (fun _ _ _ h => h) (Or.inl ⟨by rfl, ?_⟩) ?_ ?_
  rotate_left
  ·intro w'
   go_simp
   with_reducible rfl
  rotate_left
  ·exact t4_
  refine one_ (i := 7) (N := some 19) #[true, true, true, true, true, true, true, true, false, false, false, false, false, false, false, false, false, false, false, false, false, false, false, false, false] rfl rfl (one_of HT_.out (by kernel_rfl)) (by decide) (fun K hK => ?_)
  refine goes_ Try.func84 (by kernel_rfl) rfl #[.int .i64 (rd l1 x5_1), .int .i64 0, .int .i64 (wrap64 (t103 - 1))] (by rfl) rfl rfl t1_ ?_
  with_reducible refine (spec_l01In.calls (rd l1 x5_1) 0 (wrap64 (t103 - 1)) false _ A7.out).mono ?_
  rintro e w' ⟨rfl, ⟨nd, rfl⟩⟩
  refine ⟨_, rfl, ?_⟩
  refine hK.out _ _ ⟨(blk_cell BK101.out 0).trans rfl, ((HB.out.cell (World.block_lt_of_cell? _ _ hw102_0)).trans hw102_0)⟩ (fun hHeld => ?_)
  clear hK K
  refine norm_ (a' := ?_) ?_ ?_
  rotate_left
  ·show Act.put _ (some 19) _ = _
   simp only [Act.put, List.setIfInBounds_toArray, List.set_cons_zero, List.set_cons_succ, i64_w, i32_w]
   rfl
  refine pure_ (i := 8) (N := some 20) (v := ?_) (a' := ?_) #[true, true, true, true, true, true, true, true, true, false, false, false, false, false, false, false, false, false, false, false, false, false, false, false, false] rfl rfl (any_of HT_.out (by kernel_rfl)) (fun _ _ _ h => h) (Or.inl ⟨by rfl, ?_⟩) ?_ ?_
  rotate_left
  ·intro w'
   go_simp
   with_reducible rfl
  rotate_left
  ·exact t4_
  refine pure_ (i := 9) (N := some 21) (v := ?_) (a' := ?_) #[true, true, true, true, true, true, true, true, true, true, false, false, false, false, false, false, false, false, false, false, false, false, false, false, false] rfl rfl (any_of HT_.out (by kernel_rfl)) (fun _ _ _ h => h) (Or.inl ⟨by rfl, ?_⟩) ?_ ?_
  rotate_left
  ·intro w'
   go_simp
   with_reducible rfl
  rotate_left
  ·exact t4_
  refine pure_ (i := 10) (N := some 22) (v := undef) (a' := ?_) #[true, true, true, true, true, true, true, true, true, true, true, false, false, false, false, false, false, false, false, false, false, false, false, false, false] rfl rfl (any_of HT_.out (by kernel_rfl)) (fun _ _ _ h => h) (Or.inr ⟨by rfl, rfl⟩) ?_ ?_
  rotate_left
  ·exact t4_
  refine pure_ (i := 11) (N := some 23) (v := undef) (a' := ?_) #[true, true, true, true, true, true, true, true, true, true, true, true, false, false, false, false, false, false, false, false, false, false, false, false, false] rfl rfl (any_of HT_.out (by kernel_rfl)) (fun _ _ _ h => h) (Or.inr ⟨by rfl, rfl⟩) ?_ ?_
  rotate_left
  ·exact t4_
  refine pure_ (i := 12) (N := some 24) (v := undef) (a' := ?_) #[true, true, true, true, true, true, true, true, true, true, true, true, true, false, false, false, false, false, false, false, false, false, false, false, false] rfl rfl (any_of HT_.out (by kernel_rfl)) (fun _ _ _ h => h) (Or.inr ⟨by rfl, rfl⟩) ?_ ?_
  rotate_left
  ·exact t4_
  refine pure_ (i := 13) (N := some 25) (v := undef) (a' := ?_) #[true, true, true, true, true, true, true, true, true, true, true, true, true, true, false, false, false, false, false, false, false, false, false, false, false] rfl rfl (any_of HT_.out (by kernel_rfl)) (fun _ _ _ h => h) (Or.inr ⟨by rfl, rfl⟩) ?_ ?_
  rotate_left
  ·exact t4_
  refine pure_ (i := 14) (N := some 26) (v := undef) (a' := ?_) #[true, true, true, true, true, true, true, true, true, true, true, true, true, true, true, false, false, false, false, false, false, false, false, false, false] rfl rfl (any_of HT_.out (by kernel_rfl)) (fun _ _ _ h => h) (Or.inr ⟨by rfl, rfl⟩) ?_ ?_
  rotate_left
  ·exact t4_
  refine pure_ (i := 15) (N := some 27) (v := undef) (a' := ?_) #[true, true, true, true, true, true, true, true, true, true, true, true, true, true, true, true, false, false, false, false, false, false, false, false, false] rfl rfl (any_of HT_.out (by kernel_rfl)) (fun _ _ _ h => h) (Or.inr ⟨by rfl, rfl⟩) ?_ ?_
  rotate_left
  ·exact t4_
  refine pure_ (i := 16) (N := some 28) (v := undef) (a' := ?_) #[true, true, true, true, true, true, true, true, true, true, true, true, true, true, true, true, true, false, false, false, false, false, false, false, false] rfl rfl (any_of HT_.out (by kernel_rfl)) (fun _ _ _ h => h) (Or.inr ⟨by rfl, rfl⟩) ?_ ?_
  rotate_left
  ·exact t4_
  refine pure_ (i := 17) (N := some 29) (v := undef) (a' := ?_) #[true, true, true, true, true, true, true, true, true, true, true, true, true, true, true, true, true, true, false, false, false, false, false, false, false] rfl rfl (any_of HT_.out (by kernel_rfl)) (fun _ _ _ h => h) (Or.inr ⟨by rfl, rfl⟩) ?_ ?_
  rotate_left
  ·exact t4_
  refine pure_ (i := 18) (N := some 30) (v := undef) (a' := ?_) #[true, true, true, true, true, true, true, true, true, true, true, true, true, true, true, true, true, true, true, false, false, false, false, false, false] rfl rfl (any_of HT_.out (by kernel_rfl)) (fun _ _ _ h => h) (Or.inr ⟨by rfl, rfl⟩) ?_ ?_
  rotate_left
  ·exact t4_
  refine pure_ (i := 19) (N := some 31) (v := undef) (a' := ?_) #[true, true, true, true, true, true, true, true, true, true, true, true, true, true, true, true, true, true, true, true, false, false, false, false, false] rfl rfl (any_of HT_.out (by kernel_rfl)) (fun _ _ _ h => h) (Or.inr ⟨by rfl, rfl⟩) ?_ ?_
  rotate_left
  ·exact t4_
  refine pure_ (i := 20) (N := some 32) (v := undef) (a' := ?_) #[true, true, true, true, true, true, true, true, true, true, true, true, true, true, true, true, true, true, true, true, true, false, false, false, false] rfl rfl (any_of HT_.out (by kernel_rfl)) (fun _ _ _ h => h) (Or.inr ⟨by rfl, rfl⟩) ?_ ?_
  rotate_left
  ·exact t4_
  refine pure_ (i := 21) (N := some 33) (v := undef) (a' := ?_) #[true, true, true, true, true, true, true, true, true, true, true, true, true, true, true, true, true, true, true, true, true, true, false, false, false] rfl rfl (any_of HT_.out (by kernel_rfl)) (fun _ _ _ h => h) (Or.inr ⟨by rfl, rfl⟩) ?_ ?_
  rotate_left
  ·exact t4_
  refine pure_ (i := 22) (N := some 34) (v := undef) (a' := ?_) #[true, true, true, true, true, true, true, true, true, true, true, true, true, true, true, true, true, true, true, true, true, true, true, false, false] rfl rfl (any_of HT_.out (by kernel_rfl)) (fun _ _ _ h => h) (Or.inr ⟨by rfl, rfl⟩) ?_ ?_
  rotate_left
  ·exact t4_
  refine pure_ (i := 23) (N := some 35) (v := undef) (a' := ?_) #[true, true, true, true, true, true, true, true, true, true, true, true, true, true, true, true, true, true, true, true, true, true, true, true, false] rfl rfl (any_of HT_.out (by kernel_rfl)) (fun _ _ _ h => h) (Or.inr ⟨by rfl, rfl⟩) ?_ ?_
  rotate_left
  ·exact t4_
  refine pure_ (i := 24) (N := some 36) (v := ?_) (a' := ?_) #[true, true, true, true, true, true, true, true, true, true, true, true, true, true, true, true, true, true, true, true, true, true, true, true, true] rfl rfl (any_of HT_.out (by kernel_rfl)) (fun _ _ _ h => h) (Or.inl ⟨by rfl, ?_⟩) ?_ ?_
  rotate_left
  ·intro w'
   go_simp
   with_reducible rfl
  rotate_left
  ·exact t4_
  refine done_ (done_of HT_.out (by kernel_rfl)) ?_
  try go_wp2
  go_ret
  exact ⟨t5_, gb_ HB.out⟩
 subst c8
 have H1 : (if x5_1 > 0 then (if 0 ≤ (wrap64 (x5_1 - 1)) then (if (wrap64 (x5_1 - 1)) < (l1.length : Int) then (if (rd l1 x5_1) ≤ (rd l1 (wrap64 (x5_1 - 1))) then (some false) else (spec_l01Code.l0 k1 l1 (wrap64 (x5_1 + 1)) l0_0)) else (none)) else (none)) else (spec_l01Code.l0 k1 l1 (wrap64 (x5_1 + 1)) l0_0)) = some r := by rw [if_pos rfl] at H; exact H
 clear H
 have H := H1
 clear H1
 by_cases c9 : x5_1 > 0
 rotate_left
 ·rw [if_neg c9] at H
  have c9b0 : decide (0 < x5_1) = false := decide_eq_false c9
  clear c9
  have H' := Aside0.mk H
  clear H
  try go_wp2
  replace BK101 := Aside0.mk (blk_drew BK101.out)
  replace HB := Aside0.mk (below_drew1 HB.out)
  have p102 : 0 ≤ (x5_1 : Int) := of_decide_eq_true (by first | (with_reducible assumption) | assumption)
  have q102 : x5_1 < (l1.length : Int) := of_decide_eq_true (by first | (with_reducible assumption) | assumption)
  obtain ⟨ad102, e102, hx102_0⟩ := Kd.at_int HR1.out x5_1 p102 q102
  have hw102_0 := hx102_0
  cases e102
  replace hx102_0 := (HB.out.cell (World.block_lt_of_cell? _ _ hx102_0)).trans hx102_0
  replace p102 := eq_true p102
  replace q102 := eq_true q102
  refine start_ (n := 25) (S := fun w' => w'.cell? ⟨gb101, 0, none⟩ = some (.slice A0_0 l0_0.length c0_0) ∧ w'.cell? (ad102.add (x5_1).toNat) = some (.int .i64 (rd l1 x5_1))) (ds := []) #[false, false, false, false, false, false, false, false, false, false, false, false, false, false, false, false, false, false, false, false, false, false, false, false, false] (by kernel_rfl) rfl rfl ⟨(blk_cell BK101.out 0).trans rfl, ((HB.out.cell (World.block_lt_of_cell? _ _ hw102_0)).trans hw102_0)⟩ (fun hHeld => ?_); refine with_tabW spec_l01Code.tab4 spec_l01Code.bits4 (fun HT_ HW_ => ?_)
  generalize wr.drew = w18 at BK101 HB hx102_0 hHeld ⊢
  refine pure_ (i := 0) (N := some 12) (v := ?_) (a' := ?_) #[true, false, false, false, false, false, false, false, false, false, false, false, false, false, false, false, false, false, false, false, false, false, false, false, false] rfl rfl (any_of HT_.out (by kernel_rfl)) (fun _ _ _ h => h) (Or.inl ⟨by rfl, ?_⟩) ?_ ?_
  rotate_left
  ·intro w'
   go_simp
   with_reducible rfl
  rotate_left
  ·exact t4_
  refine pure_ (i := 1) (N := some 13) (v := ?_) (a' := ?_) #[true, true, false, false, false, false, false, false, false, false, false, false, false, false, false, false, false, false, false, false, false, false, false, false, false] rfl rfl (any_of HT_.out (by kernel_rfl)) (fun _ _ _ h => h) (Or.inl ⟨by rfl, ?_⟩) ?_ ?_
  rotate_left
  ·intro w'
   go_simp
   with_reducible rfl
  rotate_left
  ·exact t4_
  refine pure_ (i := 2) (N := some 14) (v := ?_) (a' := ?_) #[true, true, true, false, false, false, false, false, false, false, false, false, false, false, false, false, false, false, false, false, false, false, false, false, false] rfl rfl (any_of HT_.out (by kernel_rfl)) (fun _ _ _ h => h) (Or.inl ⟨by rfl, ?_⟩) ?_ ?_
  rotate_left
  ·intro w'
   go_simp
   with_reducible rfl
  rotate_left
  ·exact t4_
  refine take_ (i := 3) (N := some 15) (v := ?_) (a' := ?_) #[true, true, true, true, false, false, false, false, false, false, false, false, false, false, false, false, false, false, false, false, false, false, false, false, false] rfl rfl (take_ofW HT_.out HW_.out (by kernel_rfl)) (fun _ _ _ h => h) (Or.inl ⟨by rfl, ?_⟩) hHeld ?_ ?_
  rotate_left
  ·rintro w' ⟨s0, s1⟩
   go_simp
   with_reducible rfl
  rotate_left
  ·exact t4_
  refine take_ (i := 4) (N := some 16) (v := ?_) (a' := ?_) #[true, true, true, true, true, false, false, false, false, false, false, false, false, false, false, false, false, false, false, false, false, false, false, false, false] rfl rfl (take_ofW HT_.out HW_.out (by kernel_rfl)) (fun _ _ _ h => h) (Or.inl ⟨by rfl, ?_⟩) hHeld ?_ ?_
  rotate_left
  ·rintro w' ⟨s0, s1⟩
   go_simp
   with_reducible rfl
  rotate_left
  ·exact t4_
  refine one_ (i := 5) (N := some 17) #[true, true, true, true, true, true, false, false, false, false, false, false, false, false, false, false, false, false, false, false, false, false, false, false, false] rfl rfl (one_of HT_.out (by kernel_rfl)) (by decide) (fun K hK => ?_)
  refine goes_ Try.func76 (by kernel_rfl) rfl #[.agg #[.slice A0_0 l0_0.length c0_0]] (by rfl) rfl rfl t1_ ?_
  with_reducible refine (spec_l01N.calls k1 _ _ l0_0 t103 _ ?side1 ?side2 A6.out).mono ?_
  (case side1 => exact c2_ HR0_0 HB)
  (case side2 => exact HC0_0.out)
  rintro e w19 ⟨rfl, hb⟩
  refine ⟨_, rfl, ?_⟩
  replace BK101 := a2_ BK101 hb
  replace HB := b1_ HB hb
  (try clear hb)
  (try clear hb2)
  (try clear hk)
  (try clear hi)
  refine hK.out _ _ ⟨(blk_cell BK101.out 0).trans rfl, ((HB.out.cell (World.block_lt_of_cell? _ _ hw102_0)).trans hw102_0)⟩ (fun hHeld => ?_)
  clear hK K
  refine norm_ (a' := ?_) ?_ ?_
  rotate_left
  ·show Act.put _ (some 17) _ = _
   simp only [Act.put, List.setIfInBounds_toArray, List.set_cons_zero, List.set_cons_succ, i64_w, i32_w]
   rfl
  refine pure_ (i := 6) (N := some 18) (v := ?_) (a' := ?_) #[true, true, true, true, true, true, true, false, false, false, false, false, false, false, false, false, false, false, false, false, false, false, false, false, false] rfl rfl (any_of HT_.out (by kernel_rfl)) (fun _ _ _ h => h) (Or.inl ⟨by rfl, ?_⟩) ?_ ?_
  rotate_left
  ·intro w'
   go_simp
   with_reducible rfl
  rotate_left
  ·exact t4_
  refine one_ (i := 7) (N := some 19) #[true, true, true, true, true, true, true, true, false, false, false, false, false, false, false, false, false, false, false, false, false, false, false, false, false] rfl rfl (one_of HT_.out (by kernel_rfl)) (by decide) (fun K hK => ?_)
  refine goes_ Try.func84 (by kernel_rfl) rfl #[.int .i64 (rd l1 x5_1), .int .i64 0, .int .i64 (wrap64 (t103 - 1))] (by rfl) rfl rfl t1_ ?_
  with_reducible refine (spec_l01In.calls (rd l1 x5_1) 0 (wrap64 (t103 - 1)) true _ A7.out).mono ?_
  rintro e w' ⟨rfl, ⟨nd, rfl⟩⟩
  refine ⟨_, rfl, ?_⟩
  refine hK.out _ _ ⟨(blk_cell BK101.out 0).trans rfl, ((HB.out.cell (World.block_lt_of_cell? _ _ hw102_0)).trans hw102_0)⟩ (fun hHeld => ?_)
  clear hK K
  refine norm_ (a' := ?_) ?_ ?_
  rotate_left
  ·show Act.put _ (some 19) _ = _
   simp only [Act.put, List.setIfInBounds_toArray, List.set_cons_zero, List.set_cons_succ, i64_w, i32_w]
   rfl
  refine pure_ (i := 8) (N := some 20) (v := ?_) (a' := ?_) #[true, true, true, true, true, true, true, true, true, false, false, false, false, false, false, false, false, false, false, false, false, false, false, false, false] rfl rfl (any_of HT_.out (by kernel_rfl)) (fun _ _ _ h => h) (Or.inl ⟨by rfl, ?_⟩) ?_ ?_
  rotate_left
  ·intro w'
   go_simp
   with_reducible rfl
  rotate_left
  ·exact t4_
  refine pure_ (i := 9) (N := some 21) (v := ?_) (a' := ?_) #[true, true, true, true, true, true, true, true, true, true, false, false, false, false, false, false, false, false, false, false, false, false, false, false, false] rfl rfl (any_of HT_.out (by kernel_rfl)) (fun _ _ _ h => h) (Or.inl ⟨by rfl, ?_⟩) ?_ ?_
  rotate_left
  ·intro w'
   go_simp
   with_reducible rfl
  rotate_left
  ·exact t4_
  refine pure_ (i := 10) (N := some 22) (v := ?_) (a' := ?_) #[true, true, true, true, true, true, true, true, true, true, true, false, false, false, false, false, false, false, false, false, false, false, false, false, false] rfl rfl (any_of HT_.out (by kernel_rfl)) (fun _ _ _ h => h) (Or.inl ⟨by rfl, ?_⟩) ?_ ?_
  rotate_left
  ·intro w'
   go_simp
   with_reducible rfl
  rotate_left
  ·exact t4_
  refine pure_ (i := 11) (N := some 23) (v := ?_) (a' := ?_) #[true, true, true, true, true, true, true, true, true, true, true, true, false, false, false, false, false, false, false, false, false, false, false, false, false] rfl rfl (any_of HT_.out (by kernel_rfl)) (fun _ _ _ h => h) (Or.inl ⟨by rfl, ?_⟩) ?_ ?_
  rotate_left
  ·intro w'
   go_simp
   with_reducible rfl
  rotate_left
  ·exact t4_
  refine pure_ (i := 12) (N := some 24) (v := ?_) (a' := ?_) #[true, true, true, true, true, true, true, true, true, true, true, true, true, false, false, false, false, false, false, false, false, false, false, false, false] rfl rfl (any_of HT_.out (by kernel_rfl)) (fun _ _ _ h => h) (Or.inl ⟨by rfl, ?_⟩) ?_ ?_
  rotate_left
  ·intro w'
   go_simp
   with_reducible rfl
  rotate_left
  ·exact t4_
  refine pure_ (i := 13) (N := some 25) (v := undef) (a' := ?_) #[true, true, true, true, true, true, true, true, true, true, true, true, true, true, false, false, false, false, false, false, false, false, false, false, false] rfl rfl (any_of HT_.out (by kernel_rfl)) (fun _ _ _ h => h) (Or.inr ⟨by rfl, rfl⟩) ?_ ?_
  rotate_left
  ·exact t4_
  refine pure_ (i := 14) (N := some 26) (v := undef) (a' := ?_) #[true, true, true, true, true, true, true, true, true, true, true, true, true, true, true, false, false, false, false, false, false, false, false, false, false] rfl rfl (any_of HT_.out (by kernel_rfl)) (fun _ _ _ h => h) (Or.inr ⟨by rfl, rfl⟩) ?_ ?_
  rotate_left
  ·exact t4_
  refine pure_ (i := 15) (N := some 27) (v := undef) (a' := ?_) #[true, true, true, true, true, true, true, true, true, true, true, true, true, true, true, true, false, false, false, false, false, false, false, false, false] rfl rfl (any_of HT_.out (by kernel_rfl)) (fun _ _ _ h => h) (Or.inr ⟨by rfl, rfl⟩) ?_ ?_
  rotate_left
  ·exact t4_
  refine pure_ (i := 16) (N := some 28) (v := undef) (a' := ?_) #[true, true, true, true, true, true, true, true, true, true, true, true, true, true, true, true, true, false, false, false, false, false, false, false, false] rfl rfl (any_of HT_.out (by kernel_rfl)) (fun _ _ _ h => h) (Or.inr ⟨by rfl, rfl⟩) ?_ ?_
  rotate_left
  ·exact t4_
  refine pure_ (i := 17) (N := some 29) (v := undef) (a' := ?_) #[true, true, true, true, true, true, true, true, true, true, true, true, true, true, true, true, true, true, false, false, false, false, false, false, false] rfl rfl (any_of HT_.out (by kernel_rfl)) (fun _ _ _ h => h) (Or.inr ⟨by rfl, rfl⟩) ?_ ?_
  rotate_left
  ·exact t4_
  refine pure_ (i := 18) (N := some 30) (v := undef) (a' := ?_) #[true, true, true, true, true, true, true, true, true, true, true, true, true, true, true, true, true, true, true, false, false, false, false, false, false] rfl rfl (any_of HT_.out (by kernel_rfl)) (fun _ _ _ h => h) (Or.inr ⟨by rfl, rfl⟩) ?_ ?_
  rotate_left
  ·exact t4_
  refine pure_ (i := 19) (N := some 31) (v := undef) (a' := ?_) #[true, true, true, true, true, true, true, true, true, true, true, true, true, true, true, true, true, true, true, true, false, false, false, false, false] rfl rfl (any_of HT_.out (by kernel_rfl)) (fun _ _ _ h => h) (Or.inr ⟨by rfl, rfl⟩) ?_ ?_
  rotate_left
  ·exact t4_
  refine pure_ (i := 20) (N := some 32) (v := undef) (a' := ?_) #[true, true, true, true, true, true, true, true, true, true, true, true, true, true, true, true, true, true, true, true, true, false, false, false, false] rfl rfl (any_of HT_.out (by kernel_rfl)) (fun _ _ _ h => h) (Or.inr ⟨by rfl, rfl⟩) ?_ ?_
  rotate_left
  ·exact t4_
  refine pure_ (i := 21) (N := some 33) (v := undef) (a' := ?_) #[true, true, true, true, true, true, true, true, true, true, true, true, true, true, true, true, true, true, true, true, true, true, false, false, false] rfl rfl (any_of HT_.out (by kernel_rfl)) (fun _ _ _ h => h) (Or.inr ⟨by rfl, rfl⟩) ?_ ?_
  rotate_left
  ·exact t4_
  refine pure_ (i := 22) (N := some 34) (v := undef) (a' := ?_) #[true, true, true, true, true, true, true, true, true, true, true, true, true, true, true, true, true, true, true, true, true, true, true, false, false] rfl rfl (any_of HT_.out (by kernel_rfl)) (fun _ _ _ h => h) (Or.inr ⟨by rfl, rfl⟩) ?_ ?_
  rotate_left
  ·exact t4_
  refine pure_ (i := 23) (N := some 35) (v := ?_) (a' := ?_) #[true, true, true, true, true, true, true, true, true, true, true, true, true, true, true, true, true, true, true, true, true, true, true, true, false] rfl rfl (any_of HT_.out (by kernel_rfl)) (fun _ _ _ h => h) (Or.inl ⟨by rfl, ?_⟩) ?_ ?_
  rotate_left
  ·intro w'
   go_simp
   with_reducible rfl
  rotate_left
  ·exact t4_
  refine pure_ (i := 24) (N := some 36) (v := ?_) (a' := ?_) #[true, true, true, true, true, true, true, true, true, true, true, true, true, true, true, true, true, true, true, true, true, true, true, true, true] rfl rfl (any_of HT_.out (by kernel_rfl)) (fun _ _ _ h => h) (Or.inl ⟨by rfl, ?_⟩) ?_ ?_
  rotate_left
  ·intro w'
   go_simp
   with_reducible rfl
  rotate_left
  ·exact t4_
  refine done_ (done_of HT_.out (by kernel_rfl)) ?_
  try go_wp2
  go_roundg k1
  case measure => have := HK1.out; omega
  case rel => exact ⟨(wrap64 (x5_1 + 1)), t2_, H', ⟨by have := HK1.out; omega⟩, ⟨bb_ BK101.out⟩, ⟨gb_ HB.out⟩⟩
 rw [if_pos c9] at H
 have c9b0 : decide (0 < x5_1) = true := decide_eq_true c9
 clear c9
 obtain ⟨ji10, hji10⟩ : ∃ j_ : Int, (wrap64 (x5_1 - 1)) = j_ := ⟨_, rfl⟩
 replace H : (if 0 ≤ (ji10) then (if (ji10) < (l1.length : Int) then (if (rd l1 x5_1) ≤ (rd l1 (ji10)) then (some false) else (spec_l01Code.l0 k1 l1 (wrap64 (x5_1 + 1)) l0_0)) else (none)) else (none)) = some r := by first | (rw [hji10] at H; exact H) | (simp only [hji10] at H ⊢; exact H)
 (try rw [hji10] at A6)
 (try rw [hji10] at A7)
 have hji10w : (IntKind.i64.wrap (x5_1 - 1)) = ji10 := (i64_w _).trans hji10
 by_cases c11 : 0 ≤ (ji10)
 rotate_left
 ·rw [if_neg c11] at H
  exact absurd H (by simp)
 rw [if_pos c11] at H
 have c11b0 : decide (0 ≤ (ji10)) = true := decide_eq_true c11
 clear c11
 by_cases c12 : (ji10) < (l1.length : Int)
 rotate_left
 ·rw [if_neg c12] at H
  exact absurd H (by simp)
 rw [if_pos c12] at H
 have c12b0 : decide ((ji10) < (l1.length : Int)) = true := decide_eq_true c12
 clear c12
 by_cases c13 : (rd l1 x5_1) ≤ (rd l1 (ji10))
 ·rw [if_pos c13] at H
  have c13b0 : decide ((rd l1 x5_1) ≤ (rd l1 (ji10))) = true := decide_eq_true c13
  clear c13
  obtain rfl := Option.some.inj H
  try go_wp2
  replace BK101 := Aside0.mk (blk_drew BK101.out)
  replace HB := Aside0.mk (below_drew1 HB.out)
  have p102 : 0 ≤ (x5_1 : Int) := of_decide_eq_true (by first | (with_reducible assumption) | assumption)
  have q102 : x5_1 < (l1.length : Int) := of_decide_eq_true (by first | (with_reducible assumption) | assumption)
  obtain ⟨ad102, e102, hx102_0⟩ := Kd.at_int HR1.out x5_1 p102 q102
  have hw102_0 := hx102_0
  cases e102
  replace hx102_0 := (HB.out.cell (World.block_lt_of_cell? _ _ hx102_0)).trans hx102_0
  replace p102 := eq_true p102
  replace q102 := eq_true q102
  have p105 : 0 ≤ (x5_1 : Int) := of_decide_eq_true (by first | (with_reducible assumption) | assumption)
  have q105 : x5_1 < (l1.length : Int) := of_decide_eq_true (by first | (with_reducible assumption) | assumption)
  obtain ⟨ad105, e105, hx105_0⟩ := Kd.at_int HR1.out x5_1 p105 q105
  have hw105_0 := hx105_0
  obtain rfl : ad102 = ad105 := (by injection e105)
  replace hx105_0 := (HB.out.cell (World.block_lt_of_cell? _ _ hx105_0)).trans hx105_0
  replace p105 := eq_true p105
  replace q105 := eq_true q105
  have p106 : 0 ≤ ((ji10) : Int) := of_decide_eq_true (by first | (with_reducible assumption) | assumption)
  have q106 : (ji10) < (l1.length : Int) := of_decide_eq_true (by first | (with_reducible assumption) | assumption)
  obtain ⟨ad106, e106, hx106_0⟩ := Kd.at_int HR1.out (ji10) p106 q106
  have hw106_0 := hx106_0
  obtain rfl : ad102 = ad106 := (by injection e106)
  replace hx106_0 := (HB.out.cell (World.block_lt_of_cell? _ _ hx106_0)).trans hx106_0
  replace p106 := eq_true p106
  replace q106 := eq_true q106
  refine start_ (n := 25) (S := fun w' => w'.cell? ⟨gb101, 0, none⟩ = some (.slice A0_0 l0_0.length c0_0) ∧ w'.cell? (ad102.add (x5_1).toNat) = some (.int .i64 (rd l1 x5_1)) ∧ w'.cell? (ad102.add (x5_1).toNat) = some (.int .i64 (rd l1 x5_1)) ∧ w'.cell? (ad102.add ((ji10)).toNat) = some (.int .i64 (rd l1 (ji10)))) (ds := []) #[false, false, false, false, false, false, false, false, false, false, false, false, false, false, false, false, false, false, false, false, false, false, false, false, false] (by kernel_rfl) rfl rfl ⟨(blk_cell BK101.out 0).trans rfl, ((HB.out.cell (World.block_lt_of_cell? _ _ hw102_0)).trans hw102_0), ((HB.out.cell (World.block_lt_of_cell? _ _ hw105_0)).trans hw105_0), ((HB.out.cell (World.block_lt_of_cell? _ _ hw106_0)).trans hw106_0)⟩ (fun hHeld => ?_); refine with_tabW spec_l01Code.tab4 spec_l01Code.bits4 (fun HT_ HW_ => ?_)
  generalize wr.drew = w14 at BK101 HB hx102_0 hx105_0 hx106_0 hHeld ⊢
  refine pure_ (i := 0) (N := some 12) (v := ?_) (a' := ?_) #[true, false, false, false, false, false, false, false, false, false, false, false, false, false, false, false, false, false, false, false, false, false, false, false, false] rfl rfl (any_of HT_.out (by kernel_rfl)) (fun _ _ _ h => h) (Or.inl ⟨by rfl, ?_⟩) ?_ ?_
  rotate_left
  ·intro w'
   go_simp
   with_reducible rfl
  rotate_left
  ·exact t4_
  refine pure_ (i := 1) (N := some 13) (v := ?_) (a' := ?_) #[true, true, false, false, false, false, false, false, false, false, false, false, false, false, false, false, false, false, false, false, false, false, false, false, false] rfl rfl (any_of HT_.out (by kernel_rfl)) (fun _ _ _ h => h) (Or.inl ⟨by rfl, ?_⟩) ?_ ?_
  rotate_left
  ·intro w'
   go_simp
   with_reducible rfl
  rotate_left
  ·exact t4_
  refine pure_ (i := 2) (N := some 14) (v := ?_) (a' := ?_) #[true, true, true, false, false, false, false, false, false, false, false, false, false, false, false, false, false, false, false, false, false, false, false, false, false] rfl rfl (any_of HT_.out (by kernel_rfl)) (fun _ _ _ h => h) (Or.inl ⟨by rfl, ?_⟩) ?_ ?_
  rotate_left
  ·intro w'
   go_simp
   with_reducible rfl
  rotate_left
  ·exact t4_
  refine take_ (i := 3) (N := some 15) (v := ?_) (a' := ?_) #[true, true, true, true, false, false, false, false, false, false, false, false, false, false, false, false, false, false, false, false, false, false, false, false, false] rfl rfl (take_ofW HT_.out HW_.out (by kernel_rfl)) (fun _ _ _ h => h) (Or.inl ⟨by rfl, ?_⟩) hHeld ?_ ?_
  rotate_left
  ·rintro w' ⟨s0, s1, s2, s3⟩
   go_simp
   with_reducible rfl
  rotate_left
  ·exact t4_
  refine take_ (i := 4) (N := some 16) (v := ?_) (a' := ?_) #[true, true, true, true, true, false, false, false, false, false, false, false, false, false, false, false, false, false, false, false, false, false, false, false, false] rfl rfl (take_ofW HT_.out HW_.out (by kernel_rfl)) (fun _ _ _ h => h) (Or.inl ⟨by rfl, ?_⟩) hHeld ?_ ?_
  rotate_left
  ·rintro w' ⟨s0, s1, s2, s3⟩
   go_simp
   with_reducible rfl
  rotate_left
  ·exact t4_
  refine one_ (i := 5) (N := some 17) #[true, true, true, true, true, true, false, false, false, false, false, false, false, false, false, false, false, false, false, false, false, false, false, false, false] rfl rfl (one_of HT_.out (by kernel_rfl)) (by decide) (fun K hK => ?_)
  refine goes_ Try.func76 (by kernel_rfl) rfl #[.agg #[.slice A0_0 l0_0.length c0_0]] (by rfl) rfl rfl t1_ ?_
  with_reducible refine (spec_l01N.calls k1 _ _ l0_0 t103 _ ?side1 ?side2 A6.out).mono ?_
  (case side1 => exact c2_ HR0_0 HB)
  (case side2 => exact HC0_0.out)
  rintro e w15 ⟨rfl, hb⟩
  refine ⟨_, rfl, ?_⟩
  replace BK101 := a2_ BK101 hb
  replace HB := b1_ HB hb
  (try clear hb)
  (try clear hb2)
  (try clear hk)
  (try clear hi)
  refine hK.out _ _ ⟨(blk_cell BK101.out 0).trans rfl, ((HB.out.cell (World.block_lt_of_cell? _ _ hw102_0)).trans hw102_0), ((HB.out.cell (World.block_lt_of_cell? _ _ hw105_0)).trans hw105_0), ((HB.out.cell (World.block_lt_of_cell? _ _ hw106_0)).trans hw106_0)⟩ (fun hHeld => ?_)
  clear hK K
  refine norm_ (a' := ?_) ?_ ?_
  rotate_left
  ·show Act.put _ (some 17) _ = _
   simp only [Act.put, List.setIfInBounds_toArray, List.set_cons_zero, List.set_cons_succ, i64_w, i32_w]
   rfl
  refine pure_ (i := 6) (N := some 18) (v := ?_) (a' := ?_) #[true, true, true, true, true, true, true, false, false, false, false, false, false, false, false, false, false, false, false, false, false, false, false, false, false] rfl rfl (any_of HT_.out (by kernel_rfl)) (fun _ _ _ h => h) (Or.inl ⟨by rfl, ?_⟩) ?_ ?_
  rotate_left
  ·intro w'
   go_simp
   with_reducible rfl
  rotate_left
  ·exact t4_
  refine one_ (i := 7) (N := some 19) #[true, true, true, true, true, true, true, true, false, false, false, false, false, false, false, false, false, false, false, false, false, false, false, false, false] rfl rfl (one_of HT_.out (by kernel_rfl)) (by decide) (fun K hK => ?_)
  refine goes_ Try.func84 (by kernel_rfl) rfl #[.int .i64 (rd l1 x5_1), .int .i64 0, .int .i64 (wrap64 (t103 - 1))] (by rfl) rfl rfl t1_ ?_
  with_reducible refine (spec_l01In.calls (rd l1 x5_1) 0 (wrap64 (t103 - 1)) true _ A7.out).mono ?_
  rintro e w' ⟨rfl, ⟨nd, rfl⟩⟩
  refine ⟨_, rfl, ?_⟩
  refine hK.out _ _ ⟨(blk_cell BK101.out 0).trans rfl, ((HB.out.cell (World.block_lt_of_cell? _ _ hw102_0)).trans hw102_0), ((HB.out.cell (World.block_lt_of_cell? _ _ hw105_0)).trans hw105_0), ((HB.out.cell (World.block_lt_of_cell? _ _ hw106_0)).trans hw106_0)⟩ (fun hHeld => ?_)
  clear hK K
  refine norm_ (a' := ?_) ?_ ?_
  rotate_left
  ·show Act.put _ (some 19) _ = _
   simp only [Act.put, List.setIfInBounds_toArray, List.set_cons_zero, List.set_cons_succ, i64_w, i32_w]
   rfl
  refine pure_ (i := 8) (N := some 20) (v := ?_) (a' := ?_) #[true, true, true, true, true, true, true, true, true, false, false, false, false, false, false, false, false, false, false, false, false, false, false, false, false] rfl rfl (any_of HT_.out (by kernel_rfl)) (fun _ _ _ h => h) (Or.inl ⟨by rfl, ?_⟩) ?_ ?_
  rotate_left
  ·intro w'
   go_simp
   with_reducible rfl
  rotate_left
  ·exact t4_
  refine pure_ (i := 9) (N := some 21) (v := ?_) (a' := ?_) #[true, true, true, true, true, true, true, true, true, true, false, false, false, false, false, false, false, false, false, false, false, false, false, false, false] rfl rfl (any_of HT_.out (by kernel_rfl)) (fun _ _ _ h => h) (Or.inl ⟨by rfl, ?_⟩) ?_ ?_
  rotate_left
  ·intro w'
   go_simp
   with_reducible rfl
  rotate_left
  ·exact t4_
  refine pure_ (i := 10) (N := some 22) (v := ?_) (a' := ?_) #[true, true, true, true, true, true, true, true, true, true, true, false, false, false, false, false, false, false, false, false, false, false, false, false, false] rfl rfl (any_of HT_.out (by kernel_rfl)) (fun _ _ _ h => h) (Or.inl ⟨by rfl, ?_⟩) ?_ ?_
  rotate_left
  ·intro w'
   go_simp
   with_reducible rfl
  rotate_left
  ·exact t4_
  refine pure_ (i := 11) (N := some 23) (v := ?_) (a' := ?_) #[true, true, true, true, true, true, true, true, true, true, true, true, false, false, false, false, false, false, false, false, false, false, false, false, false] rfl rfl (any_of HT_.out (by kernel_rfl)) (fun _ _ _ h => h) (Or.inl ⟨by rfl, ?_⟩) ?_ ?_
  rotate_left
  ·intro w'
   go_simp
   with_reducible rfl
  rotate_left
  ·exact t4_
  refine pure_ (i := 12) (N := some 24) (v := ?_) (a' := ?_) #[true, true, true, true, true, true, true, true, true, true, true, true, true, false, false, false, false, false, false, false, false, false, false, false, false] rfl rfl (any_of HT_.out (by kernel_rfl)) (fun _ _ _ h => h) (Or.inl ⟨by rfl, ?_⟩) ?_ ?_
  rotate_left
  ·intro w'
   go_simp
   with_reducible rfl
  rotate_left
  ·exact t4_
  refine pure_ (i := 13) (N := some 25) (v := ?_) (a' := ?_) #[true, true, true, true, true, true, true, true, true, true, true, true, true, true, false, false, false, false, false, false, false, false, false, false, false] rfl rfl (any_of HT_.out (by kernel_rfl)) (fun _ _ _ h => h) (Or.inl ⟨by rfl, ?_⟩) ?_ ?_
  rotate_left
  ·intro w'
   go_simp
   with_reducible rfl
  rotate_left
  ·exact t4_
  refine pure_ (i := 14) (N := some 26) (v := ?_) (a' := ?_) #[true, true, true, true, true, true, true, true, true, true, true, true, true, true, true, false, false, false, false, false, false, false, false, false, false] rfl rfl (any_of HT_.out (by kernel_rfl)) (fun _ _ _ h => h) (Or.inl ⟨by rfl, ?_⟩) ?_ ?_
  rotate_left
  ·intro w'
   go_simp
   with_reducible rfl
  rotate_left
  ·exact t4_
  refine pure_ (i := 15) (N := some 27) (v := ?_) (a' := ?_) #[true, true, true, true, true, true, true, true, true, true, true, true, true, true, true, true, false, false, false, false, false, false, false, false, false] rfl rfl (any_of HT_.out (by kernel_rfl)) (fun _ _ _ h => h) (Or.inl ⟨by rfl, ?_⟩) ?_ ?_
  rotate_left
  ·intro w'
   go_simp
   with_reducible rfl
  rotate_left
  ·exact t4_
  refine pure_ (i := 17) (N := some 29) (v := ?_) (a' := ?_) #[true, true, true, true, true, true, true, true, true, true, true, true, true, true, true, true, false, true, false, false, false, false, false, false, false] rfl rfl (any_of HT_.out (by kernel_rfl)) (fun _ _ _ h => h) (Or.inl ⟨by rfl, ?_⟩) ?_ ?_
  rotate_left
  ·intro w'
   go_simp
   with_reducible rfl
  rotate_left
  ·exact t4_
  refine pure_ (i := 18) (N := some 30) (v := ?_) (a' := ?_) #[true, true, true, true, true, true, true, true, true, true, true, true, true, true, true, true, false, true, true, false, false, false, false, false, false] rfl rfl (any_of HT_.out (by kernel_rfl)) (fun _ _ _ h => h) (Or.inl ⟨by rfl, ?_⟩) ?_ ?_
  rotate_left
  ·intro w'
   go_simp
   with_reducible rfl
  rotate_left
  ·exact t4_
  refine pure_ (i := 19) (N := some 31) (v := ?_) (a' := ?_) #[true, true, true, true, true, true, true, true, true, true, true, true, true, true, true, true, false, true, true, true, false, false, false, false, false] rfl rfl (any_of HT_.out (by kernel_rfl)) (fun _ _ _ h => h) (Or.inl ⟨by rfl, ?_⟩) ?_ ?_
  rotate_left
  ·intro w'
   go_simp
   with_reducible rfl
  rotate_left
  ·exact t4_
  refine pure_ (i := 20) (N := some 32) (v := ?_) (a' := ?_) #[true, true, true, true, true, true, true, true, true, true, true, true, true, true, true, true, false, true, true, true, true, false, false, false, false] rfl rfl (any_of HT_.out (by kernel_rfl)) (fun _ _ _ h => h) (Or.inl ⟨by rfl, ?_⟩) ?_ ?_
  rotate_left
  ·intro w'
   go_simp
   with_reducible rfl
  rotate_left
  ·exact t4_
  refine take_ (i := 16) (N := some 28) (v := ?_) (a' := ?_) #[true, true, true, true, true, true, true, true, true, true, true, true, true, true, true, true, true, true, true, true, true, false, false, false, false] rfl rfl (take_ofW HT_.out HW_.out (by kernel_rfl)) (fun _ _ _ h => h) (Or.inl ⟨by rfl, ?_⟩) hHeld ?_ ?_
  rotate_left
  ·rintro w' ⟨s0, s1, s2, s3⟩
   go_simp
   with_reducible rfl
  rotate_left
  ·exact t4_
  refine take_ (i := 21) (N := some 33) (v := ?_) (a' := ?_) #[true, true, true, true, true, true, true, true, true, true, true, true, true, true, true, true, true, true, true, true, true, true, false, false, false] rfl rfl (take_ofW HT_.out HW_.out (by kernel_rfl)) (fun _ _ _ h => h) (Or.inl ⟨by rfl, ?_⟩) hHeld ?_ ?_
  rotate_left
  ·rintro w' ⟨s0, s1, s2, s3⟩
   go_simp
   with_reducible rfl
  rotate_left
  ·exact t4_
  refine pure_ (i := 22) (N := some 34) (v := ?_) (a' := ?_) #[true, true, true, true, true, true, true, true, true, true, true, true, true, true, true, true, true, true, true, true, true, true, true, false, false] rfl rfl (any_of HT_.out (by kernel_rfl)) (fun _ _ _ h => h) (Or.inl ⟨by rfl, ?_⟩) ?_ ?_
  rotate_left
  ·intro w'
   go_simp
   with_reducible rfl
  rotate_left
  ·exact t4_
  refine pure_ (i := 23) (N := some 35) (v := ?_) (a' := ?_) #[true, true, true, true, true, true, true, true, true, true, true, true, true, true, true, true, true, true, true, true, true, true, true, true, false] rfl rfl (any_of HT_.out (by kernel_rfl)) (fun _ _ _ h => h) (Or.inl ⟨by rfl, ?_⟩) ?_ ?_
  rotate_left
  ·intro w'
   go_simp
   with_reducible rfl
  rotate_left
  ·exact t4_
  refine pure_ (i := 24) (N := some 36) (v := ?_) (a' := ?_) #[true, true, true, true, true, true, true, true, true, true, true, true, true, true, true, true, true, true, true, true, true, true, true, true, true] rfl rfl (any_of HT_.out (by kernel_rfl)) (fun _ _ _ h => h) (Or.inl ⟨by rfl, ?_⟩) ?_ ?_
  rotate_left
  ·intro w'
   go_simp
   with_reducible rfl
  rotate_left
  ·exact t4_
  refine done_ (done_of HT_.out (by kernel_rfl)) ?_
  try go_wp2
  go_ret
  exact ⟨by first | rfl | (simp [errW_none, errW_some] <;> rfl) | (simp only [← hji10]; first | rfl | (simp [errW_none, errW_some] <;> rfl)) | (simp [*, errW_none, errW_some] <;> rfl), gb_ HB.out⟩
 rw [if_neg c13] at H
 have c13b0 : decide ((rd l1 x5_1) ≤ (rd l1 (ji10))) = false := decide_eq_false c13
 clear c13
 have H' := Aside0.mk H
 clear H
 try go_wp2
 replace BK101 := Aside0.mk (blk_drew BK101.out)
 replace HB := Aside0.mk (below_drew1 HB.out)
 have p102 : 0 ≤ (x5_1 : Int) := of_decide_eq_true (by first | (with_reducible assumption) | assumption)
 have q102 : x5_1 < (l1.length : Int) := of_decide_eq_true (by first | (with_reducible assumption) | assumption)
 obtain ⟨ad102, e102, hx102_0⟩ := Kd.at_int HR1.out x5_1 p102 q102
 have hw102_0 := hx102_0
 cases e102
 replace hx102_0 := (HB.out.cell (World.block_lt_of_cell? _ _ hx102_0)).trans hx102_0
 replace p102 := eq_true p102
 replace q102 := eq_true q102
 have p105 : 0 ≤ (x5_1 : Int) := of_decide_eq_true (by first | (with_reducible assumption) | assumption)
 have q105 : x5_1 < (l1.length : Int) := of_decide_eq_true (by first | (with_reducible assumption) | assumption)
 obtain ⟨ad105, e105, hx105_0⟩ := Kd.at_int HR1.out x5_1 p105 q105
 have hw105_0 := hx105_0
 obtain rfl : ad102 = ad105 := (by injection e105)
 replace hx105_0 := (HB.out.cell (World.block_lt_of_cell? _ _ hx105_0)).trans hx105_0
 replace p105 := eq_true p105
 replace q105 := eq_true q105
 have p106 : 0 ≤ ((ji10) : Int) := of_decide_eq_true (by first | (with_reducible assumption) | assumption)
 have q106 : (ji10) < (l1.length : Int) := of_decide_eq_true (by first | (with_reducible assumption) | assumption)
 obtain ⟨ad106, e106, hx106_0⟩ := Kd.at_int HR1.out (ji10) p106 q106
 have hw106_0 := hx106_0
 obtain rfl : ad102 = ad106 := (by injection e106)
 replace hx106_0 := (HB.out.cell (World.block_lt_of_cell? _ _ hx106_0)).trans hx106_0
 replace p106 := eq_true p106
 replace q106 := eq_true q106
 refine start_ (n := 25) (S := fun w' => w'.cell? ⟨gb101, 0, none⟩ = some (.slice A0_0 l0_0.length c0_0) ∧ w'.cell? (ad102.add (x5_1).toNat) = some (.int .i64 (rd l1 x5_1)) ∧ w'.cell? (ad102.add (x5_1).toNat) = some (.int .i64 (rd l1 x5_1)) ∧ w'.cell? (ad102.add ((ji10)).toNat) = some (.int .i64 (rd l1 (ji10)))) (ds := []) #[false, false, false, false, false, false, false, false, false, false, false, false, false, false, false, false, false, false, false, false, false, false, false, false, false] (by kernel_rfl) rfl rfl ⟨(blk_cell BK101.out 0).trans rfl, ((HB.out.cell (World.block_lt_of_cell? _ _ hw102_0)).trans hw102_0), ((HB.out.cell (World.block_lt_of_cell? _ _ hw105_0)).trans hw105_0), ((HB.out.cell (World.block_lt_of_cell? _ _ hw106_0)).trans hw106_0)⟩ (fun hHeld => ?_); refine with_tabW spec_l01Code.tab4 spec_l01Code.bits4 (fun HT_ HW_ => ?_)
 generalize wr.drew = w16 at BK101 HB hx102_0 hx105_0 hx106_0 hHeld ⊢
 refine pure_ (i := 0) (N := some 12) (v := ?_) (a' := ?_) #[true, false, false, false, false, false, false, false, false, false, false, false, false, false, false, false, false, false, false, false, false, false, false, false, false] rfl rfl (any_of HT_.out (by kernel_rfl)) (fun _ _ _ h => h) (Or.inl ⟨by rfl, ?_⟩) ?_ ?_
 rotate_left
 ·intro w'
  go_simp
  with_reducible rfl
 rotate_left
 ·exact t4_
 refine pure_ (i := 1) (N := some 13) (v := ?_) (a' := ?_) #[true, true, false, false, false, false, false, false, false, false, false, false, false, false, false, false, false, false, false, false, false, false, false, false, false] rfl rfl (any_of HT_.out (by kernel_rfl)) (fun _ _ _ h => h) (Or.inl ⟨by rfl, ?_⟩) ?_ ?_
 rotate_left
 ·intro w'
  go_simp
  with_reducible rfl
 rotate_left
 ·exact t4_
 refine pure_ (i := 2) (N := some 14) (v := ?_) (a' := ?_) #[true, true, true, false, false, false, false, false, false, false, false, false, false, false, false, false, false, false, false, false, false, false, false, false, false] rfl rfl (any_of HT_.out (by kernel_rfl)) (fun _ _ _ h => h) (Or.inl ⟨by rfl, ?_⟩) ?_ ?_
 rotate_left
 ·intro w'
  go_simp
  with_reducible rfl
 rotate_left
 ·exact t4_
 refine take_ (i := 3) (N := some 15) (v := ?_) (a' := ?_) #[true, true, true, true, false, false, false, false, false, false, false, false, false, false, false, false, false, false, false, false, false, false, false, false, false] rfl rfl (take_ofW HT_.out HW_.out (by kernel_rfl)) (fun _ _ _ h => h) (Or.inl ⟨by rfl, ?_⟩) hHeld ?_ ?_
 rotate_left
 ·rintro w' ⟨s0, s1, s2, s3⟩
  go_simp
  with_reducible rfl
 rotate_left
 ·exact t4_
 refine take_ (i := 4) (N := some 16) (v := ?_) (a' := ?_) #[true, true, true, true, true, false, false, false, false, false, false, false, false, false, false, false, false, false, false, false, false, false, false, false, false] rfl rfl (take_ofW HT_.out HW_.out (by kernel_rfl)) (fun _ _ _ h => h) (Or.inl ⟨by rfl, ?_⟩) hHeld ?_ ?_
 rotate_left
 ·rintro w' ⟨s0, s1, s2, s3⟩
  go_simp
  with_reducible rfl
 rotate_left
 ·exact t4_
 refine one_ (i := 5) (N := some 17) #[true, true, true, true, true, true, false, false, false, false, false, false, false, false, false, false, false, false, false, false, false, false, false, false, false] rfl rfl (one_of HT_.out (by kernel_rfl)) (by decide) (fun K hK => ?_)
 refine goes_ Try.func76 (by kernel_rfl) rfl #[.agg #[.slice A0_0 l0_0.length c0_0]] (by rfl) rfl rfl t1_ ?_
 with_reducible refine (spec_l01N.calls k1 _ _ l0_0 t103 _ ?side1 ?side2 A6.out).mono ?_
 (case side1 => exact c2_ HR0_0 HB)
 (case side2 => exact HC0_0.out)
 rintro e w17 ⟨rfl, hb⟩
 refine ⟨_, rfl, ?_⟩
 replace BK101 := a2_ BK101 hb
 replace HB := b1_ HB hb
 (try clear hb)
 (try clear hb2)
 (try clear hk)
 (try clear hi)
 refine hK.out _ _ ⟨(blk_cell BK101.out 0).trans rfl, ((HB.out.cell (World.block_lt_of_cell? _ _ hw102_0)).trans hw102_0), ((HB.out.cell (World.block_lt_of_cell? _ _ hw105_0)).trans hw105_0), ((HB.out.cell (World.block_lt_of_cell? _ _ hw106_0)).trans hw106_0)⟩ (fun hHeld => ?_)
 clear hK K
 refine norm_ (a' := ?_) ?_ ?_
 rotate_left
 ·show Act.put _ (some 17) _ = _
  simp only [Act.put, List.setIfInBounds_toArray, List.set_cons_zero, List.set_cons_succ, i64_w, i32_w]
  rfl
 refine pure_ (i := 6) (N := some 18) (v := ?_) (a' := ?_) #[true, true, true, true, true, true, true, false, false, false, false, false, false, false, false, false, false, false, false, false, false, false, false, false, false] rfl rfl (any_of HT_.out (by kernel_rfl)) (fun _ _ _ h => h) (Or.inl ⟨by rfl, ?_⟩) ?_ ?_
 rotate_left
 ·intro w'
  go_simp
  with_reducible rfl
 rotate_left
 ·exact t4_
 refine one_ (i := 7) (N := some 19) #[true, true, true, true, true, true, true, true, false, false, false, false, false, false, false, false, false, false, false, false, false, false, false, false, false] rfl rfl (one_of HT_.out (by kernel_rfl)) (by decide) (fun K hK => ?_)
 refine goes_ Try.func84 (by kernel_rfl) rfl #[.int .i64 (rd l1 x5_1), .int .i64 0, .int .i64 (wrap64 (t103 - 1))] (by rfl) rfl rfl t1_ ?_
 with_reducible refine (spec_l01In.calls (rd l1 x5_1) 0 (wrap64 (t103 - 1)) true _ A7.out).mono ?_
 rintro e w' ⟨rfl, ⟨nd, rfl⟩⟩
 refine ⟨_, rfl, ?_⟩
 refine hK.out _ _ ⟨(blk_cell BK101.out 0).trans rfl, ((HB.out.cell (World.block_lt_of_cell? _ _ hw102_0)).trans hw102_0), ((HB.out.cell (World.block_lt_of_cell? _ _ hw105_0)).trans hw105_0), ((HB.out.cell (World.block_lt_of_cell? _ _ hw106_0)).trans hw106_0)⟩ (fun hHeld => ?_)
 clear hK K
 refine norm_ (a' := ?_) ?_ ?_
 rotate_left
 ·show Act.put _ (some 19) _ = _
  simp only [Act.put, List.setIfInBounds_toArray, List.set_cons_zero, List.set_cons_succ, i64_w, i32_w]
  rfl
 refine pure_ (i := 8) (N := some 20) (v := ?_) (a' := ?_) #[true, true, true, true, true, true, true, true, true, false, false, false, false, false, false, false, false, false, false, false, false, false, false, false, false] rfl rfl (any_of HT_.out (by kernel_rfl)) (fun _ _ _ h => h) (Or.inl ⟨by rfl, ?_⟩) ?_ ?_
 rotate_left
 ·intro w'
  go_simp
  with_reducible rfl
 rotate_left
 ·exact t4_
 refine pure_ (i := 9) (N := some 21) (v := ?_) (a' := ?_) #[true, true, true, true, true, true, true, true, true, true, false, false, false, false, false, false, false, false, false, false, false, false, false, false, false] rfl rfl (any_of HT_.out (by kernel_rfl)) (fun _ _ _ h => h) (Or.inl ⟨by rfl, ?_⟩) ?_ ?_
 rotate_left
 ·intro w'
  go_simp
  with_reducible rfl
 rotate_left
 ·exact t4_
 refine pure_ (i := 10) (N := some 22) (v := ?_) (a' := ?_) #[true, true, true, true, true, true, true, true, true, true, true, false, false, false, false, false, false, false, false, false, false, false, false, false, false] rfl rfl (any_of HT_.out (by kernel_rfl)) (fun _ _ _ h => h) (Or.inl ⟨by rfl, ?_⟩) ?_ ?_
 rotate_left
 ·intro w'
  go_simp
  with_reducible rfl
 rotate_left
 ·exact t4_
 refine pure_ (i := 11) (N := some 23) (v := ?_) (a' := ?_) #[true, true, true, true, true, true, true, true, true, true, true, true, false, false, false, false, false, false, false, false, false, false, false, false, false] rfl rfl (any_of HT_.out (by kernel_rfl)) (fun _ _ _ h => h) (Or.inl ⟨by rfl, ?_⟩) ?_ ?_
 rotate_left
 ·intro w'
  go_simp
  with_reducible rfl
 rotate_left
 ·exact t4_
 refine pure_ (i := 12) (N := some 24) (v := ?_) (a' := ?_) #[true, true, true, true, true, true, true, true, true, true, true, true, true, false, false, false, false, false, false, false, false, false, false, false, false] rfl rfl (any_of HT_.out (by kernel_rfl)) (fun _ _ _ h => h) (Or.inl ⟨by rfl, ?_⟩) ?_ ?_
 rotate_left
 ·intro w'
  go_simp
  with_reducible rfl
 rotate_left
 ·exact t4_
 refine pure_ (i := 13) (N := some 25) (v := ?_) (a' := ?_) #[true, true, true, true, true, true, true, true, true, true, true, true, true, true, false, false, false, false, false, false, false, false, false, false, false] rfl rfl (any_of HT_.out (by kernel_rfl)) (fun _ _ _ h => h) (Or.inl ⟨by rfl, ?_⟩) ?_ ?_
 rotate_left
 ·intro w'
  go_simp
  with_reducible rfl
 rotate_left
 ·exact t4_
 refine pure_ (i := 14) (N := some 26) (v := ?_) (a' := ?_) #[true, true, true, true, true, true, true, true, true, true, true, true, true, true, true, false, false, false, false, false, false, false, false, false, false] rfl rfl (any_of HT_.out (by kernel_rfl)) (fun _ _ _ h => h) (Or.inl ⟨by rfl, ?_⟩) ?_ ?_
 rotate_left
 ·intro w'
  go_simp
  with_reducible rfl
 rotate_left
 ·exact t4_
 refine pure_ (i := 15) (N := some 27) (v := ?_) (a' := ?_) #[true, true, true, true, true, true, true, true, true, true, true, true, true, true, true, true, false, false, false, false, false, false, false, false, false] rfl rfl (any_of HT_.out (by kernel_rfl)) (fun _ _ _ h => h) (Or.inl ⟨by rfl, ?_⟩) ?_ ?_
 rotate_left
 ·intro w'
  go_simp
  with_reducible rfl
 rotate_left
 ·exact t4_
 refine pure_ (i := 17) (N := some 29) (v := ?_) (a' := ?_) #[true, true, true, true, true, true, true, true, true, true, true, true, true, true, true, true, false, true, false, false, false, false, false, false, false] rfl rfl (any_of HT_.out (by kernel_rfl)) (fun _ _ _ h => h) (Or.inl ⟨by rfl, ?_⟩) ?_ ?_
 rotate_left
 ·intro w'
  go_simp
  with_reducible rfl
 rotate_left
 ·exact t4_
 refine pure_ (i := 18) (N := some 30) (v := ?_) (a' := ?_) #[true, true, true, true, true, true, true, true, true, true, true, true, true, true, true, true, false, true, true, false, false, false, false, false, false] rfl rfl (any_of HT_.out (by kernel_rfl)) (fun _ _ _ h => h) (Or.inl ⟨by rfl, ?_⟩) ?_ ?_
 rotate_left
 ·intro w'
  go_simp
  with_reducible rfl
 rotate_left
 ·exact t4_
 refine pure_ (i := 19) (N := some 31) (v := ?_) (a' := ?_) #[true, true, true, true, true, true, true, true, true, true, true, true, true, true, true, true, false, true, true, true, false, false, false, false, false] rfl rfl (any_of HT_.out (by kernel_rfl)) (fun _ _ _ h => h) (Or.inl ⟨by rfl, ?_⟩) ?_ ?_
 rotate_left
 ·intro w'
  go_simp
  with_reducible rfl
 rotate_left
 ·exact t4_
 refine pure_ (i := 20) (N := some 32) (v := ?_) (a' := ?_) #[true, true, true, true, true, true, true, true, true, true, true, true, true, true, true, true, false, true, true, true, true, false, false, false, false] rfl rfl (any_of HT_.out (by kernel_rfl)) (fun _ _ _ h => h) (Or.inl ⟨by rfl, ?_⟩) ?_ ?_
 rotate_left
 ·intro w'
  go_simp
  with_reducible rfl
 rotate_left
 ·exact t4_
 refine take_ (i := 16) (N := some 28) (v := ?_) (a' := ?_) #[true, true, true, true, true, true, true, true, true, true, true, true, true, true, true, true, true, true, true, true, true, false, false, false, false] rfl rfl (take_ofW HT_.out HW_.out (by kernel_rfl)) (fun _ _ _ h => h) (Or.inl ⟨by rfl, ?_⟩) hHeld ?_ ?_
 rotate_left
 ·rintro w' ⟨s0, s1, s2, s3⟩
  go_simp
  with_reducible rfl
 rotate_left
 ·exact t4_
 refine take_ (i := 21) (N := some 33) (v := ?_) (a' := ?_) #[true, true, true, true, true, true, true, true, true, true, true, true, true, true, true, true, true, true, true, true, true, true, false, false, false] rfl rfl (take_ofW HT_.out HW_.out (by kernel_rfl)) (fun _ _ _ h => h) (Or.inl ⟨by rfl, ?_⟩) hHeld ?_ ?_
 rotate_left
 ·rintro w' ⟨s0, s1, s2, s3⟩
  go_simp
  with_reducible rfl
 rotate_left
 ·exact t4_
 refine pure_ (i := 22) (N := some 34) (v := ?_) (a' := ?_) #[true, true, true, true, true, true, true, true, true, true, true, true, true, true, true, true, true, true, true, true, true, true, true, false, false] rfl rfl (any_of HT_.out (by kernel_rfl)) (fun _ _ _ h => h) (Or.inl ⟨by rfl, ?_⟩) ?_ ?_
 rotate_left
 ·intro w'
  go_simp
  with_reducible rfl
 rotate_left
 ·exact t4_
 refine pure_ (i := 23) (N := some 35) (v := ?_) (a' := ?_) #[true, true, true, true, true, true, true, true, true, true, true, true, true, true, true, true, true, true, true, true, true, true, true, true, false] rfl rfl (any_of HT_.out (by kernel_rfl)) (fun _ _ _ h => h) (Or.inl ⟨by rfl, ?_⟩) ?_ ?_
 rotate_left
 ·intro w'
  go_simp
  with_reducible rfl
 rotate_left
 ·exact t4_
 refine pure_ (i := 24) (N := some 36) (v := ?_) (a' := ?_) #[true, true, true, true, true, true, true, true, true, true, true, true, true, true, true, true, true, true, true, true, true, true, true, true, true] rfl rfl (any_of HT_.out (by kernel_rfl)) (fun _ _ _ h => h) (Or.inl ⟨by rfl, ?_⟩) ?_ ?_
 rotate_left
 ·intro w'
  go_simp
  with_reducible rfl
 rotate_left
 ·exact t4_
 refine done_ (done_of HT_.out (by kernel_rfl)) ?_
 try go_wp2
 go_roundg k1
 case measure => have := HK1.out; omega
 case rel => exact ⟨(wrap64 (x5_1 + 1)), t2_, H', ⟨by have := HK1.out; omega⟩, ⟨bb_ BK101.out⟩, ⟨gb_ HB.out⟩⟩
def spec_l01Given.f (k : Nat) (l0_0 : List Int) (l1 : List Int) : Option (Int) := (spec_l01Is.f k l0_0).bind fun t102 => (if t102 = true then ((spec_l01Code.f k l0_0 l1).bind fun t103 => (if t103 = true then (some 0) else (some 2))) else (some 1))
set_option maxHeartbeats 8000000 in
set_option maxRecDepth 100000 in
theorem spec_l01Given.calls (k : Nat) (A0_0 : Option Addr) (c0_0 : Nat) (l0_0 : List Int) (A1 : Option Addr) (c1 : Nat) (l1 : List Int) (r : Int) (w : World) (hr0_0 : Kd.C (Kd.int .i64) w A0_0 l0_0.length l0_0) (hc0_0 : l0_0.length ≤ c0_0) (hr1 : Kd.C (Kd.int .i64) w A1 l1.length l1) (hc1 : l1.length ≤ c1) (h : spec_l01Given.f k l0_0 l1 = some r) :
  Calls Try.prog 88 #[.agg #[.slice A0_0 l0_0.length c0_0], .slice A1 l1.length c1] w fun e w' => e = .returned (.int .i64 r) ∧ Below w.heap.size w w' := by
 have hu26 := Try.underlying26
 have HR0_0 := Aside0.mk hr0_0
 have HC0_0 := Aside0.mk hc0_0
 clear hr0_0 hc0_0
 have HR1 := Aside0.mk hr1
 have HC1 := Aside0.mk hc1
 clear hr1 hc1
 have HB := Aside0.mk (Below.refl w.heap.size w)
 have H : ((spec_l01Is.f k l0_0).bind fun t102 => (if t102 = true then ((spec_l01Code.f k l0_0 l1).bind fun t103 => (if t103 = true then (some 0) else (some 2))) else (some 1))) = some r := h
 clear h
 replace H := Option.bind_eq_some_iff.mp H
 obtain ⟨t102, A30, H⟩ := H
 replace H : (if t102 = true then ((spec_l01Code.f k l0_0 l1).bind fun t103 => (if t103 = true then (some 0) else (some 2))) else (some 1)) = some r := H
 have A3 := Aside0.mk A30
 clear A30
 by_cases c4 : t102 = true
 rotate_left
 ·replace c4 := Bool.eq_false_iff.mpr c4
  subst c4
  have H1 : (some 1) = some r := by rw [if_neg (show ¬ (false = true) by decide)] at H; exact H
  clear H
  have H := H1
  clear H1
  obtain rfl := Option.some.inj H
  go_enter Try.func88, Try.ntmps88
  go_wp2_with (first | ((with_reducible refine gate_dst (N := 2) rfl ?_); refine box_event ?hg (N := 2) ?hd (cs := #[.slice A0_0 l0_0.length c0_0]) (t := 26) ?hr ?_; (case hd => rfl); (case hg => rfl); (case hr => exact t3_); intro gb101 hg w17 hbox hb; have n0_ := b1_ HB hb; have n1_ := Aside0.mk (hbox); have n2_ := Aside0.mk ((by rw [hg]; exact (below_size (gb_ HB.out)) : w.heap.size ≤ gb101)); have n3_ := Aside0.mk ((by rw [hg]; exact (below_size (gb_ HB.out)) : w.heap.size ≤ gb101)); clear HB; have HB := n0_; have BK101 := n1_; have GW101 := n2_; have GE101 := n3_; clear n0_ n1_ n2_ n3_ hb hbox hg; have hcz18_0 : w17.cell? ⟨gb101, 0, none⟩ = some (.slice A0_0 l0_0.length c0_0) := (blk_cell BK101.out 0).trans rfl; have hfz18_0 := blk_frozen BK101.out 0) | ((with_reducible refine gate_callee (f := 67) rfl ?_); refine goesL_ (some 7) rfl rfl Try.func67 (by kernel_rfl) rfl #[.agg #[.slice A0_0 l0_0.length c0_0]] rfl t1_ ?_; (with_reducible refine (spec_l01Is.calls k _ _ l0_0 false _ ?side1 ?side2 A3.out).mono ?_); (case side1 => exact c2_ HR0_0 HB); (case side2 => exact HC0_0.out); rintro e w19 ⟨rfl, hb⟩; refine ⟨_, rfl, ?_⟩; replace BK101 := a2_ BK101 hb; replace HB := b1_ HB hb; (try clear hb); (try clear hb2); (try clear hk); (try clear hi)))
  go_ret
  exact ⟨t5_, gb_ HB.out⟩

 subst c4
 have H1 : ((spec_l01Code.f k l0_0 l1).bind fun t103 => (if t103 = true then (some 0) else (some 2))) = some r := by rw [if_pos rfl] at H; exact H
 clear H
 have H := H1
 clear H1
 replace H := Option.bind_eq_some_iff.mp H
 obtain ⟨t103, A50, H⟩ := H
 replace H : (if t103 = true then (some 0) else (some 2)) = some r := H
 have A5 := Aside0.mk A50
 clear A50
 by_cases c6 : t103 = true
 ·subst c6
  have H1 : (some 0) = some r := by rw [if_pos rfl] at H; exact H
  clear H
  have H := H1
  clear H1
  obtain rfl := Option.some.inj H
  go_enter Try.func88, Try.ntmps88
  go_wp2_with (first | ((with_reducible refine gate_dst (N := 2) rfl ?_); refine box_event ?hg (N := 2) ?hd (cs := #[.slice A0_0 l0_0.length c0_0]) (t := 26) ?hr ?_; (case hd => rfl); (case hg => rfl); (case hr => exact t3_); intro gb101 hg w7 hbox hb; have n0_ := b1_ HB hb; have n1_ := Aside0.mk (hbox); have n2_ := Aside0.mk ((by rw [hg]; exact (below_size (gb_ HB.out)) : w.heap.size ≤ gb101)); have n3_ := Aside0.mk ((by rw [hg]; exact (below_size (gb_ HB.out)) : w.heap.size ≤ gb101)); clear HB; have HB := n0_; have BK101 := n1_; have GW101 := n2_; have GE101 := n3_; clear n0_ n1_ n2_ n3_ hb hbox hg; have hcz8_0 : w7.cell? ⟨gb101, 0, none⟩ = some (.slice A0_0 l0_0.length c0_0) := (blk_cell BK101.out 0).trans rfl; have hfz8_0 := blk_frozen BK101.out 0) | ((with_reducible refine gate_callee (f := 67) rfl ?_); refine goesL_ (some 7) rfl rfl Try.func67 (by kernel_rfl) rfl #[.agg #[.slice A0_0 l0_0.length c0_0]] rfl t1_ ?_; (with_reducible refine (spec_l01Is.calls k _ _ l0_0 true _ ?side1 ?side2 A3.out).mono ?_); (case side1 => exact c2_ HR0_0 HB); (case side2 => exact HC0_0.out); rintro e w9 ⟨rfl, hb⟩; refine ⟨_, rfl, ?_⟩; replace BK101 := a2_ BK101 hb; replace HB := b1_ HB hb; (try clear hb); (try clear hb2); (try clear hk); (try clear hi); have hcz10_0 : w9.cell? ⟨gb101, 0, none⟩ = some (.slice A0_0 l0_0.length c0_0) := (blk_cell BK101.out 0).trans rfl; have hfz10_0 := blk_frozen BK101.out 0) | ((with_reducible refine gate_callee (f := 118) rfl ?_); refine goesL_ (some 12) rfl rfl Try.func118 (by kernel_rfl) rfl #[.agg #[.slice A0_0 l0_0.length c0_0], .slice A1 l1.length c1] rfl t1_ ?_; (with_reducible refine (spec_l01Code.calls k _ _ l0_0 _ _ l1 true _ ?side1 ?side2 ?side3 ?side4 A5.out).mono ?_); (case side1 => exact c2_ HR0_0 HB); (case side2 => exact HC0_0.out); (case side3 => exact c2_ HR1 HB); (case side4 => exact HC1.out); rintro e w11 ⟨rfl, hb⟩; refine ⟨_, rfl, ?_⟩; replace BK101 := a2_ BK101 hb; replace HB := b1_ HB hb; (try clear hb); (try clear hb2); (try clear hk); (try clear hi)))
  go_ret
  exact ⟨t5_, gb_ HB.out⟩
 replace c6 := Bool.eq_false_iff.mpr c6
 subst c6
 have H1 : (some 2) = some r := by rw [if_neg (show ¬ (false = true) by decide)] at H; exact H
 clear H
 have H := H1
 clear H1
 obtain rfl := Option.some.inj H
 go_enter Try.func88, Try.ntmps88
 go_wp2_with (first | ((with_reducible refine gate_dst (N := 2) rfl ?_); refine box_event ?hg (N := 2) ?hd (cs := #[.slice A0_0 l0_0.length c0_0]) (t := 26) ?hr ?_; (case hd => rfl); (case hg => rfl); (case hr => exact t3_); intro gb101 hg w12 hbox hb; have n0_ := b1_ HB hb; have n1_ := Aside0.mk (hbox); have n2_ := Aside0.mk ((by rw [hg]; exact (below_size (gb_ HB.out)) : w.heap.size ≤ gb101)); have n3_ := Aside0.mk ((by rw [hg]; exact (below_size (gb_ HB.out)) : w.heap.size ≤ gb101)); clear HB; have HB := n0_; have BK101 := n1_; have GW101 := n2_; have GE101 := n3_; clear n0_ n1_ n2_ n3_ hb hbox hg; have hcz13_0 : w12.cell? ⟨gb101, 0, none⟩ = some (.slice A0_0 l0_0.length c0_0) := (blk_cell BK101.out 0).trans rfl; have hfz13_0 := blk_frozen BK101.out 0) | ((with_reducible refine gate_callee (f := 67) rfl ?_); refine goesL_ (some 7) rfl rfl Try.func67 (by kernel_rfl) rfl #[.agg #[.slice A0_0 l0_0.length c0_0]] rfl t1_ ?_; (with_reducible refine (spec_l01Is.calls k _ _ l0_0 true _ ?side1 ?side2 A3.out).mono ?_); (case side1 => exact c2_ HR0_0 HB); (case side2 => exact HC0_0.out); rintro e w14 ⟨rfl, hb⟩; refine ⟨_, rfl, ?_⟩; replace BK101 := a2_ BK101 hb; replace HB := b1_ HB hb; (try clear hb); (try clear hb2); (try clear hk); (try clear hi); have hcz15_0 : w14.cell? ⟨gb101, 0, none⟩ = some (.slice A0_0 l0_0.length c0_0) := (blk_cell BK101.out 0).trans rfl; have hfz15_0 := blk_frozen BK101.out 0) | ((with_reducible refine gate_callee (f := 118) rfl ?_); refine goesL_ (some 12) rfl rfl Try.func118 (by kernel_rfl) rfl #[.agg #[.slice A0_0 l0_0.length c0_0], .slice A1 l1.length c1] rfl t1_ ?_; (with_reducible refine (spec_l01Code.calls k _ _ l0_0 _ _ l1 false _ ?side1 ?side2 ?side3 ?side4 A5.out).mono ?_); (case side1 => exact c2_ HR0_0 HB); (case side2 => exact HC0_0.out); (case side3 => exact c2_ HR1 HB); (case side4 => exact HC1.out); rintro e w16 ⟨rfl, hb⟩; refine ⟨_, rfl, ?_⟩; replace BK101 := a2_ BK101 hb; replace HB := b1_ HB hb; (try clear hb); (try clear hb2); (try clear hk); (try clear hi)))
 go_ret
 exact ⟨t5_, gb_ HB.out⟩
end Go.Proofs.Ytlfipjdjmpdblaa.P
set_option linter.unusedVariables false
set_option linter.unusedSimpArgs false
namespace Go.Proofs.Ytlfipjdjmpdblaa.P
open Go.RowKit Go.Proofs.YtlfipjdjmpdblaaW.PrintWords Go.Proofs.YtlfipjdjmpdblaaW.PrintLast Go.Proofs.YtlfipjdjmpdblaaW.PrintMore CC
theorem take_rd (s : List Int) {n : Nat} (hn : n < s.length) : s.take (n + 1) = s.take n ++ [rd s (n : Int)] := by
  rw [List.take_add_one]
  simp [rd, List.getD_eq_getElem?_getD, hn]
theorem dloop_eq (s : List Int) : ∀ (n : Nat) (x : Int) (ar : List Int), n ≤ s.length → n ≤ ar.length → dloop s n x ar = (dgr (s.take n).reverse x).reverse ++ ar.drop n
  | 0, x, ar, _, _ => by simp [dloop, dgr]
  | n + 1, x, ar, h1, h2 => by
    simp only [dloop]
    rw [dloop_eq s n _ _ (by omega) (by simp; omega), take_rd s (by omega), List.reverse_append]
    simp only [List.reverse_cons, List.reverse_nil, List.nil_append, List.singleton_append, dgr]
    rw [List.append_assoc]
    congr 1
    rw [List.drop_eq_getElem_cons (show n < (ar.set n (x % rd s (n : Int))).length by simp; omega), List.drop_set]
    simp
theorem dig8_eq {s : List Int} (hl : s.length ≤ 8) (x : Int) : dig8 s x = dg s x ++ List.replicate (8 - s.length) 0 := by
  unfold dig8 dg
  rw [dloop_eq s s.length x _ (Nat.le_refl _) (by simpa using hl), List.drop_replicate, List.take_length]
theorem ham_dig8 {s : List Int} (hl : s.length ≤ 8) (x y : Int) : ham (dig8 s x) (dig8 s y) = dist s x y := by
  rw [dig8_eq hl, dig8_eq hl, ham_append _ _ _ _ (by rw [dg_length, dg_length]), ham_self]
  simp [dist]
end Go.Proofs.Ytlfipjdjmpdblaa.P
namespace Go.Proofs.Ytlfipjdjmpdblaa.P
open Go.RowKit Go.Proofs.YtlfipjdjmpdblaaW.PrintWords Go.Proofs.YtlfipjdjmpdblaaW.PrintLast Go.Proofs.YtlfipjdjmpdblaaW.PrintMore
attribute [local go_sem] max2_int min2_int max_two min_two max_three min_three max_four min_four
set_option linter.unusedVariables false
set_option linter.unusedSimpArgs false
def spec_l02To.l0 : Nat → List Int → Int → Int → Int → List Int → Option (Int)
  | 0, _, _, _, _, _ => none
  | k + 1, x1, x2, x7, x8, x102000 => if x8 < (x1.length : Int) then (if 0 ≤ x8 then ((spec_l01Distance.f k x102000 (rd x1 x8) x2).bind fun t105 => (spec_l02To.l0 k x1 x2 (mn x7 t105) (wrap64 (x8 + 1)) x102000)) else (none)) else (some x7)
def spec_l02To.f (k : Nat) (l0_0 : List Int) (l1 : List Int) (a2 : Int) : Option (Int) := if 0 < (l1.length : Int) then ((spec_l01Distance.f k l0_0 (rd l1 0) a2).bind fun t103 => (spec_l02To.l0 k l1 a2 t103 1 l0_0)) else (none)
def spec_l02To.T5 : Bool × List (List Nat × List Nat) := (true, [([], []), ([], []), ([], []), ([], []), ([2, 3], [2, 3]), ([4], [4]), ([], []), ([1, 5, 6], [1, 5, 6]), ([0, 7], [0, 7]), ([8, 7, 0, 1, 2, 3, 4, 5, 6, 7, 8], [0, 8])])
def spec_l02To.B5 : List Nat := [0, 0, 0, 0, 12, 28, 0, 126, 255, 511]
theorem spec_l02To.tab5 : rtab .any (opsOf Try.f89 5) = spec_l02To.T5 := by kernel_rfl
theorem spec_l02To.bits5 : waitsOk spec_l02To.T5.2 spec_l02To.B5 = true := by kernel_rfl
set_option maxHeartbeats 8000000 in
set_option maxRecDepth 100000 in
theorem spec_l02To.calls (k : Nat) (A0_0 : Option Addr) (c0_0 : Nat) (l0_0 : List Int) (A1 : Option Addr) (c1 : Nat) (l1 : List Int) (a2 : Int) (r : Int) (w : World) (hr0_0 : Kd.C (Kd.int .i64) w A0_0 l0_0.length l0_0) (hc0_0 : l0_0.length ≤ c0_0) (hr1 : Kd.C (Kd.int .i64) w A1 l1.length l1) (hc1 : l1.length ≤ c1) (h : spec_l02To.f k l0_0 l1 a2 = some r) :
  Calls Try.prog 89 #[.agg #[.slice A0_0 l0_0.length c0_0], .slice A1 l1.length c1, .int .i64 a2] w fun e w' => e = .returned (.int .i64 r) ∧ Below w.heap.size w w' := by
 have hu26 := Try.underlying26
 have HR0_0 := Aside0.mk hr0_0
 have HC0_0 := Aside0.mk hc0_0
 clear hr0_0 hc0_0
 have HR1 := Aside0.mk hr1
 have HC1 := Aside0.mk hc1
 clear hr1 hc1
 have HB := Aside0.mk (Below.refl w.heap.size w)
 have H : (if 0 < (l1.length : Int) then ((spec_l01Distance.f k l0_0 (rd l1 0) a2).bind fun t103 => (spec_l02To.l0 k l1 a2 t103 1 l0_0)) else (none)) = some r := h
 clear h
 by_cases c4 : 0 < (l1.length : Int)
 rotate_left
 ·rw [if_neg c4] at H
  exact absurd H (by simp)

 rw [if_pos c4] at H
 have c4b0 : decide (0 < (l1.length : Int)) = true := decide_eq_true c4
 have c4b1 : decide (0 < l1.length) = true := decide_eq_true (by omega)
 clear c4
 replace H := Option.bind_eq_some_iff.mp H
 obtain ⟨t103, A50, H⟩ := H
 replace H : (spec_l02To.l0 k l1 a2 t103 1 l0_0) = some r := H
 have A5 := Aside0.mk A50
 clear A50
 have H' := Aside0.mk H
 clear H
 go_enter Try.func89, Try.ntmps89
 try go_wp2_with (first | ((with_reducible refine gate_dst (N := 3) rfl ?_); refine box_event ?hg (N := 3) ?hd (cs := #[.slice A0_0 l0_0.length c0_0]) (t := 26) ?hr ?_; (case hd => rfl); (case hg => rfl); (case hr => exact t3_); intro gb101 hg w6 hbox hb; have n0_ := b1_ HB hb; have n1_ := Aside0.mk (hbox); have n2_ := Aside0.mk ((by rw [hg]; exact (below_size (gb_ HB.out)) : w.heap.size ≤ gb101)); have n3_ := Aside0.mk ((by rw [hg]; exact (below_size (gb_ HB.out)) : w.heap.size ≤ gb101)); clear HB; have HB := n0_; have BK101 := n1_; have GW101 := n2_; have GE101 := n3_; clear n0_ n1_ n2_ n3_ hb hbox hg))
 replace BK101 := Aside0.mk (blk_drew BK101.out)
 replace HB := Aside0.mk (below_drew1 HB.out)
 have p102 : 0 ≤ (0 : Int) := (by omega)
 have q102 : 0 < (l1.length : Int) := of_decide_eq_true (by first | (with_reducible assumption) | assumption)
 obtain ⟨ad102, e102, hx102_0⟩ := Kd.at_int HR1.out 0 p102 q102
 have hw102_0 := hx102_0
 (try rw [show ((0 : Int)).toNat = 0 from rfl] at hw102_0)
 (try rw [show 0 * 1 = 0 from rfl] at hw102_0)
 (try rw [Addr.add_zero'] at hw102_0)
 cases e102
 have qi102 : (0 < l1.length) = True := eq_true (by omega)
 (try rw [show ((0 : Int)).toNat = 0 from rfl] at hx102_0)
 (try rw [Addr.add_zero'] at hx102_0)
 replace hx102_0 := (HB.out.cell (World.block_lt_of_cell? _ _ hx102_0)).trans hx102_0
 replace p102 := eq_true p102
 replace q102 := eq_true q102
 refine start_ (n := 7) (S := fun w' => w'.cell? ⟨gb101, 0, none⟩ = some (.slice A0_0 l0_0.length c0_0) ∧ w'.cell? ad102 = some (.int .i64 (rd l1 0))) (ds := []) #[false, false, false, false, false, false, false] (by kernel_rfl) rfl rfl ⟨(blk_cell BK101.out 0).trans rfl, ((HB.out.cell (World.block_lt_of_cell? _ _ hw102_0)).trans hw102_0)⟩ (fun hHeld => ?_)
 generalize w6.drew = w7 at BK101 HB hx102_0 hHeld ⊢
 refine pure_ (i := 1) (N := some 10) (v := ?_) (a' := ?_) #[false, true, false, false, false, false, false] rfl rfl (by kernel_rfl) (fun _ _ _ h => h) (Or.inl ⟨by rfl, ?_⟩) ?_ ?_
 rotate_left
 ·intro w'
  go_simp
  with_reducible rfl
 rotate_left
 ·exact t4_
 refine pure_ (i := 2) (N := some 11) (v := ?_) (a' := ?_) #[false, true, true, false, false, false, false] rfl rfl (by kernel_rfl) (fun _ _ _ h => h) (Or.inl ⟨by rfl, ?_⟩) ?_ ?_
 rotate_left
 ·intro w'
  go_simp
  with_reducible rfl
 rotate_left
 ·exact t4_
 refine pure_ (i := 4) (N := some 13) (v := ?_) (a' := ?_) #[false, true, true, false, true, false, false] rfl rfl (by kernel_rfl) (fun _ _ _ h => h) (Or.inl ⟨by rfl, ?_⟩) ?_ ?_
 rotate_left
 ·intro w'
  go_simp
  with_reducible rfl
 rotate_left
 ·exact t4_
 refine take_ (i := 0) (N := some 9) (v := ?_) (a' := ?_) #[true, true, true, false, true, false, false] rfl rfl (by kernel_rfl) (fun _ _ _ h => h) (Or.inl ⟨by rfl, ?_⟩) hHeld ?_ ?_
 rotate_left
 ·rintro w' ⟨s0, s1⟩
  go_simp
  with_reducible rfl
 rotate_left
 ·exact t4_
 refine take_ (i := 3) (N := some 12) (v := ?_) (a' := ?_) #[true, true, true, true, true, false, false] rfl rfl (by kernel_rfl) (fun _ _ _ h => h) (Or.inl ⟨by rfl, ?_⟩) hHeld ?_ ?_
 rotate_left
 ·rintro w' ⟨s0, s1⟩
  go_simp
  with_reducible rfl
 rotate_left
 ·exact t4_
 refine one_ (i := 5) (N := some 14) #[true, true, true, true, true, true, false] rfl rfl (by kernel_rfl) (by decide) (fun K hK => ?_)
 refine goes_ Try.func61 (by kernel_rfl) rfl #[.agg #[.slice A0_0 l0_0.length c0_0], .int .i64 (rd l1 0), .int .i64 a2] (by rfl) rfl rfl t1_ ?_
 with_reducible refine (spec_l01Distance.calls k _ _ l0_0 (rd l1 0) a2 t103 _ ?side1 ?side2 A5.out).mono ?_
 (case side1 => exact c2_ HR0_0 HB)
 (case side2 => exact HC0_0.out)
 rintro e w8 ⟨rfl, hb⟩
 refine ⟨_, rfl, ?_⟩
 replace BK101 := a2_ BK101 hb
 replace HB := b1_ HB hb
 (try clear hb)
 (try clear hb2)
 (try clear hk)
 (try clear hi)
 refine hK.out _ _ ⟨(blk_cell BK101.out 0).trans rfl, ((HB.out.cell (World.block_lt_of_cell? _ _ hw102_0)).trans hw102_0)⟩ (fun hHeld => ?_)
 clear hK K
 refine norm_ (a' := ?_) ?_ ?_
 rotate_left
 ·show Act.put _ (some 14) _ = _
  simp only [Act.put, List.setIfInBounds_toArray, List.set_cons_zero, List.set_cons_succ, i64_w, i32_w]
  rfl
 refine pure_ (i := 6) (N := some 7) (v := ?_) (a' := ?_) #[true, true, true, true, true, true, true] rfl rfl (by kernel_rfl) (fun _ _ _ h => h) (Or.inl ⟨by rfl, ?_⟩) ?_ ?_
 rotate_left
 ·intro w'
  go_simp
  with_reducible rfl
 rotate_left
 ·exact t4_
 refine done_ (by kernel_rfl) ?_
 try go_wp2
 go_loopg [7, 8] k (fun kq v7 v8 w' => ∃ (x7_1 : Int) (x8_1 : Int), v7 = .int .i64 x7_1 ∧ v8 = .int .i64 x8_1 ∧ Aside0 (spec_l02To.l0 kq l1 a2 x7_1 x8_1 l0_0 = some r) ∧ Aside0 (kq ≤ k) ∧ Aside0 (w'.heap[gb101]? = some (.cells #[(.slice A0_0 l0_0.length c0_0)] 26 (0, 0))) ∧ Aside0 (Below w.heap.size w w'))
 case atStart => exact ⟨(t103), (1), t2_, t2_, H', ⟨Nat.le_refl _⟩, ⟨bb_ BK101.out⟩, ⟨gb_ HB.out⟩⟩
 clear H'
 try clear c1
 try clear p1
 try clear q1
 try clear hx1
 try clear qi1
 try clear p2
 try clear c4
 try clear c4b0
 try clear c4b1
 try clear c6
 try clear c8
 try clear hx102_0
 try clear p102
 try clear q102
 obtain ⟨x7_1, x8_1, rfl, rfl, HA, HK1, BK101, HB⟩ := hrel
 obtain _ | k1 := gk
 ·exact absurd HA.out (by simp [spec_l02To.l0])
 have H := HA.out
 clear HA
 simp only [spec_l02To.l0] at H
 by_cases c9 : x8_1 < (l1.length : Int)
 rotate_left
 ·rw [if_neg c9] at H
  have c9b0 : decide (x8_1 < (l1.length : Int)) = false := decide_eq_false c9
  clear c9
  obtain rfl := Option.some.inj H
  go_wp2
  go_ret
  exact ⟨t5_, gb_ HB.out⟩
 rw [if_pos c9] at H
 have c9b0 : decide (x8_1 < (l1.length : Int)) = true := decide_eq_true c9
 clear c9
 by_cases c10 : 0 ≤ x8_1
 rotate_left
 ·rw [if_neg c10] at H
  exact absurd H (by simp)
 rw [if_pos c10] at H
 have c10b0 : decide (0 ≤ x8_1) = true := decide_eq_true c10
 clear c10
 replace H := Option.bind_eq_some_iff.mp H
 obtain ⟨t105, A110, H⟩ := H
 replace H : (spec_l02To.l0 k1 l1 a2 (mn x7_1 t105) (wrap64 (x8_1 + 1)) l0_0) = some r := H
 have A11 := Aside0.mk A110
 clear A110
 obtain ⟨ji12, hji12⟩ : ∃ j_ : Int, (mn x7_1 t105) = j_ := ⟨_, rfl⟩
 replace H : (spec_l02To.l0 k1 l1 a2 ji12 (wrap64 (x8_1 + 1)) l0_0) = some r := by first | (rw [hji12] at H; exact H) | (simp only [hji12] at H ⊢; exact H)
 (try rw [hji12] at A11)
 have hji12_ : (if t105 < x7_1 then t105 else x7_1) = ji12 := hji12
 have H' := Aside0.mk H
 clear H
 try go_wp2
 replace BK101 := Aside0.mk (blk_drew BK101.out)
 replace HB := Aside0.mk (below_drew1 HB.out)
 have p104 : 0 ≤ (x8_1 : Int) := of_decide_eq_true (by first | (with_reducible assumption) | assumption)
 have q104 : x8_1 < (l1.length : Int) := of_decide_eq_true (by first | (with_reducible assumption) | assumption)
 obtain ⟨ad104, e104, hx104_0⟩ := Kd.at_int HR1.out x8_1 p104 q104
 have hw104_0 := hx104_0
 obtain rfl : ad102 = ad104 := (by injection e104)
 replace hx104_0 := (HB.out.cell (World.block_lt_of_cell? _ _ hx104_0)).trans hx104_0
 replace p104 := eq_true p104
 replace q104 := eq_true q104
 refine start_ (n := 10) (S := fun w' => w'.cell? ⟨gb101, 0, none⟩ = some (.slice A0_0 l0_0.length c0_0) ∧ w'.cell? (ad102.add (x8_1).toNat) = some (.int .i64 (rd l1 x8_1))) (ds := []) #[false, false, false, false, false, false, false, false, false, false] (by kernel_rfl) rfl rfl ⟨(blk_cell BK101.out 0).trans rfl, ((HB.out.cell (World.block_lt_of_cell? _ _ hw104_0)).trans hw104_0)⟩ (fun hHeld => ?_); refine with_tabW spec_l02To.tab5 spec_l02To.bits5 (fun HT_ HW_ => ?_)
 generalize wr.drew = w13 at BK101 HB hx104_0 hHeld ⊢
 refine pure_ (i := 0) (N := some 21) (v := ?_) (a' := ?_) #[true, false, false, false, false, false, false, false, false, false] rfl rfl (any_of HT_.out (by kernel_rfl)) (fun _ _ _ h => h) (Or.inl ⟨by rfl, ?_⟩) ?_ ?_
 rotate_left
 ·intro w'
  go_simp
  with_reducible rfl
 rotate_left
 ·exact t4_
 refine pure_ (i := 2) (N := some 23) (v := ?_) (a' := ?_) #[true, false, true, false, false, false, false, false, false, false] rfl rfl (any_of HT_.out (by kernel_rfl)) (fun _ _ _ h => h) (Or.inl ⟨by rfl, ?_⟩) ?_ ?_
 rotate_left
 ·intro w'
  go_simp
  with_reducible rfl
 rotate_left
 ·exact t4_
 refine pure_ (i := 3) (N := some 24) (v := ?_) (a' := ?_) #[true, false, true, true, false, false, false, false, false, false] rfl rfl (any_of HT_.out (by kernel_rfl)) (fun _ _ _ h => h) (Or.inl ⟨by rfl, ?_⟩) ?_ ?_
 rotate_left
 ·intro w'
  go_simp
  with_reducible rfl
 rotate_left
 ·exact t4_
 refine pure_ (i := 4) (N := some 25) (v := ?_) (a' := ?_) #[true, false, true, true, true, false, false, false, false, false] rfl rfl (any_of HT_.out (by kernel_rfl)) (fun _ _ _ h => h) (Or.inl ⟨by rfl, ?_⟩) ?_ ?_
 rotate_left
 ·intro w'
  go_simp
  with_reducible rfl
 rotate_left
 ·exact t4_
 refine pure_ (i := 6) (N := some 27) (v := ?_) (a' := ?_) #[true, false, true, true, true, false, true, false, false, false] rfl rfl (any_of HT_.out (by kernel_rfl)) (fun _ _ _ h => h) (Or.inl ⟨by rfl, ?_⟩) ?_ ?_
 rotate_left
 ·intro w'
  go_simp
  with_reducible rfl
 rotate_left
 ·exact t4_
 refine take_ (i := 1) (N := some 22) (v := ?_) (a' := ?_) #[true, true, true, true, true, false, true, false, false, false] rfl rfl (take_ofW HT_.out HW_.out (by kernel_rfl)) (fun _ _ _ h => h) (Or.inl ⟨by rfl, ?_⟩) hHeld ?_ ?_
 rotate_left
 ·rintro w' ⟨s0, s1⟩
  go_simp
  with_reducible rfl
 rotate_left
 ·exact t4_
 refine take_ (i := 5) (N := some 26) (v := ?_) (a' := ?_) #[true, true, true, true, true, true, true, false, false, false] rfl rfl (take_ofW HT_.out HW_.out (by kernel_rfl)) (fun _ _ _ h => h) (Or.inl ⟨by rfl, ?_⟩) hHeld ?_ ?_
 rotate_left
 ·rintro w' ⟨s0, s1⟩
  go_simp
  with_reducible rfl
 rotate_left
 ·exact t4_
 refine one_ (i := 7) (N := some 28) #[true, true, true, true, true, true, true, true, false, false] rfl rfl (one_of HT_.out (by kernel_rfl)) (by decide) (fun K hK => ?_)
 refine goes_ Try.func61 (by kernel_rfl) rfl #[.agg #[.slice A0_0 l0_0.length c0_0], .int .i64 (rd l1 x8_1), .int .i64 a2] (by rfl) rfl rfl t1_ ?_
 with_reducible refine (spec_l01Distance.calls k1 _ _ l0_0 (rd l1 x8_1) a2 t105 _ ?side1 ?side2 A11.out).mono ?_
 (case side1 => exact c2_ HR0_0 HB)
 (case side2 => exact HC0_0.out)
 rintro e w14 ⟨rfl, hb⟩
 refine ⟨_, rfl, ?_⟩
 replace BK101 := a2_ BK101 hb
 replace HB := b1_ HB hb
 (try clear hb)
 (try clear hb2)
 (try clear hk)
 (try clear hi)
 refine hK.out _ _ ⟨(blk_cell BK101.out 0).trans rfl, ((HB.out.cell (World.block_lt_of_cell? _ _ hw104_0)).trans hw104_0)⟩ (fun hHeld => ?_)
 clear hK K
 refine norm_ (a' := ?_) ?_ ?_
 rotate_left
 ·show Act.put _ (some 28) _ = _
  simp only [Act.put, List.setIfInBounds_toArray, List.set_cons_zero, List.set_cons_succ, i64_w, i32_w]
  rfl
 refine pure_ (i := 8) (N := some 29) (v := ?_) (a' := ?_) #[true, true, true, true, true, true, true, true, true, false] rfl rfl (any_of HT_.out (by kernel_rfl)) (fun _ _ _ h => h) (Or.inl ⟨by rfl, ?_⟩) ?_ ?_
 rotate_left
 ·intro w'
  go_simp
  with_reducible rfl
 rotate_left
 ·exact t4_
 refine pure_ (i := 9) (N := some 7) (v := ?_) (a' := ?_) #[true, true, true, true, true, true, true, true, true, true] rfl rfl (any_of HT_.out (by kernel_rfl)) (fun _ _ _ h => h) (Or.inl ⟨by rfl, ?_⟩) ?_ ?_
 rotate_left
 ·intro w'
  go_simp
  with_reducible rfl
 rotate_left
 ·exact t4_
 refine done_ (done_of HT_.out (by kernel_rfl)) ?_
 try go_wp2
 go_roundg k1
 case measure => have := HK1.out; omega
 case rel => exact ⟨(ji12), (wrap64 (x8_1 + 1)), (by first | rfl | (simp; done) | (simp only [← hji12] <;> (first | rfl | simp)) | (simp [*]; done)), t2_, H', ⟨by have := HK1.out; omega⟩, ⟨bb_ BK101.out⟩, ⟨gb_ HB.out⟩⟩
end Go.Proofs.Ytlfipjdjmpdblaa.P
set_option linter.unusedVariables false
set_option linter.unusedSimpArgs false
namespace Go.Proofs.Ytlfipjdjmpdblaa.P
open Go.RowKit Go.Proofs.YtlfipjdjmpdblaaW.PrintWords Go.Proofs.YtlfipjdjmpdblaaW.PrintLast Go.Proofs.YtlfipjdjmpdblaaW.PrintMore CC
set_option maxHeartbeats 4000000 in
set_option maxRecDepth 100000 in
theorem distance_calls (A : Option Addr) (c : Nat) (s : List Int) (x y : Int) (w : World) (hr : Kd.C (Kd.int .i64) w A s.length s) (hc : s.length ≤ c) (hs : isSp s = true) (h0 : 0 ≤ x) (h1 : x ≤ 1024) (h2 : 0 ≤ y) (h3 : y ≤ 1024) :
    Calls Try.prog 60 #[.agg #[.slice A s.length c], .int .i64 x, .int .i64 y] w
      fun e w' => e = .returned (.int .i64 (ham (dig8 s x) (dig8 s y))) ∧ Below w.heap.size w w' := by
  have huS := Try.underlying26
  have HR := Aside0.mk hr
  have HS := Aside0.mk hs
  clear hr hs
  go_enter Try.func60, Try.ntmps60
  go_wp2_with fail
  have hcell : (w.alloc (.cells #[.slice A s.length c] 26)).cell? ⟨w.heap.size, 0, none⟩ = some (.slice A s.length c) := blk_cell (blk_new _ _) 0
  have hB : Below w.heap.size w (w.alloc (.cells #[.slice A s.length c] 26)) := (Below.refl _ _).alloc (Nat.le_refl _) _
  go_region_held3 (fun w' => w'.cell? ⟨w.heap.size, 0, none⟩ = some (.slice A s.length c) ∧ Below w.heap.size w w') (first | exact ⟨hcell, below_drew hB⟩ | exact keepS hb (by assumption))
    (first
      | (go_at_call 64; refine (digitsOf_calls A c s _ _ ?k1 hc HS.out (by omega) (by omega)).mono ?_; (case k1 => exact Kd.C_below HR.out (by first | assumption | exact (by assumption : _ ∧ Below _ _ _).2)); rintro e w' ⟨rfl, hb⟩)
      | (go_at_call 75; refine (far_calls (dig8_length _ _) (dig8_length _ _) _).mono ?_; rintro e w' ⟨rfl, hb⟩))
  go_wp2
  go_ret
  exact ⟨rfl, (by assumption : _ ∧ Below w.heap.size w _).2⟩
def impl_distance.f (l0_0 : List Int) (a1 a2 : Int) : Option Int := if isSp l0_0 = true ∧ isW l0_0 a1 = true ∧ isW l0_0 a2 = true then some (ham (dig8 l0_0 a1) (dig8 l0_0 a2)) else none
theorem isW_small {s : List Int} (hs : isSp s = true) {x : Int} (h : isW s x = true) : 0 ≤ x ∧ x ≤ 1024 := by
  have h1 := (isW_iff s x).1 h
  have h2 := isSp_prd hs
  omega
theorem impl_distance.calls (A0_0 : Option Addr) (c0_0 : Nat) (l0_0 : List Int) (a1 : Int) (a2 : Int) (r : Int) (w : World) (hr0_0 : Kd.C (Kd.int .i64) w A0_0 l0_0.length l0_0) (hc0_0 : l0_0.length ≤ c0_0) (h : impl_distance.f l0_0 a1 a2 = some r) :
    Calls Try.prog 60 #[.agg #[.slice A0_0 l0_0.length c0_0], .int .i64 a1, .int .i64 a2] w fun e w' => e = .returned (.int .i64 r) ∧ Below w.heap.size w w' := by
  unfold impl_distance.f at h
  split at h
  · rename_i hc
    obtain rfl := Option.some.inj h
    obtain ⟨hs, h1, h2⟩ := hc
    obtain ⟨g0, g1⟩ := isW_small hs h1
    obtain ⟨g2, g3⟩ := isW_small hs h2
    exact distance_calls A0_0 c0_0 l0_0 a1 a2 w hr0_0 hc0_0 hs g0 g1 g2 g3
  · cases h
end Go.Proofs.Ytlfipjdjmpdblaa.P
set_option linter.unusedVariables false
set_option linter.unusedSimpArgs false
namespace Go.Proofs.Ytlfipjdjmpdblaa.P
open Go.RowKit Go.Proofs.YtlfipjdjmpdblaaW.PrintWords Go.Proofs.YtlfipjdjmpdblaaW.PrintLast Go.Proofs.YtlfipjdjmpdblaaW.PrintMore CC
theorem infoD : (Try.prog.info? 54).map (fun i => (i.zero, i.size, i.bytes)) = some (some (.agg #[.int .u8 0, .int .u8 0, .int .u8 0, .int .u8 0, .int .u8 0, .int .u8 0, .int .u8 0, .int .u8 0]), 8, 8) := by kernel_rfl
def flat8 (L : List (List Int)) : List Value := (L.map (nums .u8)).flatten
def all8 (s : List Int) (n : Nat) : List (List Int) := (List.range n).map fun (i : Nat) => dig8 s (i : Int)
theorem all8_succ (s : List Int) (n : Nat) : all8 s (n + 1) = all8 s n ++ [dig8 s (n : Int)] := by simp [all8, List.range_succ]
theorem flat8_succ (s : List Int) (n : Nat) : flat8 (all8 s (n + 1)) = flat8 (all8 s n) ++ nums .u8 (dig8 s (n : Int)) := by simp [flat8, all8_succ]
set_option maxHeartbeats 4000000 in
set_option maxRecDepth 100000 in
theorem allDigits_calls (A : Option Addr) (c : Nat) (s : List Int) (w : World) (hr : Kd.C (Kd.int .i64) w A s.length s) (hc : s.length ≤ c) (hs : isSp s = true) (kc : Nat) (hcount : impl_count.f kc s = some (prd s)) :
    Calls Try.prog 99 #[.agg #[.slice A s.length c]] w
      fun e w' => ∃ v, e = .returned v ∧ w'.ownsRow w.heap.size 54 8 v (prd s).toNat (flat8 (all8 s (prd s).toNat)) ∧ Below w.heap.size w w' := by
  have huS := Try.underlying26
  have huD := Try.underlying54
  have HR := Aside0.mk hr
  have HS := Aside0.mk hs
  have p0 := isSp_prd1 hs
  have p1 := isSp_prd hs
  have HK := Aside0.mk hcount
  clear hr hs hcount
  obtain ⟨i0, hi, hz0, hz1, hz2⟩ := info_parts infoD
  have HI := Aside0.mk (And.intro hi (And.intro hz0 (And.intro hz1 hz2)))
  clear hi hz0 hz1 hz2
  go_enter Try.func99, Try.ntmps99
  go_wp2_with fail
  have hcell : ((w.alloc (.cells #[.slice A s.length c] 26)).alloc (.cells #[] 54)).heap[w.heap.size]? = some (.cells #[.slice A s.length c] 26 (0, 0)) := blk_alloc (blk_new _ _) _
  have hB : Below w.heap.size w ((w.alloc (.cells #[.slice A s.length c] 26)).alloc (.cells #[] 54)) := ((Below.refl _ _).alloc (Nat.le_refl _) _).alloc (by simp) _
  have hO : ((w.alloc (.cells #[.slice A s.length c] 26)).alloc (.cells #[] 54)).ownsRow w.heap.size 54 8 (.slice (some ⟨w.heap.size + 1, 0, none⟩) 0 0) 0 [] :=
    ⟨rfl, .inr ⟨w.heap.size + 1, 0, #[], rfl, by omega, by simpa using blk_new (w.alloc (.cells #[.slice A s.length c] 26)) (.cells #[] 54), by omega, by unfold maxLen; omega, rfl, rfl⟩⟩
  refine (impl_count.calls kc A c s (prd s) _ (Kd.C_below HR.out hB) hc HK.out).mono ?_
  rintro e w1 ⟨rfl, hb⟩
  have K1 := Aside0.mk (blk_below hcell hb)
  have B1 := Aside0.mk (below_then hB hB.size hb)
  have O1 := Aside0.mk (pw_own_below hO hb)
  clear hcell hB hO hb
  obtain ⟨P, hP⟩ : ∃ P : Nat, prd s = (P : Int) := ⟨(prd s).toNat, by omega⟩
  have HP := Aside0.mk hP
  have p2 : P ≤ 1024 := by omega
  rw [hP]
  clear hP
  have hk1 : w1.cell? ⟨w.heap.size, 0, none⟩ = some (.slice A s.length c) := blk_cell K1.out 0
  go_wp2_with fail
  clear hk1
  go_loopw [3, 8] (fun v i W => ∃ (n : Nat), n ≤ P ∧ i = .int .i64 n ∧ Aside0 (W.ownsRow w.heap.size 54 8 v n (flat8 (all8 s n))) ∧ Aside0 (W.heap[w.heap.size]? = some (.cells #[.slice A s.length c] 26 (0, 0))) ∧ Aside0 (Below w.heap.size w W)) (fun _ i _ => P - (intOf i).toNat)
  case atStart => exact ⟨0, by omega, rfl, ⟨O1.out⟩, K1, B1⟩
  case round =>
    obtain ⟨n, hn, rfl, HO, HC, HB⟩ := hrel
    clear K1 B1 O1
    by_cases hlt : n < P
    · have hcz : wr.cell? ⟨w.heap.size, 0, none⟩ = some (.slice A s.length c) := blk_cell HC.out 0
      go_wp2_with fail
      refine (digitsOf_calls A c s (n : Int) _ (Kd.C_below HR.out HB.out) hc HS.out (by omega) (by omega)).mono ?_
      rintro e w2 ⟨rfl, hb2⟩
      have O2 := Aside0.mk (pw_own_below HO.out hb2)
      have C2 := Aside0.mk (blk_below HC.out hb2)
      have B2 := Aside0.mk (below_then HB.out HB.out.size hb2)
      clear HO HC HB hcz hb2
      have E8 := Aside0.mk (dig8_length s (n : Int))
      have F8 := Aside0.mk (flat8_succ s n)
      change Aside0 ((dig8 s (n : Int)).length = 8) at E8
      have hd8 : dloop s s.length (n : Int) (List.replicate 8 0) = dig8 s (n : Int) := rfl
      rw [hd8]
      clear hd8
      generalize dig8 s (n : Int) = d at *
      obtain ⟨y0, y1, y2, y3, y4, y5, y6, y7, rfl⟩ := eight E8.out
      have ea : arr8 [y0, y1, y2, y3, y4, y5, y6, y7] = .agg #[.int .u8 y0, .int .u8 y1, .int .u8 y2, .int .u8 y3, .int .u8 y4, .int .u8 y5, .int .u8 y6, .int .u8 y7] := rfl
      rw [ea]
      clear ea
      go_wp2_with (at_builtin; obtain ⟨hi, hz0, hz1, hz2⟩ := HI.out; refine wpList_append_own _ rfl _ _ 78 rfl w.heap.size 54 i0 (.agg #[.int .u8 0, .int .u8 0, .int .u8 0, .int .u8 0, .int .u8 0, .int .u8 0, .int .u8 0, .int .u8 0]) 8 8 Try.underlying78 hi hz0 hz1 hz2 rfl (by decide) _ n (flat8 (all8 s n)) rfl (O2.out.alloc _) ⟨w2.heap.size, 0, none⟩ 1 1 [.int .u8 y0, .int .u8 y1, .int .u8 y2, .int .u8 y3, .int .u8 y4, .int .u8 y5, .int .u8 y6, .int .u8 y7] rfl ?c0 ?c1 ?c2 ?c3 ?c4 ?c5 ?_; clear hi hz0 hz1 hz2)
      case c0 => rfl
      case c1 =>
        intro j u hj
        have hb := blk_cell (blk_new w2 (.cells #[.int .u8 y0, .int .u8 y1, .int .u8 y2, .int .u8 y3, .int .u8 y4, .int .u8 y5, .int .u8 y6, .int .u8 y7] 54)) j
        rw [add_plain, hb]
        simpa using hj
      case c2 => intro u hu; simp only [List.mem_cons, List.not_mem_nil, or_false] at hu; rcases hu with rfl | rfl | rfl | rfl | rfl | rfl | rfl | rfl <;> rfl
      case c3 => unfold maxLen; omega
      case c4 => omega
      case c5 => have := B2.out.size; simp; omega
      intro v' w3 O3 G3 _
      have O4 : Aside0 (w3.ownsRow w.heap.size 54 8 v' (n + 1) (flat8 (all8 s (n + 1)))) := ⟨by rw [F8.out]; exact O3⟩
      have C3 := Aside0.mk (blk_grown (blk_alloc C2.out _) G3 (own_ne O2.out C2.out (by decide)))
      have B3 := Aside0.mk (pw_below_grown (below_alloc B2.out _) _ (by have := B2.out.size; simp; omega) G3 (fun k hk => own_base O2.out k hk))
      clear O3 G3 O2 C2 B2 F8 E8
      go_wp2
      go_roundw
      case rel => exact ⟨n + 1, by omega, by go_num, O4, C3, B3⟩
      case measure => simp [intOf]; omega
    · go_wp2
      go_ret
      have hn : n = P := by omega
      subst hn
      have e : (prd s).toNat = n := by have := HP.out; omega
      rw [e]
      exact ⟨_, rfl, HO.out, HB.out⟩
end Go.Proofs.Ytlfipjdjmpdblaa.P
set_option linter.unusedVariables false
set_option linter.unusedSimpArgs false
namespace Go.Proofs.Ytlfipjdjmpdblaa.P
open Go.RowKit Go.Proofs.YtlfipjdjmpdblaaW.PrintWords Go.Proofs.YtlfipjdjmpdblaaW.PrintLast Go.Proofs.YtlfipjdjmpdblaaW.PrintMore CC
def gr (a x : Int) : Int := if a < x then x else a
def maxQ (L : List Int) (n : Nat) : Int := (L.take n).foldl gr (rd L 0)
theorem take_rdM {d : List Int} {n : Nat} (hn : n < d.length) : d.take (n + 1) = d.take n ++ [rd d (n : Int)] := by
  rw [List.take_add_one]
  simp [rd, List.getD_eq_getElem?_getD, hn]
theorem maxQ_succ (L : List Int) {n : Nat} (h : n < L.length) : maxQ L (n + 1) = gr (maxQ L n) (rd L (n : Int)) := by
  unfold maxQ
  rw [take_rdM h, List.foldl_append]
  rfl
theorem maxQ_one (L : List Int) (h : 0 < L.length) : maxQ L 1 = rd L 0 := by
  rw [maxQ_succ L h]
  simp [maxQ, gr]
set_option maxHeartbeats 4000000 in
set_option maxRecDepth 100000 in
theorem max_calls (A : Option Addr) (c : Nat) (L : List Int) (w : World) (hr : Kd.C (Kd.int .i64) w A L.length L) (hc : L.length ≤ c) (hp : 0 < L.length) (hl : L.length ≤ 1048576) :
    Calls Try.prog 94 #[.slice A L.length c] w
      fun e w' => e = .returned (.int .i64 (maxQ L L.length)) ∧ Below w.heap.size w w' := by
  have HR := Aside0.mk hr
  have H1 := Aside0.mk (maxQ_one L hp)
  obtain ⟨ad, e1, hx0⟩ := Kd.at_int hr (0 : Int) (by omega) (by omega)
  subst e1
  have hx : w.cell? ad = some (.int .i64 (rd L 0)) := by
    have e : ad.add (Int.toNat 0) = ad := by first | rfl | simp [Addr.add] | (cases ad; simp [Addr.add])
    rw [e] at hx0
    exact hx0
  clear hr hx0
  go_enter Try.func94, Try.ntmps94
  go_wp2_with fail
  go_loop [3, 4] (fun t i => ∃ (n : Nat) (z : Int), 1 ≤ n ∧ n ≤ L.length ∧ i = .int .i64 n ∧ t = .int .i64 z ∧ Aside0 (z = maxQ L n)) (fun _ i => L.length - (intOf i).toNat)
  case atStart => exact ⟨1, _, by omega, by omega, rfl, rfl, ⟨H1.out.symm⟩⟩
  case round =>
    obtain ⟨n, z, hn1, hn, rfl, rfl, HZ⟩ := hrel
    by_cases hlt : n < L.length
    · have hy := rd_cell HR.out (Below.refl _ _) n hlt
      have HQ : Aside0 (gr z (rd L (n : Int)) = maxQ L (n + 1)) := ⟨by rw [maxQ_succ L hlt, HZ.out]⟩
      go_wp2_with fail
      go_round
      case rel => exact ⟨n + 1, _, by omega, by omega, by go_num, rfl, HQ⟩
      case measure => simp [intOf]; omega
    · go_wp2
      go_ret
      have hn2 : n = L.length := by omega
      subst hn2
      exact ⟨by rw [HZ.out]; rfl, Below.refl _ _⟩
def slices_Max_int64_int64.f (l0 : List Int) : Option Int := if 0 < l0.length ∧ l0.length ≤ 1048576 then some (maxQ l0 l0.length) else none
theorem slices_Max_int64_int64.calls (A0 : Option Addr) (c0 : Nat) (l0 : List Int) (r : Int) (w : World) (hr0 : Kd.C (Kd.int .i64) w A0 l0.length l0) (hc0 : l0.length ≤ c0) (h : slices_Max_int64_int64.f l0 = some r) :
    Calls Try.prog 94 #[.slice A0 l0.length c0] w fun e w' => e = .returned (.int .i64 r) ∧ Below w.heap.size w w' := by
  unfold slices_Max_int64_int64.f at h
  split at h
  · rename_i hc
    obtain rfl := Option.some.inj h
    exact max_calls A0 c0 l0 w hr0 hc0 hc.1 hc.2
  · cases h
end Go.Proofs.Ytlfipjdjmpdblaa.P
namespace Go.Proofs.Ytlfipjdjmpdblaa.P
open Go.RowKit Go.Proofs.YtlfipjdjmpdblaaW.PrintWords Go.Proofs.YtlfipjdjmpdblaaW.PrintLast Go.Proofs.YtlfipjdjmpdblaaW.PrintMore
attribute [local go_sem] max2_int min2_int max_two min_two max_three min_three max_four min_four
set_option linter.unusedVariables false
set_option linter.unusedSimpArgs false
def spec_l01Pick.f (s0_0 : List Int) (s0_1 : Int) (s0_2 : Int) (l1 : List Int) : Option (Int × Int × Int) := (spec_l01Next.f s0_0 s0_1 s0_2 (l1.length : Int)).bind fun bt101 => (if 0 ≤ bt101.1 then (if bt101.1 < (l1.length : Int) then (some (rd l1 bt101.1, bt101.2.1, bt101.2.2)) else (none)) else (none))
set_option maxHeartbeats 8000000 in
set_option maxRecDepth 100000 in
theorem spec_l01Pick.calls (g : Nat) (s0_0 : List Int) (s0_1 : Int) (s0_2 : Int) (A1 : Option Addr) (c1 : Nat) (l1 : List Int) (r1 : Int) (r2 : Int) (r3 : Int) (w0 w : World) (hI : IsS91 w0 w g s0_0 s0_1 s0_2) (hB : Below w0.heap.size w0 w) (hr1 : Kd.C (Kd.int .i64) w A1 l1.length l1) (hc1 : l1.length ≤ c1) (hf1 : ∀ ad, A1 = some ad → 0 < l1.length → ad.block ≠ g) (h : spec_l01Pick.f s0_0 s0_1 s0_2 l1 = some (r1, r2, r3)) :
  Calls Try.prog 82 #[.pointer (some ⟨g, 0, none⟩), .slice A1 l1.length c1] w fun e w' => e = .returned (.int .i64 r1) ∧ IsS91 w0 w' g s0_0 r2 r3 ∧ Below w0.heap.size w0 w' ∧ KeepBut w w' g none := by
 have HR1 := Aside0.mk hr1
 have HC1 := Aside0.mk hc1
 clear hr1 hc1
 have HI0 := Aside0.mk hI
 have HK := Aside0.mk (KeepBut.refl w g none)
 have HL := Aside0.mk hB.size
 clear hI
 have HW0 := Aside0.mk hB.size
 have HB := Aside0.mk hB
 clear hB
 have H : ((spec_l01Next.f s0_0 s0_1 s0_2 (l1.length : Int)).bind fun bt101 => (if 0 ≤ bt101.1 then (if bt101.1 < (l1.length : Int) then (some (rd l1 bt101.1, bt101.2.1, bt101.2.2)) else (none)) else (none))) = some (r1, r2, r3) := h
 clear h
 replace H := Option.bind_eq_some_iff.mp H
 obtain ⟨⟨t101, t102, t103⟩, A30, H⟩ := H
 replace H : (if 0 ≤ t101 then (if t101 < (l1.length : Int) then (some (rd l1 t101, t102, t103)) else (none)) else (none)) = some (r1, r2, r3) := H
 have A3 := Aside0.mk A30
 clear A30
 by_cases c4 : 0 ≤ t101
 rotate_left
 ·rw [if_neg c4] at H
  exact absurd H (by simp)

 rw [if_pos c4] at H
 have c4b0 : decide (0 ≤ t101) = true := decide_eq_true c4
 clear c4
 by_cases c5 : t101 < (l1.length : Int)
 rotate_left
 ·rw [if_neg c5] at H
  exact absurd H (by simp)
 rw [if_pos c5] at H
 have c5b0 : decide (t101 < (l1.length : Int)) = true := decide_eq_true c5
 clear c5
 simp only [Option.some.injEq, Prod.mk.injEq] at H
 obtain ⟨rfl, rfl, rfl⟩ := H
 go_enter Try.func82, Try.ntmps82
 go_wp2_with (first | ((with_reducible refine gate_callee (f := 85) rfl ?_); refine goesL_ (some 9) rfl rfl Try.func85 (by kernel_rfl) rfl #[.pointer (some ⟨g, 0, none⟩), .int .i64 (l1.length : Int)] rfl t1_ ?_; (with_reducible refine (spec_l01Next.calls g s0_0 s0_1 s0_2 (l1.length : Int) t101 t102 t103 w0 _ ?side1 ?side2 A3.out).mono ?_); (case side1 => exact i_ HI0); (case side2 => exact gb_ HB.out); rintro e w6 ⟨rfl, hi, hb, hk⟩; refine ⟨_, rfl, ?_⟩; replace HK := Aside0.mk (KeepBut.trans (kb_ HK) hk (.inl rfl)); replace HB := Aside0.mk (hb); replace HI0 := Aside0.mk (hi); (try clear hb); (try clear hb2); (try clear hk); (try clear hi); have p104 : 0 ≤ (t101 : Int) := of_decide_eq_true (by first | (with_reducible assumption) | assumption); have q104 : t101 < (l1.length : Int) := of_decide_eq_true (by first | (with_reducible assumption) | assumption); obtain ⟨ad104, e104, hx104_0⟩ := Kd.at_int HR1.out t101 p104 q104; cases e104; replace hx104_0 := keep_cell HK.out hx104_0 (by first | (rw [add_block]; exact hf1 _ rfl (by omega)) | exact hf1 _ rfl (by omega) | exact hf1 ad104 rfl (by omega)); replace p104 := eq_true p104; replace q104 := eq_true q104))
 go_ret
 exact ⟨t5_, i_ HI0, gb_ HB.out, kb_ HK⟩
end Go.Proofs.Ytlfipjdjmpdblaa.P
namespace Go.Proofs.Ytlfipjdjmpdblaa.P
open Go.RowKit Go.Proofs.YtlfipjdjmpdblaaW.PrintWords Go.Proofs.YtlfipjdjmpdblaaW.PrintLast Go.Proofs.YtlfipjdjmpdblaaW.PrintMore
attribute [local go_sem] max2_int min2_int max_two min_two max_three min_three max_four min_four
set_option linter.unusedVariables false
set_option linter.unusedSimpArgs false
def spec_l01Ball.l0 : Nat → Int → Int → List Int → Int → List Int → Option (List Int)
  | 0, _, _, _, _, _ => none
  | k + 1, x1, x2, x7, x8, x102000 => (spec_l01N.f k x102000).bind fun t105 => (if x8 < t105 then ((spec_l01Distance.f k x102000 x8 x1).bind fun t106 => (if t106 ≤ x2 then (if x7.length < 17592186044416 then (spec_l01Ball.l0 k x1 x2 (x7 ++ [x8]) (wrap64 (x8 + 1)) x102000) else (none)) else (spec_l01Ball.l0 k x1 x2 x7 (wrap64 (x8 + 1)) x102000))) else (some x7))
def spec_l01Ball.f (k : Nat) (l0_0 : List Int) (a1 : Int) (a2 : Int) : Option (List Int) := spec_l01Ball.l0 k a1 a2 (([] : List Int)) 0 l0_0
set_option maxHeartbeats 8000000 in
set_option maxRecDepth 100000 in
theorem spec_l01Ball.calls (k : Nat) (A0_0 : Option Addr) (c0_0 : Nat) (l0_0 : List Int) (a1 : Int) (a2 : Int) (r : List Int) (w : World) (hr0_0 : Kd.C (Kd.int .i64) w A0_0 l0_0.length l0_0) (hc0_0 : l0_0.length ≤ c0_0) (h : spec_l01Ball.f k l0_0 a1 a2 = some r) :
  Calls Try.prog 72 #[.agg #[.slice A0_0 l0_0.length c0_0], .int .i64 a1, .int .i64 a2] w fun e w' => ∃ v0_ : Value, e = .returned (v0_) ∧ Kd.R (Kd.int .i64) 2 w' w.heap.size (fun _ => True) v0_ r ∧ Below w.heap.size w w' := by
 have hu26 := Try.underlying26
 have HR0_0 := Aside0.mk hr0_0
 have HC0_0 := Aside0.mk hc0_0
 clear hr0_0 hc0_0
 have HB := Aside0.mk (Below.refl w.heap.size w)
 have H : (spec_l01Ball.l0 k a1 a2 (([] : List Int)) 0 l0_0) = some r := h
 clear h
 obtain ⟨y102, hy102⟩ : ∃ y_ : List Int, y_ = (([] : List Int)) := ⟨_, rfl⟩
 replace H : (spec_l01Ball.l0 k a1 a2 y102 0 l0_0) = some r := by first | (rw [hy102]; with_reducible exact H) | (have H2_ := (Option.bind_some _ _).symm.trans H; rw [hy102]; with_reducible exact H2_) | (have H2_ := (Option.bind_some _ _).symm.trans H; with_reducible exact H2_) | with_reducible exact H | (rw [hy102]; exact H) | exact H
 have Ny102 := Aside0.mk hy102
 clear hy102
 have H' := Aside0.mk H
 clear H
 go_enter Try.func72, Try.ntmps72
 go_wp2_with (first | ((with_reducible refine gate_dst (N := 3) rfl ?_); refine box_event ?hg (N := 3) ?hd (cs := #[.slice A0_0 l0_0.length c0_0]) (t := 26) ?hr ?_; (case hd => rfl); (case hg => rfl); (case hr => exact t3_); intro gb101 hg w4 hbox hb; have n0_ := b1_ HB hb; have n1_ := Aside0.mk (hbox); have n2_ := Aside0.mk ((by rw [hg]; exact (below_size (gb_ HB.out)) : w.heap.size ≤ gb101)); have n3_ := Aside0.mk ((by rw [hg]; exact (below_size (gb_ HB.out)) : w.heap.size ≤ gb101)); clear HB; have HB := n0_; have BK101 := n1_; have GW101 := n2_; have GE101 := n3_; clear n0_ n1_ n2_ n3_ hb hbox hg) | ((with_reducible refine gate_dst (N := 9) rfl ?_); refine Kd.R_lit (Kd.int .i64) _ 2 ?hg (N := 9) ?hd (xs := ([] : List Int)) (inner := []) (ok := fun _ => True) (okp := fun _ => True) ?hr ?hp (fun _ hk => hk) trivial (Below.refl _ _) (Nat.le_refl _) (by simp) ?_; (case hd => rfl); (case hg => rfl); (case hr => exact t3_); (case hp => exact (Reps.none _ _)); intro v103 w5 ho6 hb hg_ hnew_; clear hg_ hnew_; (first | rw [← Ny102.out] at ho6 | (simp only [Int.reduceToNat] at ho6; rw [← Ny102.out] at ho6)); have n0_ := Aside0.mk (Kd.R_lower ho6 (below_size (gb_ HB.out))); have n1_ := a2_ BK101 hb; have n2_ := b1_ HB hb; clear BK101 HB; have HO104 := n0_; have BK101 := n1_; have HB := n2_; clear n0_ n1_ n2_ hb ho6))
 go_loopg [7, 8] k (fun kq v7 v8 w' => ∃ (x7_1 : List Int) (x8_1 : Int), v8 = .int .i64 x8_1 ∧ Aside0 (spec_l01Ball.l0 kq a1 a2 x7_1 x8_1 l0_0 = some r) ∧ Aside0 (kq ≤ k) ∧ Aside0 (Kd.R (Kd.int .i64) 2 w' w.heap.size (fun _ => True) v7 x7_1) ∧ Aside0 (w'.heap[gb101]? = some (.cells #[(.slice A0_0 l0_0.length c0_0)] 26 (0, 0))) ∧ Aside0 (Below w.heap.size w w'))
 case atStart => exact ⟨(y102), (0), t2_, H', ⟨Nat.le_refl _⟩, ⟨rb_ HO104.out⟩, ⟨bb_ BK101.out⟩, ⟨gb_ HB.out⟩⟩
 clear H'
 try clear p2
 obtain ⟨x7_1, x8_1, rfl, HA, HK1, HO_7, BK101, HB⟩ := hrel
 obtain _ | k1 := gk
 ·exact absurd HA.out (by simp [spec_l01Ball.l0])
 have H := HA.out
 clear HA
 simp only [spec_l01Ball.l0] at H
 replace H := Option.bind_eq_some_iff.mp H
 obtain ⟨t105, A70, H⟩ := H
 replace H : (if x8_1 < t105 then ((spec_l01Distance.f k1 l0_0 x8_1 a1).bind fun t106 => (if t106 ≤ a2 then (if x7_1.length < 17592186044416 then (spec_l01Ball.l0 k1 a1 a2 (x7_1 ++ [x8_1]) (wrap64 (x8_1 + 1)) l0_0) else (none)) else (spec_l01Ball.l0 k1 a1 a2 x7_1 (wrap64 (x8_1 + 1)) l0_0))) else (some x7_1)) = some r := H
 have A7 := Aside0.mk A70
 clear A70
 by_cases c8 : x8_1 < t105
 rotate_left
 ·rw [if_neg c8] at H
  have c8b0 : decide (x8_1 < t105) = false := decide_eq_false c8
  clear c8
  obtain rfl := Option.some.inj H
  have hcz21_0 : wr.cell? ⟨gb101, 0, none⟩ = some (.slice A0_0 l0_0.length c0_0) := (blk_cell BK101.out 0).trans rfl
  have hfz21_0 := blk_frozen BK101.out 0
  go_wp2_with (first | ((with_reducible refine gate_callee (f := 76) rfl ?_); refine goesL_ (some 12) rfl rfl Try.func76 (by kernel_rfl) rfl #[.agg #[.slice A0_0 l0_0.length c0_0]] rfl t1_ ?_; (with_reducible refine (spec_l01N.calls k1 _ _ l0_0 t105 _ ?side1 ?side2 A7.out).mono ?_); (case side1 => exact c2_ HR0_0 HB); (case side2 => exact HC0_0.out); rintro e w22 ⟨rfl, hb⟩; refine ⟨_, rfl, ?_⟩; replace HO_7 := a1_ HO_7 hb; replace BK101 := a2_ BK101 hb; replace HB := b1_ HB hb; (try clear hb); (try clear hb2); (try clear hk); (try clear hi)))
  go_ret
  exact ⟨_, t5_, rb_ HO_7.out, gb_ HB.out⟩

 rw [if_pos c8] at H
 have c8b0 : decide (x8_1 < t105) = true := decide_eq_true c8
 clear c8
 replace H := Option.bind_eq_some_iff.mp H
 obtain ⟨t106, A90, H⟩ := H
 replace H : (if t106 ≤ a2 then (if x7_1.length < 17592186044416 then (spec_l01Ball.l0 k1 a1 a2 (x7_1 ++ [x8_1]) (wrap64 (x8_1 + 1)) l0_0) else (none)) else (spec_l01Ball.l0 k1 a1 a2 x7_1 (wrap64 (x8_1 + 1)) l0_0)) = some r := H
 have A9 := Aside0.mk A90
 clear A90
 by_cases c10 : t106 ≤ a2
 rotate_left
 ·rw [if_neg c10] at H
  have c10b0 : decide (t106 ≤ a2) = false := decide_eq_false c10
  clear c10
  have H' := Aside0.mk H
  clear H
  have hcz17_0 : wr.cell? ⟨gb101, 0, none⟩ = some (.slice A0_0 l0_0.length c0_0) := (blk_cell BK101.out 0).trans rfl
  have hfz17_0 := blk_frozen BK101.out 0
  go_wp2_with (first | ((with_reducible refine gate_callee (f := 76) rfl ?_); refine goesL_ (some 12) rfl rfl Try.func76 (by kernel_rfl) rfl #[.agg #[.slice A0_0 l0_0.length c0_0]] rfl t1_ ?_; (with_reducible refine (spec_l01N.calls k1 _ _ l0_0 t105 _ ?side1 ?side2 A7.out).mono ?_); (case side1 => exact c2_ HR0_0 HB); (case side2 => exact HC0_0.out); rintro e w18 ⟨rfl, hb⟩; refine ⟨_, rfl, ?_⟩; replace HO_7 := a1_ HO_7 hb; replace BK101 := a2_ BK101 hb; replace HB := b1_ HB hb; (try clear hb); (try clear hb2); (try clear hk); (try clear hi); have hcz19_0 : w18.cell? ⟨gb101, 0, none⟩ = some (.slice A0_0 l0_0.length c0_0) := (blk_cell BK101.out 0).trans rfl; have hfz19_0 := blk_frozen BK101.out 0) | ((with_reducible refine gate_callee (f := 61) rfl ?_); refine goesL_ (some 19) rfl rfl Try.func61 (by kernel_rfl) rfl #[.agg #[.slice A0_0 l0_0.length c0_0], .int .i64 x8_1, .int .i64 a1] rfl t1_ ?_; (with_reducible refine (spec_l01Distance.calls k1 _ _ l0_0 x8_1 a1 t106 _ ?side1 ?side2 A9.out).mono ?_); (case side1 => exact c2_ HR0_0 HB); (case side2 => exact HC0_0.out); rintro e w20 ⟨rfl, hb⟩; refine ⟨_, rfl, ?_⟩; replace HO_7 := a1_ HO_7 hb; replace BK101 := a2_ BK101 hb; replace HB := b1_ HB hb; (try clear hb); (try clear hb2); (try clear hk); (try clear hi)))
  go_roundg k1
  case measure => have := HK1.out; omega
  case rel => exact ⟨(x7_1), (wrap64 (x8_1 + 1)), t2_, H', ⟨by have := HK1.out; omega⟩, ⟨rb_ HO_7.out⟩, ⟨bb_ BK101.out⟩, ⟨gb_ HB.out⟩⟩
 rw [if_pos c10] at H
 have c10b0 : decide (t106 ≤ a2) = true := decide_eq_true c10
 clear c10
 by_cases c11 : x7_1.length < 17592186044416
 rotate_left
 ·rw [if_neg c11] at H
  exact absurd H (by simp)
 rw [if_pos c11] at H
 have LMc11 := Aside0.mk c11
 clear c11
 obtain ⟨y107, hy107⟩ : ∃ y_ : List Int, y_ = (x7_1 ++ [x8_1]) := ⟨_, rfl⟩
 replace H : (spec_l01Ball.l0 k1 a1 a2 y107 (wrap64 (x8_1 + 1)) l0_0) = some r := by first | (rw [hy107]; with_reducible exact H) | (have H2_ := (Option.bind_some _ _).symm.trans H; rw [hy107]; with_reducible exact H2_) | (have H2_ := (Option.bind_some _ _).symm.trans H; with_reducible exact H2_) | with_reducible exact H | (rw [hy107]; exact H) | exact H
 have Ny107 := Aside0.mk hy107
 clear hy107
 have H' := Aside0.mk H
 clear H
 have hcz12_0 : wr.cell? ⟨gb101, 0, none⟩ = some (.slice A0_0 l0_0.length c0_0) := (blk_cell BK101.out 0).trans rfl
 have hfz12_0 := blk_frozen BK101.out 0
 go_wp2_with (first | ((with_reducible refine gate_callee (f := 76) rfl ?_); refine goesL_ (some 12) rfl rfl Try.func76 (by kernel_rfl) rfl #[.agg #[.slice A0_0 l0_0.length c0_0]] rfl t1_ ?_; (with_reducible refine (spec_l01N.calls k1 _ _ l0_0 t105 _ ?side1 ?side2 A7.out).mono ?_); (case side1 => exact c2_ HR0_0 HB); (case side2 => exact HC0_0.out); rintro e w13 ⟨rfl, hb⟩; refine ⟨_, rfl, ?_⟩; replace HO_7 := a1_ HO_7 hb; replace BK101 := a2_ BK101 hb; replace HB := b1_ HB hb; (try clear hb); (try clear hb2); (try clear hk); (try clear hi); have hcz14_0 : w13.cell? ⟨gb101, 0, none⟩ = some (.slice A0_0 l0_0.length c0_0) := (blk_cell BK101.out 0).trans rfl; have hfz14_0 := blk_frozen BK101.out 0) | ((with_reducible refine gate_callee (f := 61) rfl ?_); refine goesL_ (some 19) rfl rfl Try.func61 (by kernel_rfl) rfl #[.agg #[.slice A0_0 l0_0.length c0_0], .int .i64 x8_1, .int .i64 a1] rfl t1_ ?_; (with_reducible refine (spec_l01Distance.calls k1 _ _ l0_0 x8_1 a1 t106 _ ?side1 ?side2 A9.out).mono ?_); (case side1 => exact c2_ HR0_0 HB); (case side2 => exact HC0_0.out); rintro e w15 ⟨rfl, hb⟩; refine ⟨_, rfl, ?_⟩; replace HO_7 := a1_ HO_7 hb; replace BK101 := a2_ BK101 hb; replace HB := b1_ HB hb; (try clear hb); (try clear hb2); (try clear hk); (try clear hi)) | ((with_reducible refine gate_builtin (b := .append) (xs := #[.tmp 22, .tmp 24]) rfl ?_); at_builtin; refine Kd.R_append (Kd.int .i64) (w0 := w) w.heap.size rfl (.tmp 22) (.tmp 24) 24 2 (.int .i64 0) 8 rfl Try.underlying24 info2 rfl (by decide) (by omega) u7 x7_1 x8_1 [.int .i64 x8_1] (fun _ => True) (fun _ => False) rfl rfl ?aP (fun _ hk => hk.elim) ?aF ?aO ?aB ?aS ?aL ?_; (case aP => exact rfl); (case aB => exact (gb_ HB.out)); (case aF => exact (fun _ _ => trivial)); (case aO => exact (rb_ HO_7.out)); (case aS => exact (below_size (gb_ HB.out))); (case aL => have := LMc11.out; omega); intro v108 w16 ho hb hg hat; rw [← Ny107.out] at ho; have n0_ := Aside0.mk (blk_grown (g := gb101) (o := .cells #[.slice A0_0 l0_0.length c0_0] 26 (0, 0)) (bb_ BK101.out) hg (Kd.R_ne HO_7.out BK101.out (by decide))); have n1_ := Aside0.mk (hb); have n2_ := Aside0.mk (ho); clear BK101 HB HO_7; have BK101 := n0_; have HB := n1_; have HO109 := n2_; clear n0_ n1_ n2_ ho hb hg hat))
 go_roundg k1
 case measure => have := HK1.out; omega
 case rel => exact ⟨(y107), (wrap64 (x8_1 + 1)), t2_, H', ⟨by have := HK1.out; omega⟩, ⟨rb_ HO109.out⟩, ⟨bb_ BK101.out⟩, ⟨gb_ HB.out⟩⟩
end Go.Proofs.Ytlfipjdjmpdblaa.P
namespace Go.Proofs.Ytlfipjdjmpdblaa.P
open Go.RowKit Go.Proofs.YtlfipjdjmpdblaaW.PrintWords Go.Proofs.YtlfipjdjmpdblaaW.PrintLast Go.Proofs.YtlfipjdjmpdblaaW.PrintMore
attribute [local go_sem] max2_int min2_int max_two min_two max_three min_three max_four min_four
set_option linter.unusedVariables false
set_option linter.unusedSimpArgs false
def impl_NearestWords.l0 : Nat → Int → List Int → Int → List Int → Int → Int → List Int → Option (List Int × Int)
  | 0, _, _, _, _, _, _, _ => none
  | k + 1, x2, x9, x10, x23, x24, x25, x102000 => if x25 < x24 then (if 0 ≤ x25 then (if x25 < (x23.length : Int) then ((impl_distance.f x102000 (rd x23 x25) x2).bind fun t110 => (if t110 < x10 then ((some (([] : List Int) : List Int)).bind fun y111 => (if t110 = t110 then (if y111.length < 17592186044416 then (impl_NearestWords.l0 k x2 (y111 ++ [rd x23 x25]) t110 x23 x24 (wrap64 (x25 + 1)) x102000) else (none)) else (impl_NearestWords.l0 k x2 y111 t110 x23 x24 (wrap64 (x25 + 1)) x102000))) else (if t110 = x10 then (if x9.length < 17592186044416 then (impl_NearestWords.l0 k x2 (x9 ++ [rd x23 x25]) x10 x23 x24 (wrap64 (x25 + 1)) x102000) else (none)) else (impl_NearestWords.l0 k x2 x9 x10 x23 x24 (wrap64 (x25 + 1)) x102000)))) else (none)) else (none)) else (some (x9, 0))
def impl_NearestWords.f (k : Nat) (l0_0 : List Int) (l1 : List Int) (a2 : Int) : Option (List Int × Int) := (impl_codeCode.f k l0_0 l1 (([a2] : List Int))).bind fun t105 => (if t105 = 0 then (impl_NearestWords.l0 k a2 (([] : List Int)) 9 l1 (l1.length : Int) 0 l0_0) else (some (([] : List Int), t105)))
set_option maxHeartbeats 8000000 in
set_option maxRecDepth 100000 in
theorem impl_NearestWords.calls (k : Nat) (A0_0 : Option Addr) (c0_0 : Nat) (l0_0 : List Int) (A1 : Option Addr) (c1 : Nat) (l1 : List Int) (a2 : Int) (r1 : List Int) (r2 : Int) (w : World) (hr0_0 : Kd.C (Kd.int .i64) w A0_0 l0_0.length l0_0) (hc0_0 : l0_0.length ≤ c0_0) (hr1 : Kd.C (Kd.int .i64) w A1 l1.length l1) (hc1 : l1.length ≤ c1) (h : impl_NearestWords.f k l0_0 l1 a2 = some (r1, r2)) :
  Calls Try.prog 36 #[.agg #[.slice A0_0 l0_0.length c0_0], .slice A1 l1.length c1, .int .i64 a2] w fun e w' => ∃ v0_ : Value, e = .returned (.tuple #[v0_, .int .i64 r2]) ∧ Kd.R (Kd.int .i64) 2 w' w.heap.size (fun _ => True) v0_ r1 ∧ Below w.heap.size w w' := by
 have hu26 := Try.underlying26
 have HR0_0 := Aside0.mk hr0_0
 have HC0_0 := Aside0.mk hc0_0
 clear hr0_0 hc0_0
 have HR1 := Aside0.mk hr1
 have HC1 := Aside0.mk hc1
 clear hr1 hc1
 have HB := Aside0.mk (Below.refl w.heap.size w)
 have H : ((impl_codeCode.f k l0_0 l1 (([a2] : List Int))).bind fun t105 => (if t105 = 0 then (impl_NearestWords.l0 k a2 (([] : List Int)) 9 l1 (l1.length : Int) 0 l0_0) else (some (([] : List Int), t105)))) = some (r1, r2) := h
 clear h
 obtain ⟨y102, hy102⟩ : ∃ y_ : List Int, y_ = (([a2] : List Int)) := ⟨_, rfl⟩
 replace H : ((impl_codeCode.f k l0_0 l1 y102).bind fun t105 => (if t105 = 0 then (impl_NearestWords.l0 k a2 (([] : List Int)) 9 l1 (l1.length : Int) 0 l0_0) else (some (([] : List Int), t105)))) = some (r1, r2) := by first | (rw [hy102]; with_reducible exact H) | (have H2_ := (Option.bind_some _ _).symm.trans H; rw [hy102]; with_reducible exact H2_) | (have H2_ := (Option.bind_some _ _).symm.trans H; with_reducible exact H2_) | with_reducible exact H | (rw [hy102]; exact H) | exact H
 have Ny102 := Aside0.mk hy102
 clear hy102
 replace H := Option.bind_eq_some_iff.mp H
 obtain ⟨t105, A40, H⟩ := H
 replace H : (if t105 = 0 then (impl_NearestWords.l0 k a2 (([] : List Int)) 9 l1 (l1.length : Int) 0 l0_0) else (some (([] : List Int), t105))) = some (r1, r2) := H
 have A4 := Aside0.mk A40
 clear A40
 by_cases c5 : t105 = 0
 rotate_left
 ·rw [if_neg c5] at H
  have c5b0 : (t105 == 0) = false := beq_eq_false_iff_ne.mpr c5
  have c5b1 : (t105 != 0) = true := bne_iff_ne.mpr c5
  simp only [Option.some.injEq, Prod.mk.injEq] at H
  obtain ⟨rfl, rfl⟩ := H
  go_enter Try.func36, Try.ntmps36
  go_wp2_with (first | ((with_reducible refine gate_dst (N := 3) rfl ?_); refine box_event ?hg (N := 3) ?hd (cs := #[.slice A0_0 l0_0.length c0_0]) (t := 26) ?hr ?_; (case hd => rfl); (case hg => rfl); (case hr => exact t3_); intro gb101 hg w37 hbox hb; have n0_ := b1_ HB hb; have n1_ := Aside0.mk (hbox); have n2_ := Aside0.mk ((by rw [hg]; exact (below_size (gb_ HB.out)) : w.heap.size ≤ gb101)); have n3_ := Aside0.mk ((by rw [hg]; exact (below_size (gb_ HB.out)) : w.heap.size ≤ gb101)); clear HB; have HB := n0_; have BK101 := n1_; have GW101 := n2_; have GE101 := n3_; clear n0_ n1_ n2_ n3_ hb hbox hg; have hcz38_0 : w37.cell? ⟨gb101, 0, none⟩ = some (.slice A0_0 l0_0.length c0_0) := (blk_cell BK101.out 0).trans rfl; have hfz38_0 := blk_frozen BK101.out 0) | ((with_reducible refine gate_dst (N := 17) rfl ?_); refine Kd.R_lit (Kd.int .i64) _ 2 ?hg (N := 17) ?hd (xs := ([a2] : List Int)) (inner := [.int .i64 a2]) (ok := fun _ => True) (okp := fun _ => True) ?hr ?hp (fun _ hk => hk) trivial (Below.refl _ _) (Nat.le_refl _) (by simp) ?_; (case hd => rfl); (case hg => rfl); (case hr => exact t3_); (case hp => exact (Reps.one (show Kd.M (Kd.int .i64) _ _ _ a2 [.int .i64 a2] from rfl) (Reps.none _ _))); intro v103 w39 ho40 hb hg_ hnew_; clear hg_ hnew_; (first | rw [← Ny102.out] at ho40 | (simp only [Int.reduceToNat] at ho40; rw [← Ny102.out] at ho40)); have n0_ := Aside0.mk (Kd.R_lower ho40 (below_size (gb_ HB.out))); have n1_ := a2_ BK101 hb; have n2_ := b1_ HB hb; clear BK101 HB; have HO104 := n0_; have BK101 := n1_; have HB := n2_; clear n0_ n1_ n2_ hb ho40; obtain ⟨Ao41, co41, eo41⟩ := Kd.R_slice HO104.out; subst eo41) | ((with_reducible refine gate_callee (f := 87) rfl ?_); refine goesL_ (some 18) rfl rfl Try.func87 (by kernel_rfl) rfl #[.agg #[.slice A0_0 l0_0.length c0_0], .slice A1 l1.length c1, .slice Ao41 y102.length co41] rfl t1_ ?_; (with_reducible refine (impl_codeCode.calls k _ _ l0_0 _ _ l1 _ _ y102 t105 _ ?side1 ?side2 ?side3 ?side4 ?side5 ?side6 A4.out).mono ?_); (case side1 => exact c2_ HR0_0 HB); (case side2 => exact HC0_0.out); (case side3 => exact c2_ HR1 HB); (case side4 => exact HC1.out); (case side5 => exact c1_ HO104); (case side6 => exact (Kd.R_reads' HO104.out).2.1); rintro e w42 ⟨rfl, hb⟩; refine ⟨_, rfl, ?_⟩; replace HO104 := a1_ HO104 hb; replace BK101 := a2_ BK101 hb; replace HB := b1_ HB hb; (try clear hb); (try clear hb2); (try clear hk); (try clear hi)))
  go_ret2
  exact ⟨_, t5_, by first | exact Kd.R_nil _ _ _ _ _ | exact Kd.N_nil _ _ _ _ _ | exact Kd.V_nil _ _ _ _ _ | exact Kd.Q_nil _ _ _ _ _ | exact Kd.S_nil _ _ _ _ _, gb_ HB.out⟩

 rw [if_pos c5] at H
 have c5b0 : (t105 == 0) = true := beq_iff_eq.mpr c5
 have c5b1 : (t105 != 0) = false := bne_eq_false_iff_eq.mpr c5
 clear c5
 obtain ⟨y106, hy106⟩ : ∃ y_ : List Int, y_ = (([] : List Int)) := ⟨_, rfl⟩
 replace H : (impl_NearestWords.l0 k a2 y106 9 l1 (l1.length : Int) 0 l0_0) = some (r1, r2) := by first | (rw [hy106]; with_reducible exact H) | (have H2_ := (Option.bind_some _ _).symm.trans H; rw [hy106]; with_reducible exact H2_) | (have H2_ := (Option.bind_some _ _).symm.trans H; with_reducible exact H2_) | with_reducible exact H | (rw [hy106]; exact H) | exact H
 have Ny106 := Aside0.mk hy106
 clear hy106
 have H' := Aside0.mk H
 clear H
 go_enter Try.func36, Try.ntmps36
 go_wp2_with (first | ((with_reducible refine gate_dst (N := 3) rfl ?_); refine box_event ?hg (N := 3) ?hd (cs := #[.slice A0_0 l0_0.length c0_0]) (t := 26) ?hr ?_; (case hd => rfl); (case hg => rfl); (case hr => exact t3_); intro gb101 hg w6 hbox hb; have n0_ := b1_ HB hb; have n1_ := Aside0.mk (hbox); have n2_ := Aside0.mk ((by rw [hg]; exact (below_size (gb_ HB.out)) : w.heap.size ≤ gb101)); have n3_ := Aside0.mk ((by rw [hg]; exact (below_size (gb_ HB.out)) : w.heap.size ≤ gb101)); clear HB; have HB := n0_; have BK101 := n1_; have GW101 := n2_; have GE101 := n3_; clear n0_ n1_ n2_ n3_ hb hbox hg; have hcz7_0 : w6.cell? ⟨gb101, 0, none⟩ = some (.slice A0_0 l0_0.length c0_0) := (blk_cell BK101.out 0).trans rfl; have hfz7_0 := blk_frozen BK101.out 0) | ((with_reducible refine gate_dst (N := 17) rfl ?_); refine Kd.R_lit (Kd.int .i64) _ 2 ?hg (N := 17) ?hd (xs := ([a2] : List Int)) (inner := [.int .i64 a2]) (ok := fun _ => True) (okp := fun _ => True) ?hr ?hp (fun _ hk => hk) trivial (Below.refl _ _) (Nat.le_refl _) (by simp) ?_; (case hd => rfl); (case hg => rfl); (case hr => exact t3_); (case hp => exact (Reps.one (show Kd.M (Kd.int .i64) _ _ _ a2 [.int .i64 a2] from rfl) (Reps.none _ _))); intro v103 w8 ho9 hb hg_ hnew_; clear hg_ hnew_; (first | rw [← Ny102.out] at ho9 | (simp only [Int.reduceToNat] at ho9; rw [← Ny102.out] at ho9)); have n0_ := Aside0.mk (Kd.R_lower ho9 (below_size (gb_ HB.out))); have n1_ := a2_ BK101 hb; have n2_ := b1_ HB hb; clear BK101 HB; have HO104 := n0_; have BK101 := n1_; have HB := n2_; clear n0_ n1_ n2_ hb ho9; obtain ⟨Ao10, co10, eo10⟩ := Kd.R_slice HO104.out; subst eo10) | ((with_reducible refine gate_callee (f := 87) rfl ?_); refine goesL_ (some 18) rfl rfl Try.func87 (by kernel_rfl) rfl #[.agg #[.slice A0_0 l0_0.length c0_0], .slice A1 l1.length c1, .slice Ao10 y102.length co10] rfl t1_ ?_; (with_reducible refine (impl_codeCode.calls k _ _ l0_0 _ _ l1 _ _ y102 t105 _ ?side1 ?side2 ?side3 ?side4 ?side5 ?side6 A4.out).mono ?_); (case side1 => exact c2_ HR0_0 HB); (case side2 => exact HC0_0.out); (case side3 => exact c2_ HR1 HB); (case side4 => exact HC1.out); (case side5 => exact c1_ HO104); (case side6 => exact (Kd.R_reads' HO104.out).2.1); rintro e w11 ⟨rfl, hb⟩; refine ⟨_, rfl, ?_⟩; replace HO104 := a1_ HO104 hb; replace BK101 := a2_ BK101 hb; replace HB := b1_ HB hb; (try clear hb); (try clear hb2); (try clear hk); (try clear hi)) | ((with_reducible refine gate_dst (N := 22) rfl ?_); refine Kd.R_lit (Kd.int .i64) _ 2 ?hg (N := 22) ?hd (xs := ([] : List Int)) (inner := []) (ok := fun _ => True) (okp := fun _ => True) ?hr ?hp (fun _ hk => hk) trivial (Below.refl _ _) (Nat.le_refl _) (by simp) ?_; (case hd => rfl); (case hg => rfl); (case hr => exact t3_); (case hp => exact (Reps.none _ _)); intro v107 w12 ho13 hb hg_ hnew_; clear hg_ hnew_; (first | rw [← Ny106.out] at ho13 | (simp only [Int.reduceToNat] at ho13; rw [← Ny106.out] at ho13)); have n0_ := a5_ HO104 ho13 hb; have n1_ := Aside0.mk (Kd.R_lower (Kd.R_new' ho13 (Kd.R_lt (rb_ HO104.out))) (below_size (gb_ HB.out))); have n2_ := a2_ BK101 hb; have n3_ := b1_ HB hb; clear HO104 BK101 HB; have HO104 := n0_; have HO108 := n1_; have BK101 := n2_; have HB := n3_; clear n0_ n1_ n2_ n3_ hb ho13))
 go_loopg [9, 10, 25] k (fun kq v9 v10 v25 w' => ∃ (x9_1 : List Int) (x10_1 : Int) (x25_1 : Int), v10 = .int .i64 x10_1 ∧ v25 = .int .i64 x25_1 ∧ Aside0 (impl_NearestWords.l0 kq a2 x9_1 x10_1 l1 (l1.length : Int) x25_1 l0_0 = some (r1, r2)) ∧ Aside0 (kq ≤ k) ∧ Aside0 (Kd.R (Kd.int .i64) 2 w' w.heap.size (fun _ => True) v9 x9_1) ∧ Aside0 (w'.heap[gb101]? = some (.cells #[(.slice A0_0 l0_0.length c0_0)] 26 (0, 0))) ∧ Aside0 (Below w.heap.size w w'))
 case atStart => exact ⟨(y106), (9), (0), t2_, t2_, H', ⟨Nat.le_refl _⟩, ⟨by (with_reducible repeat (first | apply Kd.R_alloc | apply Kd.R_drewN | apply Kd.R_drew)); exact Kd.R_mono HO108.out (fun _ hk => trivial)⟩, ⟨bb_ BK101.out⟩, ⟨gb_ HB.out⟩⟩
 clear H'
 try clear c1
 try clear p2
 try clear c3
 try clear c5
 try clear c5b0
 try clear c5b1
 try clear c8
 try clear hcz7_0
 try clear hfz7_0
 obtain ⟨x9_1, x10_1, x25_1, rfl, rfl, HA, HK1, HO_9, BK101, HB⟩ := hrel
 obtain _ | k1 := gk
 ·exact absurd HA.out (by simp [impl_NearestWords.l0])
 have H := HA.out
 clear HA
 simp only [impl_NearestWords.l0] at H
 by_cases c14 : x25_1 < (l1.length : Int)
 rotate_left
 ·rw [if_neg c14] at H
  have c14b0 : decide (x25_1 < (l1.length : Int)) = false := decide_eq_false c14
  clear c14
  simp only [Option.some.injEq, Prod.mk.injEq] at H
  obtain ⟨rfl, rfl⟩ := H
  go_wp2
  go_ret2
  exact ⟨_, t5_, rb_ HO_9.out, gb_ HB.out⟩
 rw [if_pos c14] at H
 have c14b0 : decide (x25_1 < (l1.length : Int)) = true := decide_eq_true c14
 clear c14
 by_cases c15 : 0 ≤ x25_1
 rotate_left
 ·rw [if_neg c15] at H
  exact absurd H (by simp)
 rw [if_pos c15] at H
 have c15b0 : decide (0 ≤ x25_1) = true := decide_eq_true c15
 clear c15
 by_cases c16 : x25_1 < (l1.length : Int)
 rotate_left
 ·rw [if_neg c16] at H
  exact absurd H (by simp)
 rw [if_pos c16] at H
 have c16b0 : decide (x25_1 < (l1.length : Int)) = true := decide_eq_true c16
 clear c16
 replace H := Option.bind_eq_some_iff.mp H
 obtain ⟨t110, A170, H⟩ := H
 replace H : (if t110 < x10_1 then ((some (([] : List Int) : List Int)).bind fun y111 => (if t110 = t110 then (if y111.length < 17592186044416 then (impl_NearestWords.l0 k1 a2 (y111 ++ [rd l1 x25_1]) t110 l1 (l1.length : Int) (wrap64 (x25_1 + 1)) l0_0) else (none)) else (impl_NearestWords.l0 k1 a2 y111 t110 l1 (l1.length : Int) (wrap64 (x25_1 + 1)) l0_0))) else (if t110 = x10_1 then (if x9_1.length < 17592186044416 then (impl_NearestWords.l0 k1 a2 (x9_1 ++ [rd l1 x25_1]) x10_1 l1 (l1.length : Int) (wrap64 (x25_1 + 1)) l0_0) else (none)) else (impl_NearestWords.l0 k1 a2 x9_1 x10_1 l1 (l1.length : Int) (wrap64 (x25_1 + 1)) l0_0))) = some (r1, r2) := by first | exact H | (simp only [if_true] at H ⊢; exact H)
 have A17 := Aside0.mk A170
 clear A170
 by_cases c18 : t110 < x10_1
 ·rw [if_pos c18] at H
  have c18b0 : decide (t110 < x10_1) = true := decide_eq_true c18
  clear c18
  obtain ⟨y111, hy111⟩ : ∃ y_ : List Int, y_ = (([] : List Int)) := ⟨_, rfl⟩
  replace H : (if t110 = t110 then (if y111.length < 17592186044416 then (impl_NearestWords.l0 k1 a2 (y111 ++ [rd l1 x25_1]) t110 l1 (l1.length : Int) (wrap64 (x25_1 + 1)) l0_0) else (none)) else (impl_NearestWords.l0 k1 a2 y111 t110 l1 (l1.length : Int) (wrap64 (x25_1 + 1)) l0_0)) = some (r1, r2) := by first | (rw [hy111]; with_reducible exact H) | (have H2_ := (Option.bind_some _ _).symm.trans H; rw [hy111]; with_reducible exact H2_) | (have H2_ := (Option.bind_some _ _).symm.trans H; with_reducible exact H2_) | with_reducible exact H | (rw [hy111]; exact H) | exact H
  have Ny111 := Aside0.mk hy111
  clear hy111
  by_cases c19 : t110 = t110
  rotate_left
  ·exact absurd rfl c19
  rw [if_pos c19] at H
  have c19b0 : (t110 == t110) = true := beq_iff_eq.mpr c19
  have c19b1 : (t110 != t110) = false := bne_eq_false_iff_eq.mpr c19
  clear c19
  by_cases c20 : y111.length < 17592186044416
  rotate_left
  ·rw [if_neg c20] at H
   exact absurd H (by simp)
  rw [if_pos c20] at H
  have LMc20 := Aside0.mk c20
  clear c20
  obtain ⟨y114, hy114⟩ : ∃ y_ : List Int, y_ = (y111 ++ [rd l1 x25_1]) := ⟨_, rfl⟩
  replace H : (impl_NearestWords.l0 k1 a2 y114 t110 l1 (l1.length : Int) (wrap64 (x25_1 + 1)) l0_0) = some (r1, r2) := by first | (rw [hy114]; with_reducible exact H) | (have H2_ := (Option.bind_some _ _).symm.trans H; rw [hy114]; with_reducible exact H2_) | (have H2_ := (Option.bind_some _ _).symm.trans H; with_reducible exact H2_) | with_reducible exact H | (rw [hy114]; exact H) | exact H
  have Ny114 := Aside0.mk hy114
  clear hy114
  have H' := Aside0.mk H
  clear H
  have p109 : 0 ≤ (x25_1 : Int) := of_decide_eq_true (by first | (with_reducible assumption) | assumption)
  have q109 : x25_1 < (l1.length : Int) := of_decide_eq_true (by first | (with_reducible assumption) | assumption)
  obtain ⟨ad109, e109, hx109_0⟩ := Kd.at_int HR1.out x25_1 p109 q109
  cases e109
  replace hx109_0 := (HB.out.cell (World.block_lt_of_cell? _ _ hx109_0)).trans hx109_0
  replace p109 := eq_true p109
  replace q109 := eq_true q109
  have hcz21_0 : wr.cell? ⟨gb101, 0, none⟩ = some (.slice A0_0 l0_0.length c0_0) := (blk_cell BK101.out 0).trans rfl
  have hfz21_0 := blk_frozen BK101.out 0
  go_wp2_with (first | ((with_reducible refine gate_callee (f := 60) rfl ?_); refine goesL_ (some 32) rfl rfl Try.func60 (by kernel_rfl) rfl #[.agg #[.slice A0_0 l0_0.length c0_0], .int .i64 (rd l1 x25_1), .int .i64 a2] rfl t1_ ?_; (with_reducible refine (impl_distance.calls _ _ l0_0 (rd l1 x25_1) a2 t110 _ ?side1 ?side2 A17.out).mono ?_); (case side1 => exact c2_ HR0_0 HB); (case side2 => exact HC0_0.out); rintro e w22 ⟨rfl, hb⟩; refine ⟨_, rfl, ?_⟩; replace HO_9 := a1_ HO_9 hb; replace BK101 := a2_ BK101 hb; replace HB := b1_ HB hb; (try clear hb); (try clear hb2); (try clear hk); (try clear hi)) | ((with_reducible refine gate_dst (N := 36) rfl ?_); refine Kd.R_lit (Kd.int .i64) _ 2 ?hg (N := 36) ?hd (xs := ([] : List Int)) (inner := []) (ok := fun _ => True) (okp := fun _ => True) ?hr ?hp (fun _ hk => hk) trivial (Below.refl _ _) (Nat.le_refl _) (by simp) ?_; (case hd => rfl); (case hg => rfl); (case hr => exact t3_); (case hp => exact (Reps.none _ _)); intro v112 w23 ho24 hb hg_ hnew_; clear hg_ hnew_; (first | rw [← Ny111.out] at ho24 | (simp only [Int.reduceToNat] at ho24; rw [← Ny111.out] at ho24)); have n0_ := a5_ HO_9 ho24 hb; have n1_ := Aside0.mk (Kd.R_lower (Kd.R_new' ho24 (Kd.R_lt (rb_ HO_9.out))) (below_size (gb_ HB.out))); have n2_ := a2_ BK101 hb; have n3_ := b1_ HB hb; clear HO_9 BK101 HB; have HO_9 := n0_; have HO113 := n1_; have BK101 := n2_; have HB := n3_; clear n0_ n1_ n2_ n3_ hb ho24) | ((with_reducible refine gate_builtin (b := .append) (xs := #[.tmp 41, .tmp 43]) rfl ?_); at_builtin; refine Kd.R_append (Kd.int .i64) (w0 := w) w.heap.size rfl (.tmp 41) (.tmp 43) 24 2 (.int .i64 0) 8 rfl Try.underlying24 info2 rfl (by decide) (by omega) v112 y111 (rd l1 x25_1) [.int .i64 (rd l1 x25_1)] (fun k_ => OB_ k_ u9) (fun _ => False) rfl rfl ?aP (fun _ hk => hk.elim) ?aF ?aO ?aB ?aS ?aL ?_; (case aP => exact rfl); (case aB => exact (gb_ HB.out)); (case aF => exact (fun k_ hk => Kd.fresh' (Kd.R_lt (rb_ HO_9.out)) k_ hk)); (case aO => exact (rb_ (Kd.R_mono HO113.out (fun _ hk => hk.2)))); (case aS => exact (below_size (gb_ HB.out))); (case aL => have := LMc20.out; omega); intro v115 w25 ho hb hg hat; rw [← Ny114.out] at ho; have n0_ := Aside0.mk (Kd.R_after (ok := (fun _ => True)) (rb_ HO_9.out) hg hat); have n1_ := Aside0.mk (blk_grown (g := gb101) (o := .cells #[.slice A0_0 l0_0.length c0_0] 26 (0, 0)) (bb_ BK101.out) hg (Kd.R_ne HO113.out BK101.out (by decide))); have n2_ := Aside0.mk (hb); have n3_ := Aside0.mk (ho); clear HO_9 BK101 HB HO113; have HO_9 := n0_; have BK101 := n1_; have HB := n2_; have HO116 := n3_; clear n0_ n1_ n2_ n3_ ho hb hg hat))
  go_roundg k1
  case measure => have := HK1.out; omega
  case rel => exact ⟨(y114), (t110), (wrap64 (x25_1 + 1)), t2_, t2_, H', ⟨by have := HK1.out; omega⟩, ⟨by (with_reducible repeat (first | apply Kd.R_alloc | apply Kd.R_drewN | apply Kd.R_drew)); exact Kd.R_mono HO116.out (fun _ hk => trivial)⟩, ⟨bb_ BK101.out⟩, ⟨gb_ HB.out⟩⟩
 rw [if_neg c18] at H
 have c18b0 : decide (t110 < x10_1) = false := decide_eq_false c18
 clear c18
 by_cases c30 : t110 = x10_1
 rotate_left
 ·rw [if_neg c30] at H
  have c30b0 : (t110 == x10_1) = false := beq_eq_false_iff_ne.mpr c30
  have c30b1 : (t110 != x10_1) = true := bne_iff_ne.mpr c30
  have H' := Aside0.mk H
  clear H
  have p109 : 0 ≤ (x25_1 : Int) := of_decide_eq_true (by first | (with_reducible assumption) | assumption)
  have q109 : x25_1 < (l1.length : Int) := of_decide_eq_true (by first | (with_reducible assumption) | assumption)
  obtain ⟨ad109, e109, hx109_0⟩ := Kd.at_int HR1.out x25_1 p109 q109
  cases e109
  replace hx109_0 := (HB.out.cell (World.block_lt_of_cell? _ _ hx109_0)).trans hx109_0
  replace p109 := eq_true p109
  replace q109 := eq_true q109
  have hcz35_0 : wr.cell? ⟨gb101, 0, none⟩ = some (.slice A0_0 l0_0.length c0_0) := (blk_cell BK101.out 0).trans rfl
  have hfz35_0 := blk_frozen BK101.out 0
  go_wp2_with (first | ((with_reducible refine gate_callee (f := 60) rfl ?_); refine goesL_ (some 32) rfl rfl Try.func60 (by kernel_rfl) rfl #[.agg #[.slice A0_0 l0_0.length c0_0], .int .i64 (rd l1 x25_1), .int .i64 a2] rfl t1_ ?_; (with_reducible refine (impl_distance.calls _ _ l0_0 (rd l1 x25_1) a2 t110 _ ?side1 ?side2 A17.out).mono ?_); (case side1 => exact c2_ HR0_0 HB); (case side2 => exact HC0_0.out); rintro e w36 ⟨rfl, hb⟩; refine ⟨_, rfl, ?_⟩; replace HO_9 := a1_ HO_9 hb; replace BK101 := a2_ BK101 hb; replace HB := b1_ HB hb; (try clear hb); (try clear hb2); (try clear hk); (try clear hi)))
  go_roundg k1
  case measure => have := HK1.out; omega
  case rel => exact ⟨(x9_1), (x10_1), (wrap64 (x25_1 + 1)), t2_, t2_, H', ⟨by have := HK1.out; omega⟩, ⟨rb_ HO_9.out⟩, ⟨bb_ BK101.out⟩, ⟨gb_ HB.out⟩⟩
 rw [if_pos c30] at H
 have c30b0 : (t110 == x10_1) = true := beq_iff_eq.mpr c30
 have c30b1 : (t110 != x10_1) = false := bne_eq_false_iff_eq.mpr c30
 clear c30
 by_cases c31 : x9_1.length < 17592186044416
 rotate_left
 ·rw [if_neg c31] at H
  exact absurd H (by simp)
 rw [if_pos c31] at H
 have LMc31 := Aside0.mk c31
 clear c31
 obtain ⟨y117, hy117⟩ : ∃ y_ : List Int, y_ = (x9_1 ++ [rd l1 x25_1]) := ⟨_, rfl⟩
 replace H : (impl_NearestWords.l0 k1 a2 y117 x10_1 l1 (l1.length : Int) (wrap64 (x25_1 + 1)) l0_0) = some (r1, r2) := by first | (rw [hy117]; with_reducible exact H) | (have H2_ := (Option.bind_some _ _).symm.trans H; rw [hy117]; with_reducible exact H2_) | (have H2_ := (Option.bind_some _ _).symm.trans H; with_reducible exact H2_) | with_reducible exact H | (rw [hy117]; exact H) | exact H
 have Ny117 := Aside0.mk hy117
 clear hy117
 have H' := Aside0.mk H
 clear H
 have p109 : 0 ≤ (x25_1 : Int) := of_decide_eq_true (by first | (with_reducible assumption) | assumption)
 have q109 : x25_1 < (l1.length : Int) := of_decide_eq_true (by first | (with_reducible assumption) | assumption)
 obtain ⟨ad109, e109, hx109_0⟩ := Kd.at_int HR1.out x25_1 p109 q109
 cases e109
 replace hx109_0 := (HB.out.cell (World.block_lt_of_cell? _ _ hx109_0)).trans hx109_0
 replace p109 := eq_true p109
 replace q109 := eq_true q109
 have hcz32_0 : wr.cell? ⟨gb101, 0, none⟩ = some (.slice A0_0 l0_0.length c0_0) := (blk_cell BK101.out 0).trans rfl
 have hfz32_0 := blk_frozen BK101.out 0
 go_wp2_with (first | ((with_reducible refine gate_callee (f := 60) rfl ?_); refine goesL_ (some 32) rfl rfl Try.func60 (by kernel_rfl) rfl #[.agg #[.slice A0_0 l0_0.length c0_0], .int .i64 (rd l1 x25_1), .int .i64 a2] rfl t1_ ?_; (with_reducible refine (impl_distance.calls _ _ l0_0 (rd l1 x25_1) a2 t110 _ ?side1 ?side2 A17.out).mono ?_); (case side1 => exact c2_ HR0_0 HB); (case side2 => exact HC0_0.out); rintro e w33 ⟨rfl, hb⟩; refine ⟨_, rfl, ?_⟩; replace HO_9 := a1_ HO_9 hb; replace BK101 := a2_ BK101 hb; replace HB := b1_ HB hb; (try clear hb); (try clear hb2); (try clear hk); (try clear hi)) | ((with_reducible refine gate_builtin (b := .append) (xs := #[.tmp 41, .tmp 43]) rfl ?_); at_builtin; refine Kd.R_append (Kd.int .i64) (w0 := w) w.heap.size rfl (.tmp 41) (.tmp 43) 24 2 (.int .i64 0) 8 rfl Try.underlying24 info2 rfl (by decide) (by omega) u9 x9_1 (rd l1 x25_1) [.int .i64 (rd l1 x25_1)] (fun _ => True) (fun _ => False) rfl rfl ?aP (fun _ hk => hk.elim) ?aF ?aO ?aB ?aS ?aL ?_; (case aP => exact rfl); (case aB => exact (gb_ HB.out)); (case aF => exact (fun _ _ => trivial)); (case aO => exact (rb_ HO_9.out)); (case aS => exact (below_size (gb_ HB.out))); (case aL => have := LMc31.out; omega); intro v118 w34 ho hb hg hat; rw [← Ny117.out] at ho; have n0_ := Aside0.mk (blk_grown (g := gb101) (o := .cells #[.slice A0_0 l0_0.length c0_0] 26 (0, 0)) (bb_ BK101.out) hg (Kd.R_ne HO_9.out BK101.out (by decide))); have n1_ := Aside0.mk (hb); have n2_ := Aside0.mk (ho); clear BK101 HB HO_9; have BK101 := n0_; have HB := n1_; have HO119 := n2_; clear n0_ n1_ n2_ ho hb hg hat))
 go_roundg k1
 case measure => have := HK1.out; omega
 case rel => exact ⟨(y117), (x10_1), (wrap64 (x25_1 + 1)), t2_, t2_, H', ⟨by have := HK1.out; omega⟩, ⟨rb_ HO119.out⟩, ⟨bb_ BK101.out⟩, ⟨gb_ HB.out⟩⟩
end Go.Proofs.Ytlfipjdjmpdblaa.P
namespace Go.Proofs.Ytlfipjdjmpdblaa.P
open Go.RowKit Go.Proofs.YtlfipjdjmpdblaaW.PrintWords Go.Proofs.YtlfipjdjmpdblaaW.PrintLast Go.Proofs.YtlfipjdjmpdblaaW.PrintMore
attribute [local go_sem] max2_int min2_int max_two min_two max_three min_three max_four min_four
set_option linter.unusedVariables false
set_option linter.unusedSimpArgs false
mutual
def spec_NearestWords.j0 : Nat → List Int → Int → Int → Bool → List Int → Option (List Int × Int)
  | 0, _, _, _, _, _ => none
  | k + 1, x1, x2, x8, x23, x102000 => if x23 = true then (spec_NearestWords.j1 k x1 x2 2 x102000) else (spec_NearestWords.j1 k x1 x2 x8 x102000)
def spec_NearestWords.j1 : Nat → List Int → Int → Int → List Int → Option (List Int × Int)
  | 0, _, _, _, _ => none
  | k + 1, x1, x2, x8, x102000 => if x8 = 0 then (spec_NearestWords.l0 k x1 x2 (([] : List Int)) 0 x102000) else (some (([] : List Int), x8))
def spec_NearestWords.l0 : Nat → List Int → Int → List Int → Int → List Int → Option (List Int × Int)
  | 0, _, _, _, _, _ => none
  | k + 1, x1, x2, x9, x10, x102000 => if x10 < (x1.length : Int) then (if 0 ≤ x10 then ((spec_l01Distance.f k x102000 (rd x1 x10) x2).bind fun t109 => ((spec_l02To.f k x102000 x1 x2).bind fun t110 => (if t109 = t110 then (if x9.length < 17592186044416 then (spec_NearestWords.l0 k x1 x2 (x9 ++ [rd x1 x10]) (wrap64 (x10 + 1)) x102000) else (none)) else (spec_NearestWords.l0 k x1 x2 x9 (wrap64 (x10 + 1)) x102000)))) else (none)) else (some (x9, 0))
end
def spec_NearestWords.f (k : Nat) (l0_0 : List Int) (l1 : List Int) (a2 : Int) : Option (List Int × Int) := (spec_l01Given.f k l0_0 l1).bind fun t102 => (if t102 = 0 then ((spec_l01N.f k l0_0).bind fun t103 => ((spec_l01In.f a2 0 (wrap64 (t103 - 1))).bind fun t104 => (spec_NearestWords.j0 k l1 a2 t102 (!t104) l0_0))) else (spec_NearestWords.j0 k l1 a2 t102 false l0_0))
def spec_NearestWords.T10 : Bool × List (List Nat × List Nat) := (true, [([], []), ([], []), ([], []), ([1, 2], [1, 2]), ([3], [3]), ([], []), ([0, 4, 5], [0, 4, 5]), ([], []), ([], []), ([], []), ([7, 8, 9, 6], [7, 8, 9]), ([6, 10], [6, 10])])
def spec_NearestWords.B10 : List Nat := [0, 0, 0, 6, 14, 0, 63, 0, 0, 0, 1023, 2047]
theorem spec_NearestWords.tab10 : rtab .any (opsOf Try.f37 10) = spec_NearestWords.T10 := by kernel_rfl
theorem spec_NearestWords.bits10 : waitsOk spec_NearestWords.T10.2 spec_NearestWords.B10 = true := by kernel_rfl
set_option maxHeartbeats 8000000 in
set_option maxRecDepth 100000 in
theorem spec_NearestWords.calls (k : Nat) (A0_0 : Option Addr) (c0_0 : Nat) (l0_0 : List Int) (A1 : Option Addr) (c1 : Nat) (l1 : List Int) (a2 : Int) (r1 : List Int) (r2 : Int) (w : World) (hr0_0 : Kd.C (Kd.int .i64) w A0_0 l0_0.length l0_0) (hc0_0 : l0_0.length ≤ c0_0) (hr1 : Kd.C (Kd.int .i64) w A1 l1.length l1) (hc1 : l1.length ≤ c1) (h : spec_NearestWords.f k l0_0 l1 a2 = some (r1, r2)) :
  Calls Try.prog 37 #[.agg #[.slice A0_0 l0_0.length c0_0], .slice A1 l1.length c1, .int .i64 a2] w fun e w' => ∃ v0_ : Value, e = .returned (.tuple #[v0_, .int .i64 r2]) ∧ Kd.R (Kd.int .i64) 2 w' w.heap.size (fun _ => True) v0_ r1 ∧ Below w.heap.size w w' := by
 have hu26 := Try.underlying26
 have HR0_0 := Aside0.mk hr0_0
 have HC0_0 := Aside0.mk hc0_0
 clear hr0_0 hc0_0
 have HR1 := Aside0.mk hr1
 have HC1 := Aside0.mk hc1
 clear hr1 hc1
 have HB := Aside0.mk (Below.refl w.heap.size w)
 have H : ((spec_l01Given.f k l0_0 l1).bind fun t102 => (if t102 = 0 then ((spec_l01N.f k l0_0).bind fun t103 => ((spec_l01In.f a2 0 (wrap64 (t103 - 1))).bind fun t104 => (spec_NearestWords.j0 k l1 a2 t102 (!t104) l0_0))) else (spec_NearestWords.j0 k l1 a2 t102 false l0_0))) = some (r1, r2) := h
 clear h
 replace H := Option.bind_eq_some_iff.mp H
 obtain ⟨t102, A40, H⟩ := H
 replace H : (if t102 = 0 then ((spec_l01N.f k l0_0).bind fun t103 => ((spec_l01In.f a2 0 (wrap64 (t103 - 1))).bind fun t104 => (spec_NearestWords.j0 k l1 a2 t102 (!t104) l0_0))) else (spec_NearestWords.j0 k l1 a2 t102 false l0_0)) = some (r1, r2) := H
 have A4 := Aside0.mk A40
 clear A40
 have HC5 := Aside0.mk H
 clear H
 go_enter Try.func37, Try.ntmps37
 go_upto_region 2 with (first | ((with_reducible refine gate_dst (N := 3) rfl ?_); refine box_event ?hg (N := 3) ?hd (cs := #[.slice A0_0 l0_0.length c0_0]) (t := 26) ?hr ?_; (case hd => rfl); (case hg => rfl); (case hr => exact t3_); intro gb101 hg w6 hbox hb; have n0_ := b1_ HB hb; have n1_ := Aside0.mk (hbox); have n2_ := Aside0.mk ((by rw [hg]; exact (below_size (gb_ HB.out)) : w.heap.size ≤ gb101)); have n3_ := Aside0.mk ((by rw [hg]; exact (below_size (gb_ HB.out)) : w.heap.size ≤ gb101)); clear HB; have HB := n0_; have BK101 := n1_; have GW101 := n2_; have GE101 := n3_; clear n0_ n1_ n2_ n3_ hb hbox hg; have hcz7_0 : w6.cell? ⟨gb101, 0, none⟩ = some (.slice A0_0 l0_0.length c0_0) := (blk_cell BK101.out 0).trans rfl; have hfz7_0 := blk_frozen BK101.out 0) | ((with_reducible refine gate_callee (f := 88) rfl ?_); refine goesL_ (some 13) rfl rfl Try.func88 (by kernel_rfl) rfl #[.agg #[.slice A0_0 l0_0.length c0_0], .slice A1 l1.length c1] rfl t1_ ?_; (with_reducible refine (spec_l01Given.calls k _ _ l0_0 _ _ l1 t102 _ ?side1 ?side2 ?side3 ?side4 A4.out).mono ?_); (case side1 => exact c2_ HR0_0 HB); (case side2 => exact HC0_0.out); (case side3 => exact c2_ HR1 HB); (case side4 => exact HC1.out); rintro e w8 ⟨rfl, hb⟩; refine ⟨_, rfl, ?_⟩; replace BK101 := a2_ BK101 hb; replace HB := b1_ HB hb; (try clear hb); (try clear hb2); (try clear hk); (try clear hi)))
 (try simp only [Act.put, List.setIfInBounds_toArray, List.set_cons_zero, List.set_cons_succ])
 go_cut [23] (fun cs_23 wc => ∃ (kq : Nat) (x23_4 : Bool), cs_23 = .bool x23_4 ∧ Aside0 (spec_NearestWords.j0 kq l1 a2 t102 x23_4 l0_0 = some (r1, r2)) ∧ Aside0 (kq ≤ k) ∧ Aside0 (wc.heap[gb101]? = some (.cells #[(.slice A0_0 l0_0.length c0_0)] 26 (0, 0))) ∧ Aside0 (Below w.heap.size w wc))
 case first =>
  have H := HC5.out
  clear HC5
  by_cases c9 : t102 = 0
  rotate_left
  ·rw [if_neg c9] at H
   have c9b0 : (t102 == 0) = false := beq_eq_false_iff_ne.mpr c9
   have c9b1 : (t102 != 0) = true := bne_iff_ne.mpr c9
   (first | rw [c9b0] | (simp only [i64_w, i32_w]; rw [c9b0]) | skip)
   have H' := Aside0.mk H
   clear H
   go_wp2
   go_meet
   case rel => exact ⟨_, (false), t2_, H', ⟨by first | omega | exact Nat.le_refl _⟩, ⟨bb_ BK101.out⟩, ⟨gb_ HB.out⟩⟩
  rw [if_pos c9] at H
  have c9b0 : (t102 == 0) = true := beq_iff_eq.mpr c9
  have c9b1 : (t102 != 0) = false := bne_eq_false_iff_eq.mpr c9
  clear c9
  (first | rw [c9b0] | (simp only [i64_w, i32_w]; rw [c9b0]) | skip)
  replace H := Option.bind_eq_some_iff.mp H
  obtain ⟨t103, A100, H⟩ := H
  replace H : ((spec_l01In.f a2 0 (wrap64 (t103 - 1))).bind fun t104 => (spec_NearestWords.j0 k l1 a2 t102 (!t104) l0_0)) = some (r1, r2) := H
  have A10 := Aside0.mk A100
  clear A100
  replace H := Option.bind_eq_some_iff.mp H
  obtain ⟨t104, A110, H⟩ := H
  replace H : (spec_NearestWords.j0 k l1 a2 t102 (!t104) l0_0) = some (r1, r2) := H
  have A11 := Aside0.mk A110
  clear A110
  have H' := Aside0.mk H
  clear H
  have hcz12_0 : w8.cell? ⟨gb101, 0, none⟩ = some (.slice A0_0 l0_0.length c0_0) := (blk_cell BK101.out 0).trans rfl
  have hfz12_0 := blk_frozen BK101.out 0
  go_wp2_with (first | (go_at_call 76; (with_reducible refine (spec_l01N.calls k _ _ l0_0 t103 _ ?side1 ?side2 A10.out).mono ?_); (case side1 => exact c2_ HR0_0 HB); (case side2 => exact HC0_0.out); rintro e w13 ⟨rfl, hb⟩; replace BK101 := a2_ BK101 hb; replace HB := b1_ HB hb; (try clear hb); (try clear hb2); (try clear hk); (try clear hi)) | (go_at_call 84; (with_reducible refine (spec_l01In.calls a2 0 (wrap64 (t103 - 1)) t104 _ A11.out).mono ?_); rintro e w' ⟨rfl, ⟨nd, rfl⟩⟩))
  go_meet
  case rel => exact ⟨_, (!t104), t2_, H', ⟨by first | omega | exact Nat.le_refl _⟩, ⟨bb_ BK101.out⟩, ⟨gb_ HB.out⟩⟩
 clear HC5
 try clear c1
 try clear p2
 try clear c3
 try clear p6
 try clear c8
 try clear c9
 try clear c9b0
 try clear c9b1
 try clear hcz12_0
 try clear hcz7_0
 try clear hfz12_0
 try clear hfz7_0
 obtain ⟨kq, x23_4, rfl, HA, HJ4, BK101, HB⟩ := hcut
 cases kq with
 | zero => exact absurd HA.out (by simp [spec_NearestWords.j0])
 | succ kj4 =>
  have H := HA.out
  clear HA
  simp only [spec_NearestWords.j0] at H
  have HC14 := Aside0.mk H
  clear H
  go_upto_if 23 with (fail)
  go_cut [8] (fun cs_8 wc => ∃ (kq : Nat) (x8_13 : Int), cs_8 = .int .i64 x8_13 ∧ Aside0 (spec_NearestWords.j1 kq l1 a2 x8_13 l0_0 = some (r1, r2)) ∧ Aside0 (kq ≤ kj4) ∧ Aside0 (wc.heap[gb101]? = some (.cells #[(.slice A0_0 l0_0.length c0_0)] 26 (0, 0))) ∧ Aside0 (Below w.heap.size w wc))
  case first =>
   have H := HC14.out
   clear HC14
   by_cases c15 : x23_4 = true
   ·subst c15
    have H1 : (spec_NearestWords.j1 kj4 l1 a2 2 l0_0) = some (r1, r2) := by rw [if_pos rfl] at H; exact H
    clear H
    have H := H1
    clear H1
    have H' := Aside0.mk H
    clear H
    go_wp2
    go_meet
    case rel => exact ⟨_, (2), t2_, H', ⟨by have := HJ4.out; first | omega | exact Nat.le_refl _⟩, ⟨bb_ BK101.out⟩, ⟨gb_ HB.out⟩⟩
   replace c15 := Bool.eq_false_iff.mpr c15
   subst c15
   have H1 : (spec_NearestWords.j1 kj4 l1 a2 t102 l0_0) = some (r1, r2) := by rw [if_neg (show ¬ (false = true) by decide)] at H; exact H
   clear H
   have H := H1
   clear H1
   have H' := Aside0.mk H
   clear H
   go_wp2
   go_meet
   case rel => exact ⟨_, (t102), t2_, H', ⟨by have := HJ4.out; first | omega | exact Nat.le_refl _⟩, ⟨bb_ BK101.out⟩, ⟨gb_ HB.out⟩⟩
  clear HC14
  try clear c1
  try clear p2
  try clear c3
  try clear p6
  try clear c8
  try clear c9
  try clear c9b0
  try clear c9b1
  try clear c15
  try clear hcz12_0
  try clear hcz7_0
  try clear hfz12_0
  try clear hfz7_0
  try clear p2
  try clear p6
  obtain ⟨kq, x8_13, rfl, HA, HJ13, BK101, HB⟩ := hcut
  cases kq with
  | zero => exact absurd HA.out (by simp [spec_NearestWords.j1])
  | succ kj13 =>
   have H := HA.out
   clear HA
   simp only [spec_NearestWords.j1] at H
   by_cases c16 : x8_13 = 0
   rotate_left
   ·rw [if_neg c16] at H
    have c16b0 : (x8_13 == 0) = false := beq_eq_false_iff_ne.mpr c16
    have c16b1 : (x8_13 != 0) = true := bne_iff_ne.mpr c16
    simp only [Option.some.injEq, Prod.mk.injEq] at H
    obtain ⟨rfl, rfl⟩ := H
    go_wp2
    go_ret2
    exact ⟨_, t5_, by first | exact Kd.R_nil _ _ _ _ _ | exact Kd.N_nil _ _ _ _ _ | exact Kd.V_nil _ _ _ _ _ | exact Kd.Q_nil _ _ _ _ _ | exact Kd.S_nil _ _ _ _ _, gb_ HB.out⟩

   rw [if_pos c16] at H
   have c16b0 : (x8_13 == 0) = true := beq_iff_eq.mpr c16
   have c16b1 : (x8_13 != 0) = false := bne_eq_false_iff_eq.mpr c16
   clear c16
   obtain ⟨y105, hy105⟩ : ∃ y_ : List Int, y_ = (([] : List Int)) := ⟨_, rfl⟩
   replace H : (spec_NearestWords.l0 kj13 l1 a2 y105 0 l0_0) = some (r1, r2) := by first | (rw [hy105]; with_reducible exact H) | (have H2_ := (Option.bind_some _ _).symm.trans H; rw [hy105]; with_reducible exact H2_) | (have H2_ := (Option.bind_some _ _).symm.trans H; with_reducible exact H2_) | with_reducible exact H | (rw [hy105]; exact H) | exact H
   have Ny105 := Aside0.mk hy105
   clear hy105
   have H' := Aside0.mk H
   clear H
   go_wp2_with (first | ((with_reducible refine gate_dst (N := 27) rfl ?_); refine Kd.R_lit (Kd.int .i64) _ 2 ?hg (N := 27) ?hd (xs := ([] : List Int)) (inner := []) (ok := fun _ => True) (okp := fun _ => True) ?hr ?hp (fun _ hk => hk) trivial (Below.refl _ _) (Nat.le_refl _) (by simp) ?_; (case hd => rfl); (case hg => rfl); (case hr => exact t3_); (case hp => exact (Reps.none _ _)); intro v106 w17 ho18 hb hg_ hnew_; clear hg_ hnew_; (first | rw [← Ny105.out] at ho18 | (simp only [Int.reduceToNat] at ho18; rw [← Ny105.out] at ho18)); have n0_ := Aside0.mk (Kd.R_lower ho18 (below_size (gb_ HB.out))); have n1_ := a2_ BK101 hb; have n2_ := b1_ HB hb; clear BK101 HB; have HO107 := n0_; have BK101 := n1_; have HB := n2_; clear n0_ n1_ n2_ hb ho18))
   go_loopg [9, 10] kj13 (fun kq v9 v10 w' => ∃ (x9_3 : List Int) (x10_3 : Int), v10 = .int .i64 x10_3 ∧ Aside0 (spec_NearestWords.l0 kq l1 a2 x9_3 x10_3 l0_0 = some (r1, r2)) ∧ Aside0 (kq ≤ kj13) ∧ Aside0 (Kd.R (Kd.int .i64) 2 w' w.heap.size (fun _ => True) v9 x9_3) ∧ Aside0 (w'.heap[gb101]? = some (.cells #[(.slice A0_0 l0_0.length c0_0)] 26 (0, 0))) ∧ Aside0 (Below w.heap.size w w'))
   case atStart => exact ⟨(y105), (0), t2_, H', ⟨Nat.le_refl _⟩, ⟨rb_ HO107.out⟩, ⟨bb_ BK101.out⟩, ⟨gb_ HB.out⟩⟩
   clear H'
   try clear c1
   try clear p2
   try clear c3
   try clear p6
   try clear c8
   try clear c9
   try clear c9b0
   try clear c9b1
   try clear c15
   try clear c16
   try clear c16b0
   try clear c16b1
   try clear hcz12_0
   try clear hcz7_0
   try clear hfz12_0
   try clear hfz7_0
   try clear p2
   try clear p6
   obtain ⟨x9_3, x10_3, rfl, HA, HK3, HO_9, BK101, HB⟩ := hrel
   obtain _ | k3 := gk
   ·exact absurd HA.out (by simp [spec_NearestWords.l0])
   have H := HA.out
   clear HA
   simp only [spec_NearestWords.l0] at H
   by_cases c19 : x10_3 < (l1.length : Int)
   rotate_left
   ·rw [if_neg c19] at H
    have c19b0 : decide (x10_3 < (l1.length : Int)) = false := decide_eq_false c19
    clear c19
    simp only [Option.some.injEq, Prod.mk.injEq] at H
    obtain ⟨rfl, rfl⟩ := H
    go_wp2
    go_ret2
    exact ⟨_, t5_, rb_ HO_9.out, gb_ HB.out⟩
   rw [if_pos c19] at H
   have c19b0 : decide (x10_3 < (l1.length : Int)) = true := decide_eq_true c19
   clear c19
   by_cases c20 : 0 ≤ x10_3
   rotate_left
   ·rw [if_neg c20] at H
    exact absurd H (by simp)
   rw [if_pos c20] at H
   have c20b0 : decide (0 ≤ x10_3) = true := decide_eq_true c20
   clear c20
   replace H := Option.bind_eq_some_iff.mp H
   obtain ⟨t109, A210, H⟩ := H
   replace H : ((spec_l02To.f k3 l0_0 l1 a2).bind fun t110 => (if t109 = t110 then (if x9_3.length < 17592186044416 then (spec_NearestWords.l0 k3 l1 a2 (x9_3 ++ [rd l1 x10_3]) (wrap64 (x10_3 + 1)) l0_0) else (none)) else (spec_NearestWords.l0 k3 l1 a2 x9_3 (wrap64 (x10_3 + 1)) l0_0))) = some (r1, r2) := H
   have A21 := Aside0.mk A210
   clear A210
   replace H := Option.bind_eq_some_iff.mp H
   obtain ⟨t110, A220, H⟩ := H
   replace H : (if t109 = t110 then (if x9_3.length < 17592186044416 then (spec_NearestWords.l0 k3 l1 a2 (x9_3 ++ [rd l1 x10_3]) (wrap64 (x10_3 + 1)) l0_0) else (none)) else (spec_NearestWords.l0 k3 l1 a2 x9_3 (wrap64 (x10_3 + 1)) l0_0)) = some (r1, r2) := H
   have A22 := Aside0.mk A220
   clear A220
   by_cases c23 : t109 = t110
   rotate_left
   ·rw [if_neg c23] at H
    have c23b0 : (t109 == t110) = false := beq_eq_false_iff_ne.mpr c23
    have c23b1 : (t109 != t110) = true := bne_iff_ne.mpr c23
    have H' := Aside0.mk H
    clear H
    try go_wp2
    replace HO_9 := Aside0.mk (Kd.R_drew HO_9.out)
    replace BK101 := Aside0.mk (blk_drew BK101.out)
    replace HB := Aside0.mk (below_drew1 HB.out)
    have p108 : 0 ≤ (x10_3 : Int) := of_decide_eq_true (by first | (with_reducible assumption) | assumption)
    have q108 : x10_3 < (l1.length : Int) := of_decide_eq_true (by first | (with_reducible assumption) | assumption)
    obtain ⟨ad108, e108, hx108_0⟩ := Kd.at_int HR1.out x10_3 p108 q108
    have hw108_0 := hx108_0
    cases e108
    replace hx108_0 := (HB.out.cell (World.block_lt_of_cell? _ _ hx108_0)).trans hx108_0
    replace p108 := eq_true p108
    replace q108 := eq_true q108
    refine start_ (n := 12) (S := fun w' => w'.cell? ⟨gb101, 0, none⟩ = some (.slice A0_0 l0_0.length c0_0) ∧ w'.cell? (ad108.add (x10_3).toNat) = some (.int .i64 (rd l1 x10_3))) (ds := []) #[false, false, false, false, false, false, false, false, false, false, false, false] (by kernel_rfl) rfl rfl ⟨(blk_cell BK101.out 0).trans rfl, ((HB.out.cell (World.block_lt_of_cell? _ _ hw108_0)).trans hw108_0)⟩ (fun hHeld => ?_); refine with_tabW spec_NearestWords.tab10 spec_NearestWords.bits10 (fun HT_ HW_ => ?_)
    generalize wr.drew = w29 at HO_9 BK101 HB hx108_0 hHeld ⊢
    refine pure_ (i := 1) (N := some 35) (v := ?_) (a' := ?_) #[false, true, false, false, false, false, false, false, false, false, false, false] rfl rfl (any_of HT_.out (by kernel_rfl)) (fun _ _ _ h => h) (Or.inl ⟨by rfl, ?_⟩) ?_ ?_
    rotate_left
    ·intro w'
     go_simp
     with_reducible rfl
    rotate_left
    ·exact t4_
    refine pure_ (i := 2) (N := some 36) (v := ?_) (a' := ?_) #[false, true, true, false, false, false, false, false, false, false, false, false] rfl rfl (any_of HT_.out (by kernel_rfl)) (fun _ _ _ h => h) (Or.inl ⟨by rfl, ?_⟩) ?_ ?_
    rotate_left
    ·intro w'
     go_simp
     with_reducible rfl
    rotate_left
    ·exact t4_
    refine pure_ (i := 3) (N := some 37) (v := ?_) (a' := ?_) #[false, true, true, true, false, false, false, false, false, false, false, false] rfl rfl (any_of HT_.out (by kernel_rfl)) (fun _ _ _ h => h) (Or.inl ⟨by rfl, ?_⟩) ?_ ?_
    rotate_left
    ·intro w'
     go_simp
     with_reducible rfl
    rotate_left
    ·exact t4_
    refine pure_ (i := 5) (N := some 39) (v := ?_) (a' := ?_) #[false, true, true, true, false, true, false, false, false, false, false, false] rfl rfl (any_of HT_.out (by kernel_rfl)) (fun _ _ _ h => h) (Or.inl ⟨by rfl, ?_⟩) ?_ ?_
    rotate_left
    ·intro w'
     go_simp
     with_reducible rfl
    rotate_left
    ·exact t4_
    refine pure_ (i := 8) (N := some 42) (v := ?_) (a' := ?_) #[false, true, true, true, false, true, false, false, true, false, false, false] rfl rfl (any_of HT_.out (by kernel_rfl)) (fun _ _ _ h => h) (Or.inl ⟨by rfl, ?_⟩) ?_ ?_
    rotate_left
    ·intro w'
     go_simp
     with_reducible rfl
    rotate_left
    ·exact t4_
    refine pure_ (i := 9) (N := some 43) (v := ?_) (a' := ?_) #[false, true, true, true, false, true, false, false, true, true, false, false] rfl rfl (any_of HT_.out (by kernel_rfl)) (fun _ _ _ h => h) (Or.inl ⟨by rfl, ?_⟩) ?_ ?_
    rotate_left
    ·intro w'
     go_simp
     with_reducible rfl
    rotate_left
    ·exact t4_
    refine take_ (i := 0) (N := some 34) (v := ?_) (a' := ?_) #[true, true, true, true, false, true, false, false, true, true, false, false] rfl rfl (take_ofW HT_.out HW_.out (by kernel_rfl)) (fun _ _ _ h => h) (Or.inl ⟨by rfl, ?_⟩) hHeld ?_ ?_
    rotate_left
    ·rintro w' ⟨s0, s1⟩
     go_simp
     with_reducible rfl
    rotate_left
    ·exact t4_
    refine take_ (i := 4) (N := some 38) (v := ?_) (a' := ?_) #[true, true, true, true, true, true, false, false, true, true, false, false] rfl rfl (take_ofW HT_.out HW_.out (by kernel_rfl)) (fun _ _ _ h => h) (Or.inl ⟨by rfl, ?_⟩) hHeld ?_ ?_
    rotate_left
    ·rintro w' ⟨s0, s1⟩
     go_simp
     with_reducible rfl
    rotate_left
    ·exact t4_
    refine take_ (i := 7) (N := some 41) (v := ?_) (a' := ?_) #[true, true, true, true, true, true, false, true, true, true, false, false] rfl rfl (take_ofW HT_.out HW_.out (by kernel_rfl)) (fun _ _ _ h => h) (Or.inl ⟨by rfl, ?_⟩) hHeld ?_ ?_
    rotate_left
    ·rintro w' ⟨s0, s1⟩
     go_simp
     with_reducible rfl
    rotate_left
    ·exact t4_
    refine one_ (i := 6) (N := some 40) #[true, true, true, true, true, true, true, true, true, true, false, false] rfl rfl (one_of HT_.out (by kernel_rfl)) (by decide) (fun K hK => ?_)
    refine goes_ Try.func61 (by kernel_rfl) rfl #[.agg #[.slice A0_0 l0_0.length c0_0], .int .i64 (rd l1 x10_3), .int .i64 a2] (by rfl) rfl rfl t1_ ?_
    with_reducible refine (spec_l01Distance.calls k3 _ _ l0_0 (rd l1 x10_3) a2 t109 _ ?side1 ?side2 A21.out).mono ?_
    (case side1 => exact c2_ HR0_0 HB)
    (case side2 => exact HC0_0.out)
    rintro e w30 ⟨rfl, hb⟩
    refine ⟨_, rfl, ?_⟩
    replace HO_9 := a1_ HO_9 hb
    replace BK101 := a2_ BK101 hb
    replace HB := b1_ HB hb
    (try clear hb)
    (try clear hb2)
    (try clear hk)
    (try clear hi)
    refine hK.out _ _ ⟨(blk_cell BK101.out 0).trans rfl, ((HB.out.cell (World.block_lt_of_cell? _ _ hw108_0)).trans hw108_0)⟩ (fun hHeld => ?_)
    clear hK K
    refine norm_ (a' := ?_) ?_ ?_
    rotate_left
    ·show Act.put _ (some 40) _ = _
     simp only [Act.put, List.setIfInBounds_toArray, List.set_cons_zero, List.set_cons_succ, i64_w, i32_w]
     rfl
    refine one_ (i := 10) (N := some 44) #[true, true, true, true, true, true, true, true, true, true, true, false] rfl rfl (one_of HT_.out (by kernel_rfl)) (by decide) (fun K hK => ?_)
    refine goes_ Try.func89 (by kernel_rfl) rfl #[.agg #[.slice A0_0 l0_0.length c0_0], .slice (some ad108) l1.length c1, .int .i64 a2] (by rfl) rfl rfl t1_ ?_
    with_reducible refine (spec_l02To.calls k3 _ _ l0_0 _ _ l1 a2 t110 _ ?side1 ?side2 ?side3 ?side4 A22.out).mono ?_
    (case side1 => exact c2_ HR0_0 HB)
    (case side2 => exact HC0_0.out)
    (case side3 => exact c2_ HR1 HB)
    (case side4 => exact HC1.out)
    rintro e w31 ⟨rfl, hb⟩
    refine ⟨_, rfl, ?_⟩
    replace HO_9 := a1_ HO_9 hb
    replace BK101 := a2_ BK101 hb
    replace HB := b1_ HB hb
    (try clear hb)
    (try clear hb2)
    (try clear hk)
    (try clear hi)
    refine hK.out _ _ ⟨(blk_cell BK101.out 0).trans rfl, ((HB.out.cell (World.block_lt_of_cell? _ _ hw108_0)).trans hw108_0)⟩ (fun hHeld => ?_)
    clear hK K
    refine norm_ (a' := ?_) ?_ ?_
    rotate_left
    ·show Act.put _ (some 44) _ = _
     simp only [Act.put, List.setIfInBounds_toArray, List.set_cons_zero, List.set_cons_succ, i64_w, i32_w]
     rfl
    refine pure_ (i := 11) (N := some 45) (v := ?_) (a' := ?_) #[true, true, true, true, true, true, true, true, true, true, true, true] rfl rfl (any_of HT_.out (by kernel_rfl)) (fun _ _ _ h => h) (Or.inl ⟨by rfl, ?_⟩) ?_ ?_
    rotate_left
    ·intro w'
     go_simp
     with_reducible rfl
    rotate_left
    ·exact t4_
    refine done_ (done_of HT_.out (by kernel_rfl)) ?_
    try go_wp2
    go_roundg k3
    case measure => have := HJ4.out; have := HJ13.out; have := HK3.out; omega
    case rel => exact ⟨(x9_3), (wrap64 (x10_3 + 1)), t2_, H', ⟨by have := HJ4.out; have := HJ13.out; have := HK3.out; omega⟩, ⟨rb_ HO_9.out⟩, ⟨bb_ BK101.out⟩, ⟨gb_ HB.out⟩⟩
   rw [if_pos c23] at H
   have c23b0 : (t109 == t110) = true := beq_iff_eq.mpr c23
   have c23b1 : (t109 != t110) = false := bne_eq_false_iff_eq.mpr c23
   clear c23
   by_cases c24 : x9_3.length < 17592186044416
   rotate_left
   ·rw [if_neg c24] at H
    exact absurd H (by simp)
   rw [if_pos c24] at H
   have LMc24 := Aside0.mk c24
   clear c24
   obtain ⟨y112, hy112⟩ : ∃ y_ : List Int, y_ = (x9_3 ++ [rd l1 x10_3]) := ⟨_, rfl⟩
   replace H : (spec_NearestWords.l0 k3 l1 a2 y112 (wrap64 (x10_3 + 1)) l0_0) = some (r1, r2) := by first | (rw [hy112]; with_reducible exact H) | (have H2_ := (Option.bind_some _ _).symm.trans H; rw [hy112]; with_reducible exact H2_) | (have H2_ := (Option.bind_some _ _).symm.trans H; with_reducible exact H2_) | with_reducible exact H | (rw [hy112]; exact H) | exact H
   have Ny112 := Aside0.mk hy112
   clear hy112
   have H' := Aside0.mk H
   clear H
   try go_wp2
   replace HO_9 := Aside0.mk (Kd.R_drew HO_9.out)
   replace BK101 := Aside0.mk (blk_drew BK101.out)
   replace HB := Aside0.mk (below_drew1 HB.out)
   have p108 : 0 ≤ (x10_3 : Int) := of_decide_eq_true (by first | (with_reducible assumption) | assumption)
   have q108 : x10_3 < (l1.length : Int) := of_decide_eq_true (by first | (with_reducible assumption) | assumption)
   obtain ⟨ad108, e108, hx108_0⟩ := Kd.at_int HR1.out x10_3 p108 q108
   have hw108_0 := hx108_0
   cases e108
   replace hx108_0 := (HB.out.cell (World.block_lt_of_cell? _ _ hx108_0)).trans hx108_0
   replace p108 := eq_true p108
   replace q108 := eq_true q108
   refine start_ (n := 12) (S := fun w' => w'.cell? ⟨gb101, 0, none⟩ = some (.slice A0_0 l0_0.length c0_0) ∧ w'.cell? (ad108.add (x10_3).toNat) = some (.int .i64 (rd l1 x10_3))) (ds := []) #[false, false, false, false, false, false, false, false, false, false, false, false] (by kernel_rfl) rfl rfl ⟨(blk_cell BK101.out 0).trans rfl, ((HB.out.cell (World.block_lt_of_cell? _ _ hw108_0)).trans hw108_0)⟩ (fun hHeld => ?_); refine with_tabW spec_NearestWords.tab10 spec_NearestWords.bits10 (fun HT_ HW_ => ?_)
   generalize wr.drew = w25 at HO_9 BK101 HB hx108_0 hHeld ⊢
   refine pure_ (i := 1) (N := some 35) (v := ?_) (a' := ?_) #[false, true, false, false, false, false, false, false, false, false, false, false] rfl rfl (any_of HT_.out (by kernel_rfl)) (fun _ _ _ h => h) (Or.inl ⟨by rfl, ?_⟩) ?_ ?_
   rotate_left
   ·intro w'
    go_simp
    with_reducible rfl
   rotate_left
   ·exact t4_
   refine pure_ (i := 2) (N := some 36) (v := ?_) (a' := ?_) #[false, true, true, false, false, false, false, false, false, false, false, false] rfl rfl (any_of HT_.out (by kernel_rfl)) (fun _ _ _ h => h) (Or.inl ⟨by rfl, ?_⟩) ?_ ?_
   rotate_left
   ·intro w'
    go_simp
    with_reducible rfl
   rotate_left
   ·exact t4_
   refine pure_ (i := 3) (N := some 37) (v := ?_) (a' := ?_) #[false, true, true, true, false, false, false, false, false, false, false, false] rfl rfl (any_of HT_.out (by kernel_rfl)) (fun _ _ _ h => h) (Or.inl ⟨by rfl, ?_⟩) ?_ ?_
   rotate_left
   ·intro w'
    go_simp
    with_reducible rfl
   rotate_left
   ·exact t4_
   refine pure_ (i := 5) (N := some 39) (v := ?_) (a' := ?_) #[false, true, true, true, false, true, false, false, false, false, false, false] rfl rfl (any_of HT_.out (by kernel_rfl)) (fun _ _ _ h => h) (Or.inl ⟨by rfl, ?_⟩) ?_ ?_
   rotate_left
   ·intro w'
    go_simp
    with_reducible rfl
   rotate_left
   ·exact t4_
   refine pure_ (i := 8) (N := some 42) (v := ?_) (a' := ?_) #[false, true, true, true, false, true, false, false, true, false, false, false] rfl rfl (any_of HT_.out (by kernel_rfl)) (fun _ _ _ h => h) (Or.inl ⟨by rfl, ?_⟩) ?_ ?_
   rotate_left
   ·intro w'
    go_simp
    with_reducible rfl
   rotate_left
   ·exact t4_
   refine pure_ (i := 9) (N := some 43) (v := ?_) (a' := ?_) #[false, true, true, true, false, true, false, false, true, true, false, false] rfl rfl (any_of HT_.out (by kernel_rfl)) (fun _ _ _ h => h) (Or.inl ⟨by rfl, ?_⟩) ?_ ?_
   rotate_left
   ·intro w'
    go_simp
    with_reducible rfl
   rotate_left
   ·exact t4_
   refine take_ (i := 0) (N := some 34) (v := ?_) (a' := ?_) #[true, true, true, true, false, true, false, false, true, true, false, false] rfl rfl (take_ofW HT_.out HW_.out (by kernel_rfl)) (fun _ _ _ h => h) (Or.inl ⟨by rfl, ?_⟩) hHeld ?_ ?_
   rotate_left
   ·rintro w' ⟨s0, s1⟩
    go_simp
    with_reducible rfl
   rotate_left
   ·exact t4_
   refine take_ (i := 4) (N := some 38) (v := ?_) (a' := ?_) #[true, true, true, true, true, true, false, false, true, true, false, false] rfl rfl (take_ofW HT_.out HW_.out (by kernel_rfl)) (fun _ _ _ h => h) (Or.inl ⟨by rfl, ?_⟩) hHeld ?_ ?_
   rotate_left
   ·rintro w' ⟨s0, s1⟩
    go_simp
    with_reducible rfl
   rotate_left
   ·exact t4_
   refine take_ (i := 7) (N := some 41) (v := ?_) (a' := ?_) #[true, true, true, true, true, true, false, true, true, true, false, false] rfl rfl (take_ofW HT_.out HW_.out (by kernel_rfl)) (fun _ _ _ h => h) (Or.inl ⟨by rfl, ?_⟩) hHeld ?_ ?_
   rotate_left
   ·rintro w' ⟨s0, s1⟩
    go_simp
    with_reducible rfl
   rotate_left
   ·exact t4_
   refine one_ (i := 6) (N := some 40) #[true, true, true, true, true, true, true, true, true, true, false, false] rfl rfl (one_of HT_.out (by kernel_rfl)) (by decide) (fun K hK => ?_)
   refine goes_ Try.func61 (by kernel_rfl) rfl #[.agg #[.slice A0_0 l0_0.length c0_0], .int .i64 (rd l1 x10_3), .int .i64 a2] (by rfl) rfl rfl t1_ ?_
   with_reducible refine (spec_l01Distance.calls k3 _ _ l0_0 (rd l1 x10_3) a2 t109 _ ?side1 ?side2 A21.out).mono ?_
   (case side1 => exact c2_ HR0_0 HB)
   (case side2 => exact HC0_0.out)
   rintro e w26 ⟨rfl, hb⟩
   refine ⟨_, rfl, ?_⟩
   replace HO_9 := a1_ HO_9 hb
   replace BK101 := a2_ BK101 hb
   replace HB := b1_ HB hb
   (try clear hb)
   (try clear hb2)
   (try clear hk)
   (try clear hi)
   refine hK.out _ _ ⟨(blk_cell BK101.out 0).trans rfl, ((HB.out.cell (World.block_lt_of_cell? _ _ hw108_0)).trans hw108_0)⟩ (fun hHeld => ?_)
   clear hK K
   refine norm_ (a' := ?_) ?_ ?_
   rotate_left
   ·show Act.put _ (some 40) _ = _
    simp only [Act.put, List.setIfInBounds_toArray, List.set_cons_zero, List.set_cons_succ, i64_w, i32_w]
    rfl
   refine one_ (i := 10) (N := some 44) #[true, true, true, true, true, true, true, true, true, true, true, false] rfl rfl (one_of HT_.out (by kernel_rfl)) (by decide) (fun K hK => ?_)
   refine goes_ Try.func89 (by kernel_rfl) rfl #[.agg #[.slice A0_0 l0_0.length c0_0], .slice (some ad108) l1.length c1, .int .i64 a2] (by rfl) rfl rfl t1_ ?_
   with_reducible refine (spec_l02To.calls k3 _ _ l0_0 _ _ l1 a2 t110 _ ?side1 ?side2 ?side3 ?side4 A22.out).mono ?_
   (case side1 => exact c2_ HR0_0 HB)
   (case side2 => exact HC0_0.out)
   (case side3 => exact c2_ HR1 HB)
   (case side4 => exact HC1.out)
   rintro e w27 ⟨rfl, hb⟩
   refine ⟨_, rfl, ?_⟩
   replace HO_9 := a1_ HO_9 hb
   replace BK101 := a2_ BK101 hb
   replace HB := b1_ HB hb
   (try clear hb)
   (try clear hb2)
   (try clear hk)
   (try clear hi)
   refine hK.out _ _ ⟨(blk_cell BK101.out 0).trans rfl, ((HB.out.cell (World.block_lt_of_cell? _ _ hw108_0)).trans hw108_0)⟩ (fun hHeld => ?_)
   clear hK K
   refine norm_ (a' := ?_) ?_ ?_
   rotate_left
   ·show Act.put _ (some 44) _ = _
    simp only [Act.put, List.setIfInBounds_toArray, List.set_cons_zero, List.set_cons_succ, i64_w, i32_w]
    rfl
   refine pure_ (i := 11) (N := some 45) (v := ?_) (a' := ?_) #[true, true, true, true, true, true, true, true, true, true, true, true] rfl rfl (any_of HT_.out (by kernel_rfl)) (fun _ _ _ h => h) (Or.inl ⟨by rfl, ?_⟩) ?_ ?_
   rotate_left
   ·intro w'
    go_simp
    with_reducible rfl
   rotate_left
   ·exact t4_
   refine done_ (done_of HT_.out (by kernel_rfl)) ?_
   have p111 : 0 ≤ (x10_3 : Int) := of_decide_eq_true (by first | (with_reducible assumption) | assumption)
   have q111 : x10_3 < (l1.length : Int) := of_decide_eq_true (by first | (with_reducible assumption) | assumption)
   obtain ⟨ad111, e111, hx111_0⟩ := Kd.at_int HR1.out x10_3 p111 q111
   obtain rfl : ad108 = ad111 := (by injection e111)
   replace hx111_0 := (HB.out.cell (World.block_lt_of_cell? _ _ hx111_0)).trans hx111_0
   replace p111 := eq_true p111
   replace q111 := eq_true q111
   try go_wp2_with (first | ((with_reducible refine gate_builtin (b := .append) (xs := #[.tmp 46, .tmp 51]) rfl ?_); at_builtin; refine Kd.R_append (Kd.int .i64) (w0 := w) w.heap.size rfl (.tmp 46) (.tmp 51) 24 2 (.int .i64 0) 8 rfl Try.underlying24 info2 rfl (by decide) (by omega) u9 x9_3 (rd l1 x10_3) [.int .i64 (rd l1 x10_3)] (fun _ => True) (fun _ => False) rfl rfl ?aP (fun _ hk => hk.elim) ?aF ?aO ?aB ?aS ?aL ?_; (case aP => exact rfl); (case aB => exact (gb_ HB.out)); (case aF => exact (fun _ _ => trivial)); (case aO => exact (rb_ HO_9.out)); (case aS => exact (below_size (gb_ HB.out))); (case aL => have := LMc24.out; omega); intro v113 w28 ho hb hg hat; rw [← Ny112.out] at ho; have n0_ := Aside0.mk (blk_grown (g := gb101) (o := .cells #[.slice A0_0 l0_0.length c0_0] 26 (0, 0)) (bb_ BK101.out) hg (Kd.R_ne HO_9.out BK101.out (by decide))); have n1_ := Aside0.mk (hb); have n2_ := Aside0.mk (ho); clear BK101 HB HO_9; have BK101 := n0_; have HB := n1_; have HO114 := n2_; clear n0_ n1_ n2_ ho hb hg hat))
   go_roundg k3
   case measure => have := HJ4.out; have := HJ13.out; have := HK3.out; omega
   case rel => exact ⟨(y112), (wrap64 (x10_3 + 1)), t2_, H', ⟨by have := HJ4.out; have := HJ13.out; have := HK3.out; omega⟩, ⟨rb_ HO114.out⟩, ⟨bb_ BK101.out⟩, ⟨gb_ HB.out⟩⟩
end Go.Proofs.Ytlfipjdjmpdblaa.P
set_option linter.unusedVariables false
set_option linter.unusedSimpArgs false
namespace Go.Proofs.Ytlfipjdjmpdblaa.P
open Go.RowKit Go.Proofs.YtlfipjdjmpdblaaW.PrintWords Go.Proofs.YtlfipjdjmpdblaaW.PrintLast Go.Proofs.YtlfipjdjmpdblaaW.PrintMore CC
def allOf (s C : List Int) (n : Nat) : List (List Int) := (C.take n).map fun x => dig8 s x
theorem take_rdO {d : List Int} {n : Nat} (hn : n < d.length) : d.take (n + 1) = d.take n ++ [rd d (n : Int)] := by
  rw [List.take_add_one]
  simp [rd, List.getD_eq_getElem?_getD, hn]
theorem flat8_of {s C : List Int} {n : Nat} (h : n < C.length) : flat8 (allOf s C (n + 1)) = flat8 (allOf s C n) ++ nums .u8 (dig8 s (rd C (n : Int))) := by
  simp [flat8, allOf, take_rdO h]
theorem code_rdO {s c : List Int} (hc : c.all (isW s) = true) {n : Nat} (h : n < c.length) : 0 ≤ rd c (n : Int) ∧ rd c (n : Int) < prd s := by
  have : rd c (n : Int) = c[n] := by simp [rd, List.getD_eq_getElem?_getD, h]
  rw [this, ← isW_iff]
  exact List.all_eq_true.1 hc _ (List.getElem_mem h)
set_option maxHeartbeats 4000000 in
set_option maxRecDepth 100000 in
theorem digitsOfAll_calls (A : Option Addr) (c : Nat) (s : List Int) (A1 : Option Addr) (c1 : Nat) (C : List Int) (w : World) (hr : Kd.C (Kd.int .i64) w A s.length s) (hc : s.length ≤ c) (hr1 : Kd.C (Kd.int .i64) w A1 C.length C) (hc1 : C.length ≤ c1) (hs : isSp s = true) (hC : C.all (isW s) = true) (hCl : C.length ≤ 1048576) :
    Calls Try.prog 119 #[.agg #[.slice A s.length c], .slice A1 C.length c1] w
      fun e w' => ∃ v, e = .returned v ∧ w'.ownsRow w.heap.size 54 8 v C.length (flat8 (allOf s C C.length)) ∧ Below w.heap.size w w' := by
  have huS := Try.underlying26
  have huD := Try.underlying54
  have HR := Aside0.mk hr
  have HR1 := Aside0.mk hr1
  have HS := Aside0.mk hs
  have HC := Aside0.mk hC
  have p1 := isSp_prd hs
  clear hr hr1 hs hC
  obtain ⟨i0, hi, hz0, hz1, hz2⟩ := info_parts infoD
  have HI := Aside0.mk (And.intro hi (And.intro hz0 (And.intro hz1 hz2)))
  clear hi hz0 hz1 hz2
  go_enter Try.func119, Try.ntmps119
  go_wp2_with fail
  have hcell : ((w.alloc (.cells #[.slice A s.length c] 26)).alloc (.cells #[] 54)).heap[w.heap.size]? = some (.cells #[.slice A s.length c] 26 (0, 0)) := blk_alloc (blk_new _ _) _
  have hB : Below w.heap.size w ((w.alloc (.cells #[.slice A s.length c] 26)).alloc (.cells #[] 54)) := ((Below.refl _ _).alloc (Nat.le_refl _) _).alloc (by simp) _
  have hO : ((w.alloc (.cells #[.slice A s.length c] 26)).alloc (.cells #[] 54)).ownsRow w.heap.size 54 8 (.slice (some ⟨w.heap.size + 1, 0, none⟩) 0 0) 0 [] :=
    ⟨rfl, .inr ⟨w.heap.size + 1, 0, #[], rfl, by omega, by simpa using blk_new (w.alloc (.cells #[.slice A s.length c] 26)) (.cells #[] 54), by omega, by unfold maxLen; omega, rfl, rfl⟩⟩
  have K1 := Aside0.mk hcell
  have B1 := Aside0.mk hB
  have O1 := Aside0.mk hO
  clear hcell hB hO
  go_loopw [5, 11] (fun v i W => ∃ (n : Nat), n ≤ C.length ∧ i = .int .i64 n ∧ Aside0 (W.ownsRow w.heap.size 54 8 v n (flat8 (allOf s C n))) ∧ Aside0 (W.heap[w.heap.size]? = some (.cells #[.slice A s.length c] 26 (0, 0))) ∧ Aside0 (Below w.heap.size w W)) (fun _ i _ => C.length - (intOf i).toNat)
  case atStart => exact ⟨0, by omega, rfl, ⟨O1.out⟩, K1, B1⟩
  case round =>
    obtain ⟨n, hn, rfl, HO, HK, HB⟩ := hrel
    clear K1 B1 O1
    by_cases hlt : n < C.length
    · obtain ⟨ad1, e1, _⟩ := Kd.at_int HR1.out (n : Int) (by omega) (by omega)
      subst e1
      have hx := rd_cell HR1.out HB.out n hlt
      obtain ⟨c0, c1'⟩ := code_rdO HC.out hlt
      have F8 := Aside0.mk (flat8_of (s := s) hlt)
      generalize rd C (n : Int) = x at *
      have hcz : wr.cell? ⟨w.heap.size, 0, none⟩ = some (.slice A s.length c) := blk_cell HK.out 0
      go_wp2_with fail
      refine (digitsOf_calls A c s x _ (Kd.C_below HR.out HB.out) hc HS.out (by omega) (by omega)).mono ?_
      rintro e w2 ⟨rfl, hb2⟩
      have O2 := Aside0.mk (pw_own_below HO.out hb2)
      have C2 := Aside0.mk (blk_below HK.out hb2)
      have B2 := Aside0.mk (below_then HB.out HB.out.size hb2)
      clear HO HK HB hcz hb2 hx
      have E8 := Aside0.mk (dig8_length s x)
      have hd8 : dloop s s.length x (List.replicate 8 0) = dig8 s x := rfl
      rw [hd8]
      clear hd8
      generalize dig8 s x = d at *
      obtain ⟨y0, y1, y2, y3, y4, y5, y6, y7, rfl⟩ := eight E8.out
      have ea : arr8 [y0, y1, y2, y3, y4, y5, y6, y7] = .agg #[.int .u8 y0, .int .u8 y1, .int .u8 y2, .int .u8 y3, .int .u8 y4, .int .u8 y5, .int .u8 y6, .int .u8 y7] := rfl
      rw [ea]
      clear ea
      go_wp2_with (at_builtin; obtain ⟨hi, hz0, hz1, hz2⟩ := HI.out; refine wpList_append_own _ rfl _ _ 78 rfl w.heap.size 54 i0 (.agg #[.int .u8 0, .int .u8 0, .int .u8 0, .int .u8 0, .int .u8 0, .int .u8 0, .int .u8 0, .int .u8 0]) 8 8 Try.underlying78 hi hz0 hz1 hz2 rfl (by decide) _ n (flat8 (allOf s C n)) rfl (O2.out.alloc _) ⟨w2.heap.size, 0, none⟩ 1 1 [.int .u8 y0, .int .u8 y1, .int .u8 y2, .int .u8 y3, .int .u8 y4, .int .u8 y5, .int .u8 y6, .int .u8 y7] rfl ?c0 ?c1 ?c2 ?c3 ?c4 ?c5 ?_; clear hi hz0 hz1 hz2)
      case c0 => rfl
      case c1 =>
        intro j u hj
        have hb := blk_cell (blk_new w2 (.cells #[.int .u8 y0, .int .u8 y1, .int .u8 y2, .int .u8 y3, .int .u8 y4, .int .u8 y5, .int .u8 y6, .int .u8 y7] 54)) j
        rw [add_plain, hb]
        simpa using hj
      case c2 => intro u hu; simp only [List.mem_cons, List.not_mem_nil, or_false] at hu; rcases hu with rfl | rfl | rfl | rfl | rfl | rfl | rfl | rfl <;> rfl
      case c3 => unfold maxLen; omega
      case c4 => omega
      case c5 => have := B2.out.size; simp; omega
      intro v' w3 O3 G3 _
      have O4 : Aside0 (w3.ownsRow w.heap.size 54 8 v' (n + 1) (flat8 (allOf s C (n + 1)))) := ⟨by rw [F8.out]; exact O3⟩
      have C3 := Aside0.mk (blk_grown (blk_alloc C2.out _) G3 (own_ne O2.out C2.out (by decide)))
      have B3 := Aside0.mk (pw_below_grown (below_alloc B2.out _) _ (by have := B2.out.size; simp; omega) G3 (fun k hk => own_base O2.out k hk))
      clear O3 G3 O2 C2 B2 F8 E8
      go_wp2
      go_roundw
      case rel => exact ⟨n + 1, by omega, by go_num, O4, C3, B3⟩
      case measure => simp [intOf]; omega
    · go_wp2
      go_ret
      have hn : n = C.length := by omega
      subst hn
      exact ⟨_, rfl, HO.out, HB.out⟩
end Go.Proofs.Ytlfipjdjmpdblaa.P
namespace Go.Proofs.Ytlfipjdjmpdblaa.P
open Go.RowKit Go.Proofs.YtlfipjdjmpdblaaW.PrintWords Go.Proofs.YtlfipjdjmpdblaaW.PrintLast Go.Proofs.YtlfipjdjmpdblaaW.PrintMore
attribute [local go_sem] max2_int min2_int max_two min_two max_three min_three max_four min_four
set_option linter.unusedVariables false
set_option linter.unusedSimpArgs false
def spec_l02Full.f (k : Nat) (l0_0 : List Int) (l1 : List Int) : Option (Int) := (spec_l01Given.f k l0_0 l1).bind fun t102 => (if t102 = 0 then (if (l1.length : Int) = 0 then (some 5) else (some t102)) else (some t102))
set_option maxHeartbeats 8000000 in
set_option maxRecDepth 100000 in
theorem spec_l02Full.calls (k : Nat) (A0_0 : Option Addr) (c0_0 : Nat) (l0_0 : List Int) (A1 : Option Addr) (c1 : Nat) (l1 : List Int) (r : Int) (w : World) (hr0_0 : Kd.C (Kd.int .i64) w A0_0 l0_0.length l0_0) (hc0_0 : l0_0.length ≤ c0_0) (hr1 : Kd.C (Kd.int .i64) w A1 l1.length l1) (hc1 : l1.length ≤ c1) (h : spec_l02Full.f k l0_0 l1 = some r) :
  Calls Try.prog 92 #[.agg #[.slice A0_0 l0_0.length c0_0], .slice A1 l1.length c1] w fun e w' => e = .returned (.int .i64 r) ∧ Below w.heap.size w w' := by
 have hu26 := Try.underlying26
 have HR0_0 := Aside0.mk hr0_0
 have HC0_0 := Aside0.mk hc0_0
 clear hr0_0 hc0_0
 have HR1 := Aside0.mk hr1
 have HC1 := Aside0.mk hc1
 clear hr1 hc1
 have HB := Aside0.mk (Below.refl w.heap.size w)
 have H : ((spec_l01Given.f k l0_0 l1).bind fun t102 => (if t102 = 0 then (if (l1.length : Int) = 0 then (some 5) else (some t102)) else (some t102))) = some r := h
 clear h
 replace H := Option.bind_eq_some_iff.mp H
 obtain ⟨t102, A30, H⟩ := H
 replace H : (if t102 = 0 then (if (l1.length : Int) = 0 then (some 5) else (some t102)) else (some t102)) = some r := H
 have A3 := Aside0.mk A30
 clear A30
 by_cases c4 : t102 = 0
 rotate_left
 ·rw [if_neg c4] at H
  have c4b0 : (t102 == 0) = false := beq_eq_false_iff_ne.mpr c4
  have c4b1 : (t102 != 0) = true := bne_iff_ne.mpr c4
  obtain rfl := Option.some.inj H
  go_enter Try.func92, Try.ntmps92
  go_wp2_with (first | ((with_reducible refine gate_dst (N := 2) rfl ?_); refine box_event ?hg (N := 2) ?hd (cs := #[.slice A0_0 l0_0.length c0_0]) (t := 26) ?hr ?_; (case hd => rfl); (case hg => rfl); (case hr => exact t3_); intro gb101 hg w12 hbox hb; have n0_ := b1_ HB hb; have n1_ := Aside0.mk (hbox); have n2_ := Aside0.mk ((by rw [hg]; exact (below_size (gb_ HB.out)) : w.heap.size ≤ gb101)); have n3_ := Aside0.mk ((by rw [hg]; exact (below_size (gb_ HB.out)) : w.heap.size ≤ gb101)); clear HB; have HB := n0_; have BK101 := n1_; have GW101 := n2_; have GE101 := n3_; clear n0_ n1_ n2_ n3_ hb hbox hg; have hcz13_0 : w12.cell? ⟨gb101, 0, none⟩ = some (.slice A0_0 l0_0.length c0_0) := (blk_cell BK101.out 0).trans rfl; have hfz13_0 := blk_frozen BK101.out 0) | ((with_reducible refine gate_callee (f := 88) rfl ?_); refine goesL_ (some 8) rfl rfl Try.func88 (by kernel_rfl) rfl #[.agg #[.slice A0_0 l0_0.length c0_0], .slice A1 l1.length c1] rfl t1_ ?_; (with_reducible refine (spec_l01Given.calls k _ _ l0_0 _ _ l1 t102 _ ?side1 ?side2 ?side3 ?side4 A3.out).mono ?_); (case side1 => exact c2_ HR0_0 HB); (case side2 => exact HC0_0.out); (case side3 => exact c2_ HR1 HB); (case side4 => exact HC1.out); rintro e w14 ⟨rfl, hb⟩; refine ⟨_, rfl, ?_⟩; replace BK101 := a2_ BK101 hb; replace HB := b1_ HB hb; (try clear hb); (try clear hb2); (try clear hk); (try clear hi)))
  go_ret
  exact ⟨t5_, gb_ HB.out⟩

 rw [if_pos c4] at H
 have c4b0 : (t102 == 0) = true := beq_iff_eq.mpr c4
 have c4b1 : (t102 != 0) = false := bne_eq_false_iff_eq.mpr c4
 clear c4
 by_cases c5 : (l1.length : Int) = 0
 ·rw [if_pos c5] at H
  have c5b0 : ((l1.length : Int) == 0) = true := beq_iff_eq.mpr c5
  have c5b1 : ((l1.length : Int) != 0) = false := bne_eq_false_iff_eq.mpr c5
  clear c5
  obtain rfl := Option.some.inj H
  go_enter Try.func92, Try.ntmps92
  go_wp2_with (first | ((with_reducible refine gate_dst (N := 2) rfl ?_); refine box_event ?hg (N := 2) ?hd (cs := #[.slice A0_0 l0_0.length c0_0]) (t := 26) ?hr ?_; (case hd => rfl); (case hg => rfl); (case hr => exact t3_); intro gb101 hg w6 hbox hb; have n0_ := b1_ HB hb; have n1_ := Aside0.mk (hbox); have n2_ := Aside0.mk ((by rw [hg]; exact (below_size (gb_ HB.out)) : w.heap.size ≤ gb101)); have n3_ := Aside0.mk ((by rw [hg]; exact (below_size (gb_ HB.out)) : w.heap.size ≤ gb101)); clear HB; have HB := n0_; have BK101 := n1_; have GW101 := n2_; have GE101 := n3_; clear n0_ n1_ n2_ n3_ hb hbox hg; have hcz7_0 : w6.cell? ⟨gb101, 0, none⟩ = some (.slice A0_0 l0_0.length c0_0) := (blk_cell BK101.out 0).trans rfl; have hfz7_0 := blk_frozen BK101.out 0) | ((with_reducible refine gate_callee (f := 88) rfl ?_); refine goesL_ (some 8) rfl rfl Try.func88 (by kernel_rfl) rfl #[.agg #[.slice A0_0 l0_0.length c0_0], .slice A1 l1.length c1] rfl t1_ ?_; (with_reducible refine (spec_l01Given.calls k _ _ l0_0 _ _ l1 t102 _ ?side1 ?side2 ?side3 ?side4 A3.out).mono ?_); (case side1 => exact c2_ HR0_0 HB); (case side2 => exact HC0_0.out); (case side3 => exact c2_ HR1 HB); (case side4 => exact HC1.out); rintro e w8 ⟨rfl, hb⟩; refine ⟨_, rfl, ?_⟩; replace BK101 := a2_ BK101 hb; replace HB := b1_ HB hb; (try clear hb); (try clear hb2); (try clear hk); (try clear hi)))
  go_ret
  exact ⟨t5_, gb_ HB.out⟩
 rw [if_neg c5] at H
 have c5b0 : ((l1.length : Int) == 0) = false := beq_eq_false_iff_ne.mpr c5
 have c5b1 : ((l1.length : Int) != 0) = true := bne_iff_ne.mpr c5
 have c5b2 : ¬ (l1 = []) := fun h_ => c5 (by rw [h_]; rfl)
 obtain rfl := Option.some.inj H
 go_enter Try.func92, Try.ntmps92
 go_wp2_with (first | ((with_reducible refine gate_dst (N := 2) rfl ?_); refine box_event ?hg (N := 2) ?hd (cs := #[.slice A0_0 l0_0.length c0_0]) (t := 26) ?hr ?_; (case hd => rfl); (case hg => rfl); (case hr => exact t3_); intro gb101 hg w9 hbox hb; have n0_ := b1_ HB hb; have n1_ := Aside0.mk (hbox); have n2_ := Aside0.mk ((by rw [hg]; exact (below_size (gb_ HB.out)) : w.heap.size ≤ gb101)); have n3_ := Aside0.mk ((by rw [hg]; exact (below_size (gb_ HB.out)) : w.heap.size ≤ gb101)); clear HB; have HB := n0_; have BK101 := n1_; have GW101 := n2_; have GE101 := n3_; clear n0_ n1_ n2_ n3_ hb hbox hg; have hcz10_0 : w9.cell? ⟨gb101, 0, none⟩ = some (.slice A0_0 l0_0.length c0_0) := (blk_cell BK101.out 0).trans rfl; have hfz10_0 := blk_frozen BK101.out 0) | ((with_reducible refine gate_callee (f := 88) rfl ?_); refine goesL_ (some 8) rfl rfl Try.func88 (by kernel_rfl) rfl #[.agg #[.slice A0_0 l0_0.length c0_0], .slice A1 l1.length c1] rfl t1_ ?_; (with_reducible refine (spec_l01Given.calls k _ _ l0_0 _ _ l1 t102 _ ?side1 ?side2 ?side3 ?side4 A3.out).mono ?_); (case side1 => exact c2_ HR0_0 HB); (case side2 => exact HC0_0.out); (case side3 => exact c2_ HR1 HB); (case side4 => exact HC1.out); rintro e w11 ⟨rfl, hb⟩; refine ⟨_, rfl, ?_⟩; replace BK101 := a2_ BK101 hb; replace HB := b1_ HB hb; (try clear hb); (try clear hb2); (try clear hk); (try clear hi)))
 go_ret
 exact ⟨t5_, gb_ HB.out⟩
end Go.Proofs.Ytlfipjdjmpdblaa.P
namespace Go.Proofs.Ytlfipjdjmpdblaa.P
open Go.RowKit Go.Proofs.YtlfipjdjmpdblaaW.PrintWords Go.Proofs.YtlfipjdjmpdblaaW.PrintLast Go.Proofs.YtlfipjdjmpdblaaW.PrintMore
attribute [local go_sem] max2_int min2_int max_two min_two max_three min_three max_four min_four
set_option linter.unusedVariables false
set_option linter.unusedSimpArgs false
def impl_someCode.f (k : Nat) (l0_0 : List Int) (l1 : List Int) (l2 : List Int) : Option (Int) := (impl_codeCode.f k l0_0 l1 l2).bind fun t102 => (if t102 = 0 then (if (l1.length : Int) = 0 then (some 5) else (some 0)) else (some t102))
set_option maxHeartbeats 8000000 in
set_option maxRecDepth 100000 in
theorem impl_someCode.calls (k : Nat) (A0_0 : Option Addr) (c0_0 : Nat) (l0_0 : List Int) (A1 : Option Addr) (c1 : Nat) (l1 : List Int) (A2 : Option Addr) (c2 : Nat) (l2 : List Int) (r : Int) (w : World) (hr0_0 : Kd.C (Kd.int .i64) w A0_0 l0_0.length l0_0) (hc0_0 : l0_0.length ≤ c0_0) (hr1 : Kd.C (Kd.int .i64) w A1 l1.length l1) (hc1 : l1.length ≤ c1) (hr2 : Kd.C (Kd.int .i64) w A2 l2.length l2) (hc2 : l2.length ≤ c2) (h : impl_someCode.f k l0_0 l1 l2 = some r) :
  Calls Try.prog 90 #[.agg #[.slice A0_0 l0_0.length c0_0], .slice A1 l1.length c1, .slice A2 l2.length c2] w fun e w' => e = .returned (.int .i64 r) ∧ Below w.heap.size w w' := by
 have hu26 := Try.underlying26
 have HR0_0 := Aside0.mk hr0_0
 have HC0_0 := Aside0.mk hc0_0
 clear hr0_0 hc0_0
 have HR1 := Aside0.mk hr1
 have HC1 := Aside0.mk hc1
 clear hr1 hc1
 have HR2 := Aside0.mk hr2
 have HC2 := Aside0.mk hc2
 clear hr2 hc2
 have HB := Aside0.mk (Below.refl w.heap.size w)
 have H : ((impl_codeCode.f k l0_0 l1 l2).bind fun t102 => (if t102 = 0 then (if (l1.length : Int) = 0 then (some 5) else (some 0)) else (some t102))) = some r := h
 clear h
 replace H := Option.bind_eq_some_iff.mp H
 obtain ⟨t102, A40, H⟩ := H
 replace H : (if t102 = 0 then (if (l1.length : Int) = 0 then (some 5) else (some 0)) else (some t102)) = some r := H
 have A4 := Aside0.mk A40
 clear A40
 by_cases c5 : t102 = 0
 rotate_left
 ·rw [if_neg c5] at H
  have c5b0 : (t102 == 0) = false := beq_eq_false_iff_ne.mpr c5
  have c5b1 : (t102 != 0) = true := bne_iff_ne.mpr c5
  obtain rfl := Option.some.inj H
  go_enter Try.func90, Try.ntmps90
  go_wp2_with (first | ((with_reducible refine gate_dst (N := 3) rfl ?_); refine box_event ?hg (N := 3) ?hd (cs := #[.slice A0_0 l0_0.length c0_0]) (t := 26) ?hr ?_; (case hd => rfl); (case hg => rfl); (case hr => exact t3_); intro gb101 hg w13 hbox hb; have n0_ := b1_ HB hb; have n1_ := Aside0.mk (hbox); have n2_ := Aside0.mk ((by rw [hg]; exact (below_size (gb_ HB.out)) : w.heap.size ≤ gb101)); have n3_ := Aside0.mk ((by rw [hg]; exact (below_size (gb_ HB.out)) : w.heap.size ≤ gb101)); clear HB; have HB := n0_; have BK101 := n1_; have GW101 := n2_; have GE101 := n3_; clear n0_ n1_ n2_ n3_ hb hbox hg; have hcz14_0 : w13.cell? ⟨gb101, 0, none⟩ = some (.slice A0_0 l0_0.length c0_0) := (blk_cell BK101.out 0).trans rfl; have hfz14_0 := blk_frozen BK101.out 0) | ((with_reducible refine gate_callee (f := 87) rfl ?_); refine goesL_ (some 11) rfl rfl Try.func87 (by kernel_rfl) rfl #[.agg #[.slice A0_0 l0_0.length c0_0], .slice A1 l1.length c1, .slice A2 l2.length c2] rfl t1_ ?_; (with_reducible refine (impl_codeCode.calls k _ _ l0_0 _ _ l1 _ _ l2 t102 _ ?side1 ?side2 ?side3 ?side4 ?side5 ?side6 A4.out).mono ?_); (case side1 => exact c2_ HR0_0 HB); (case side2 => exact HC0_0.out); (case side3 => exact c2_ HR1 HB); (case side4 => exact HC1.out); (case side5 => exact c2_ HR2 HB); (case side6 => exact HC2.out); rintro e w15 ⟨rfl, hb⟩; refine ⟨_, rfl, ?_⟩; replace BK101 := a2_ BK101 hb; replace HB := b1_ HB hb; (try clear hb); (try clear hb2); (try clear hk); (try clear hi)))
  go_ret
  exact ⟨t5_, gb_ HB.out⟩

 rw [if_pos c5] at H
 have c5b0 : (t102 == 0) = true := beq_iff_eq.mpr c5
 have c5b1 : (t102 != 0) = false := bne_eq_false_iff_eq.mpr c5
 clear c5
 by_cases c6 : (l1.length : Int) = 0
 ·rw [if_pos c6] at H
  have c6b0 : ((l1.length : Int) == 0) = true := beq_iff_eq.mpr c6
  have c6b1 : ((l1.length : Int) != 0) = false := bne_eq_false_iff_eq.mpr c6
  clear c6
  obtain rfl := Option.some.inj H
  go_enter Try.func90, Try.ntmps90
  go_wp2_with (first | ((with_reducible refine gate_dst (N := 3) rfl ?_); refine box_event ?hg (N := 3) ?hd (cs := #[.slice A0_0 l0_0.length c0_0]) (t := 26) ?hr ?_; (case hd => rfl); (case hg => rfl); (case hr => exact t3_); intro gb101 hg w7 hbox hb; have n0_ := b1_ HB hb; have n1_ := Aside0.mk (hbox); have n2_ := Aside0.mk ((by rw [hg]; exact (below_size (gb_ HB.out)) : w.heap.size ≤ gb101)); have n3_ := Aside0.mk ((by rw [hg]; exact (below_size (gb_ HB.out)) : w.heap.size ≤ gb101)); clear HB; have HB := n0_; have BK101 := n1_; have GW101 := n2_; have GE101 := n3_; clear n0_ n1_ n2_ n3_ hb hbox hg; have hcz8_0 : w7.cell? ⟨gb101, 0, none⟩ = some (.slice A0_0 l0_0.length c0_0) := (blk_cell BK101.out 0).trans rfl; have hfz8_0 := blk_frozen BK101.out 0) | ((with_reducible refine gate_callee (f := 87) rfl ?_); refine goesL_ (some 11) rfl rfl Try.func87 (by kernel_rfl) rfl #[.agg #[.slice A0_0 l0_0.length c0_0], .slice A1 l1.length c1, .slice A2 l2.length c2] rfl t1_ ?_; (with_reducible refine (impl_codeCode.calls k _ _ l0_0 _ _ l1 _ _ l2 t102 _ ?side1 ?side2 ?side3 ?side4 ?side5 ?side6 A4.out).mono ?_); (case side1 => exact c2_ HR0_0 HB); (case side2 => exact HC0_0.out); (case side3 => exact c2_ HR1 HB); (case side4 => exact HC1.out); (case side5 => exact c2_ HR2 HB); (case side6 => exact HC2.out); rintro e w9 ⟨rfl, hb⟩; refine ⟨_, rfl, ?_⟩; replace BK101 := a2_ BK101 hb; replace HB := b1_ HB hb; (try clear hb); (try clear hb2); (try clear hk); (try clear hi)))
  go_ret
  exact ⟨t5_, gb_ HB.out⟩
 rw [if_neg c6] at H
 have c6b0 : ((l1.length : Int) == 0) = false := beq_eq_false_iff_ne.mpr c6
 have c6b1 : ((l1.length : Int) != 0) = true := bne_iff_ne.mpr c6
 have c6b2 : ¬ (l1 = []) := fun h_ => c6 (by rw [h_]; rfl)
 obtain rfl := Option.some.inj H
 go_enter Try.func90, Try.ntmps90
 go_wp2_with (first | ((with_reducible refine gate_dst (N := 3) rfl ?_); refine box_event ?hg (N := 3) ?hd (cs := #[.slice A0_0 l0_0.length c0_0]) (t := 26) ?hr ?_; (case hd => rfl); (case hg => rfl); (case hr => exact t3_); intro gb101 hg w10 hbox hb; have n0_ := b1_ HB hb; have n1_ := Aside0.mk (hbox); have n2_ := Aside0.mk ((by rw [hg]; exact (below_size (gb_ HB.out)) : w.heap.size ≤ gb101)); have n3_ := Aside0.mk ((by rw [hg]; exact (below_size (gb_ HB.out)) : w.heap.size ≤ gb101)); clear HB; have HB := n0_; have BK101 := n1_; have GW101 := n2_; have GE101 := n3_; clear n0_ n1_ n2_ n3_ hb hbox hg; have hcz11_0 : w10.cell? ⟨gb101, 0, none⟩ = some (.slice A0_0 l0_0.length c0_0) := (blk_cell BK101.out 0).trans rfl; have hfz11_0 := blk_frozen BK101.out 0) | ((with_reducible refine gate_callee (f := 87) rfl ?_); refine goesL_ (some 11) rfl rfl Try.func87 (by kernel_rfl) rfl #[.agg #[.slice A0_0 l0_0.length c0_0], .slice A1 l1.length c1, .slice A2 l2.length c2] rfl t1_ ?_; (with_reducible refine (impl_codeCode.calls k _ _ l0_0 _ _ l1 _ _ l2 t102 _ ?side1 ?side2 ?side3 ?side4 ?side5 ?side6 A4.out).mono ?_); (case side1 => exact c2_ HR0_0 HB); (case side2 => exact HC0_0.out); (case side3 => exact c2_ HR1 HB); (case side4 => exact HC1.out); (case side5 => exact c2_ HR2 HB); (case side6 => exact HC2.out); rintro e w12 ⟨rfl, hb⟩; refine ⟨_, rfl, ?_⟩; replace BK101 := a2_ BK101 hb; replace HB := b1_ HB hb; (try clear hb); (try clear hb2); (try clear hk); (try clear hi)))
 go_ret
 exact ⟨t5_, gb_ HB.out⟩
end Go.Proofs.Ytlfipjdjmpdblaa.P
