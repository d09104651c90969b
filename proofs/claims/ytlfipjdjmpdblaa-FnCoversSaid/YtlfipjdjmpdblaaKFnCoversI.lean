/- What the law FnCovers needs, part 9: words, walks of functions (each says that a call returns what the plain Lean function beside it says), plain lemmas. -/
import Derived.Test.YtlfipjdjmpdblaaKFnCoversH
namespace Go.Proofs.Ytlfipjdjmpdblaa.P
open Go.RowKit Go.Proofs.YtlfipjdjmpdblaaW.PrintWords Go.Proofs.YtlfipjdjmpdblaaW.PrintLast Go.Proofs.YtlfipjdjmpdblaaW.PrintMore
attribute [local go_sem] max2_int min2_int max_two min_two max_three min_three max_four min_four
set_option linter.unusedVariables false
set_option linter.unusedSimpArgs false
mutual
def spec_GreedyCode.l0 : Nat → Int → Int → List Int → List Bool → List Int → Int → List Int → Option (List Int × Int)
  | 0, _, _, _, _, _, _, _ => none
  | k + 1, x1, x6, x7, x8, x9, x10, x102000 => if x10 < x6 then (if 0 ≤ x10 then (if x10 < (x8.length : Int) then ((spec_l01Size.f k x102000 x1).bind fun t115 => (if x10 < (x9.length : Int) then (spec_GreedyCode.l0 k x1 x6 x7 (x8.set (x10 : Int).toNat true) (x9.set (x10 : Int).toNat t115) (wrap64 (x10 + 1)) x102000) else (none))) else (none)) else (none)) else (spec_GreedyCode.l1 k x1 x6 x7 x8 x9 x102000)
def spec_GreedyCode.l1 : Nat → Int → Int → List Int → List Bool → List Int → List Int → Option (List Int × Int)
  | 0, _, _, _, _, _, _ => none
  | k + 1, x1, x6, x7, x8, x9, x102000 => spec_GreedyCode.l2 k x1 x6 x7 x8 x9 0 1 x102000
def spec_GreedyCode.l2 : Nat → Int → Int → List Int → List Bool → List Int → Int → Int → List Int → Option (List Int × Int)
  | 0, _, _, _, _, _, _, _, _ => none
  | k + 1, x1, x6, x7, x8, x9, x11, x12, x102000 => if x12 < x6 then (if 0 ≤ x12 then (if x12 < (x9.length : Int) then (if 0 ≤ x11 then (if x11 < (x9.length : Int) then (if (rd x9 x12) > (rd x9 x11) then (spec_GreedyCode.l2 k x1 x6 x7 x8 x9 x12 (wrap64 (x12 + 1)) x102000) else (spec_GreedyCode.l2 k x1 x6 x7 x8 x9 x11 (wrap64 (x12 + 1)) x102000)) else (none)) else (none)) else (none)) else (none)) else (if 0 ≤ x11 then (if x11 < (x9.length : Int) then (if (rd x9 x11) = 0 then (some (x7, 0)) else ((spec_l01Put.f k x7 x11).bind fun t120 => ((spec_l01Ball.f k x102000 x11 x1).bind fun t123 => (spec_GreedyCode.l3 k x1 x6 t120 x8 x9 t123 0 x102000)))) else (none)) else (none))
def spec_GreedyCode.l3 : Nat → Int → Int → List Int → List Bool → List Int → List Int → Int → List Int → Option (List Int × Int)
  | 0, _, _, _, _, _, _, _, _ => none
  | k + 1, x1, x6, x7, x8, x9, x13, x14, x102000 => if x14 < (x13.length : Int) then (if 0 ≤ x14 then (if 0 ≤ (rd x13 x14) then (if (rd x13 x14) < (x8.length : Int) then (if (rdOf false x8 (rd x13 x14) = true) then ((spec_l01Ball.f k x102000 (rd x13 x14) x1).bind fun t131 => (spec_GreedyCode.l4 k x1 x6 x7 (x8.set ((rd x13 x14) : Int).toNat false) x9 x13 x14 t131 0 x102000)) else (spec_GreedyCode.l3 k x1 x6 x7 x8 x9 x13 (wrap64 (x14 + 1)) x102000)) else (none)) else (none)) else (none)) else (spec_GreedyCode.l1 k x1 x6 x7 x8 x9 x102000)
def spec_GreedyCode.l4 : Nat → Int → Int → List Int → List Bool → List Int → List Int → Int → List Int → Int → List Int → Option (List Int × Int)
  | 0, _, _, _, _, _, _, _, _, _, _ => none
  | k + 1, x1, x6, x7, x8, x9, x13, x14, x15, x16, x102000 => if x16 < (x15.length : Int) then (if 0 ≤ x16 then (if 0 ≤ (rd x15 x16) then (if (rd x15 x16) < (x9.length : Int) then (spec_GreedyCode.l4 k x1 x6 x7 x8 (x9.set ((rd x15 x16) : Int).toNat (wrap64 ((rd x9 (rd x15 x16)) - 1))) x13 x14 x15 (wrap64 (x16 + 1)) x102000) else (none)) else (none)) else (none)) else (spec_GreedyCode.l3 k x1 x6 x7 x8 x9 x13 (wrap64 (x14 + 1)) x102000)
end
def spec_GreedyCode.f (k : Nat) (l0_0 : List Int) (a1 : Int) : Option (List Int × Int) := (spec_l01Is.f k l0_0).bind fun t102 => (if t102 = true then ((spec_l01In.f a1 0 8).bind fun t103 => (if t103 = true then ((spec_l01N.f k l0_0).bind fun t104 => (if 0 ≤ t104 then (if (t104 : Int).toNat ≤ 281474976710656 then (if (t104 : Int).toNat ≤ 35184372088832 then (spec_GreedyCode.l0 k a1 t104 (([] : List Int)) (List.replicate (t104 : Int).toNat false) (List.replicate (t104 : Int).toNat 0) 0 l0_0) else (none)) else (none)) else (none))) else (some (([] : List Int), 2)))) else (some (([] : List Int), 1)))
def spec_GreedyCode.T16 : Bool × List (List Nat × List Nat) := (true, [([], []), ([], []), ([0, 1], [0, 1]), ([2], [2]), ([], []), ([], []), ([4, 5], [4, 5]), ([6], [6]), ([3, 7], [3, 7])])
def spec_GreedyCode.B16 : List Nat := [0, 0, 3, 7, 0, 0, 48, 112, 255]
theorem spec_GreedyCode.tab16 : rtab .any (opsOf Try.f122 16) = spec_GreedyCode.T16 := by kernel_rfl
theorem spec_GreedyCode.bits16 : waitsOk spec_GreedyCode.T16.2 spec_GreedyCode.B16 = true := by kernel_rfl
def spec_GreedyCode.T27 : Bool × List (List Nat × List Nat) := (true, [([], []), ([], []), ([], []), ([1, 2], [1, 2]), ([3], [3]), ([], []), ([0, 4, 5], [0, 4, 5]), ([6, 6, 0, 1, 2, 3, 4, 5, 6], [6])])
def spec_GreedyCode.B27 : List Nat := [0, 0, 0, 6, 14, 0, 63, 127]
theorem spec_GreedyCode.tab27 : rtab .any (opsOf Try.f122 27) = spec_GreedyCode.T27 := by kernel_rfl
theorem spec_GreedyCode.bits27 : waitsOk spec_GreedyCode.T27.2 spec_GreedyCode.B27 = true := by kernel_rfl
set_option maxHeartbeats 8000000 in
set_option maxRecDepth 100000 in
theorem spec_GreedyCode.calls (k : Nat) (A0_0 : Option Addr) (c0_0 : Nat) (l0_0 : List Int) (a1 : Int) (r1 : List Int) (r2 : Int) (w : World) (hr0_0 : Kd.C (Kd.int .i64) w A0_0 l0_0.length l0_0) (hc0_0 : l0_0.length ≤ c0_0) (h : spec_GreedyCode.f k l0_0 a1 = some (r1, r2)) :
  Calls Try.prog 122 #[.agg #[.slice A0_0 l0_0.length c0_0], .int .i64 a1] w fun e w' => ∃ v0_ : Value, e = .returned (.tuple #[v0_, .int .i64 r2]) ∧ Kd.R (Kd.int .i64) 2 w' w.heap.size (fun _ => True) v0_ r1 ∧ Below w.heap.size w w' := by
 have hu26 := Try.underlying26
 have HR0_0 := Aside0.mk hr0_0
 have HC0_0 := Aside0.mk hc0_0
 clear hr0_0 hc0_0
 have HB := Aside0.mk (Below.refl w.heap.size w)
 have H : ((spec_l01Is.f k l0_0).bind fun t102 => (if t102 = true then ((spec_l01In.f a1 0 8).bind fun t103 => (if t103 = true then ((spec_l01N.f k l0_0).bind fun t104 => (if 0 ≤ t104 then (if (t104 : Int).toNat ≤ 281474976710656 then (if (t104 : Int).toNat ≤ 35184372088832 then (spec_GreedyCode.l0 k a1 t104 (([] : List Int)) (List.replicate (t104 : Int).toNat false) (List.replicate (t104 : Int).toNat 0) 0 l0_0) else (none)) else (none)) else (none))) else (some (([] : List Int), 2)))) else (some (([] : List Int), 1)))) = some (r1, r2) := h
 clear h
 replace H := Option.bind_eq_some_iff.mp H
 obtain ⟨t102, A30, H⟩ := H
 replace H : (if t102 = true then ((spec_l01In.f a1 0 8).bind fun t103 => (if t103 = true then ((spec_l01N.f k l0_0).bind fun t104 => (if 0 ≤ t104 then (if (t104 : Int).toNat ≤ 281474976710656 then (if (t104 : Int).toNat ≤ 35184372088832 then (spec_GreedyCode.l0 k a1 t104 (([] : List Int)) (List.replicate (t104 : Int).toNat false) (List.replicate (t104 : Int).toNat 0) 0 l0_0) else (none)) else (none)) else (none))) else (some (([] : List Int), 2)))) else (some (([] : List Int), 1))) = some (r1, r2) := H
 have A3 := Aside0.mk A30
 clear A30
 by_cases c4 : t102 = true
 rotate_left
 ·replace c4 := Bool.eq_false_iff.mpr c4
  subst c4
  have H1 : (some (([] : List Int), 1)) = some (r1, r2) := by rw [if_neg (show ¬ (false = true) by decide)] at H; exact H
  clear H
  have H := H1
  clear H1
  simp only [Option.some.injEq, Prod.mk.injEq] at H
  obtain ⟨rfl, rfl⟩ := H
  go_enter Try.func122, Try.ntmps122
  go_wp2_with (first | ((with_reducible refine gate_dst (N := 2) rfl ?_); refine bx_ (N := 2) (cs := #[.slice A0_0 l0_0.length c0_0]) (t := 26) rfl rfl ?_; intro gb101 hg w87 hbox hb; have n0_ := b1_ HB hb; have n1_ := Aside0.mk (hbox); have n2_ := ge_ hg HB; have n3_ := ge_ hg HB; clear HB; have HB := n0_; have BK101 := n1_; have GW101 := n2_; have GE101 := n3_; clear n0_ n1_ n2_ n3_ hb hbox hg; have hcz88_0 := hz_ BK101; have hfz88_0 := blk_frozen BK101.out 0) | ((with_reducible refine gate_callee (f := 67) rfl ?_); refine gl_ (some 19) rfl rfl Try.func67 #[.agg #[.slice A0_0 l0_0.length c0_0]] rfl ?_; (with_reducible refine (spec_l01Is.calls k _ _ l0_0 false _ ?side1 ?side2 A3.out).mono ?_); (case side1 => exact c2_ HR0_0 HB); (case side2 => exact HC0_0.out); rintro e w89 ⟨rfl, hb⟩; refine ⟨_, rfl, ?_⟩; replace BK101 := a2_ BK101 hb; replace HB := b1_ HB hb; (try clear hb); (try clear hb2); (try clear hk); (try clear hi)))
  go_ret2
  exact ⟨_, t5_, by first | exact Kd.R_nil _ _ _ _ _ | exact Kd.N_nil _ _ _ _ _ | exact Kd.V_nil _ _ _ _ _ | exact Kd.Q_nil _ _ _ _ _ | exact Kd.S_nil _ _ _ _ _, gb_ HB.out⟩

 subst c4
 have H1 : ((spec_l01In.f a1 0 8).bind fun t103 => (if t103 = true then ((spec_l01N.f k l0_0).bind fun t104 => (if 0 ≤ t104 then (if (t104 : Int).toNat ≤ 281474976710656 then (if (t104 : Int).toNat ≤ 35184372088832 then (spec_GreedyCode.l0 k a1 t104 (([] : List Int)) (List.replicate (t104 : Int).toNat false) (List.replicate (t104 : Int).toNat 0) 0 l0_0) else (none)) else (none)) else (none))) else (some (([] : List Int), 2)))) = some (r1, r2) := by rw [if_pos rfl] at H; exact H
 clear H
 have H := H1
 clear H1
 replace H := Option.bind_eq_some_iff.mp H
 obtain ⟨t103, A50, H⟩ := H
 replace H : (if t103 = true then ((spec_l01N.f k l0_0).bind fun t104 => (if 0 ≤ t104 then (if (t104 : Int).toNat ≤ 281474976710656 then (if (t104 : Int).toNat ≤ 35184372088832 then (spec_GreedyCode.l0 k a1 t104 (([] : List Int)) (List.replicate (t104 : Int).toNat false) (List.replicate (t104 : Int).toNat 0) 0 l0_0) else (none)) else (none)) else (none))) else (some (([] : List Int), 2))) = some (r1, r2) := H
 have A5 := Aside0.mk A50
 clear A50
 by_cases c6 : t103 = true
 rotate_left
 ·replace c6 := Bool.eq_false_iff.mpr c6
  subst c6
  have H1 : (some (([] : List Int), 2)) = some (r1, r2) := by rw [if_neg (show ¬ (false = true) by decide)] at H; exact H
  clear H
  have H := H1
  clear H1
  simp only [Option.some.injEq, Prod.mk.injEq] at H
  obtain ⟨rfl, rfl⟩ := H
  go_enter Try.func122, Try.ntmps122
  go_wp2_with (first | ((with_reducible refine gate_dst (N := 2) rfl ?_); refine bx_ (N := 2) (cs := #[.slice A0_0 l0_0.length c0_0]) (t := 26) rfl rfl ?_; intro gb101 hg w84 hbox hb; have n0_ := b1_ HB hb; have n1_ := Aside0.mk (hbox); have n2_ := ge_ hg HB; have n3_ := ge_ hg HB; clear HB; have HB := n0_; have BK101 := n1_; have GW101 := n2_; have GE101 := n3_; clear n0_ n1_ n2_ n3_ hb hbox hg; have hcz85_0 := hz_ BK101; have hfz85_0 := blk_frozen BK101.out 0) | ((with_reducible refine gate_callee (f := 67) rfl ?_); refine gl_ (some 19) rfl rfl Try.func67 #[.agg #[.slice A0_0 l0_0.length c0_0]] rfl ?_; (with_reducible refine (spec_l01Is.calls k _ _ l0_0 true _ ?side1 ?side2 A3.out).mono ?_); (case side1 => exact c2_ HR0_0 HB); (case side2 => exact HC0_0.out); rintro e w86 ⟨rfl, hb⟩; refine ⟨_, rfl, ?_⟩; replace BK101 := a2_ BK101 hb; replace HB := b1_ HB hb; (try clear hb); (try clear hb2); (try clear hk); (try clear hi)) | ((with_reducible refine gate_callee (f := 84) rfl ?_); refine gl_ (some 23) rfl rfl Try.func84 #[.int .i64 a1, .int .i64 0, .int .i64 8] rfl ?_; (with_reducible refine (spec_l01In.calls a1 0 8 false _ A5.out).mono ?_); rintro e w' ⟨rfl, ⟨nd, rfl⟩⟩; refine ⟨_, rfl, ?_⟩))
  go_ret2
  exact ⟨_, t5_, by first | exact Kd.R_nil _ _ _ _ _ | exact Kd.N_nil _ _ _ _ _ | exact Kd.V_nil _ _ _ _ _ | exact Kd.Q_nil _ _ _ _ _ | exact Kd.S_nil _ _ _ _ _, gb_ HB.out⟩
 subst c6
 have H1 : ((spec_l01N.f k l0_0).bind fun t104 => (if 0 ≤ t104 then (if (t104 : Int).toNat ≤ 281474976710656 then (if (t104 : Int).toNat ≤ 35184372088832 then (spec_GreedyCode.l0 k a1 t104 (([] : List Int)) (List.replicate (t104 : Int).toNat false) (List.replicate (t104 : Int).toNat 0) 0 l0_0) else (none)) else (none)) else (none))) = some (r1, r2) := by rw [if_pos rfl] at H; exact H
 clear H
 have H := H1
 clear H1
 replace H := Option.bind_eq_some_iff.mp H
 obtain ⟨t104, A70, H⟩ := H
 replace H : (if 0 ≤ t104 then (if (t104 : Int).toNat ≤ 281474976710656 then (if (t104 : Int).toNat ≤ 35184372088832 then (spec_GreedyCode.l0 k a1 t104 (([] : List Int)) (List.replicate (t104 : Int).toNat false) (List.replicate (t104 : Int).toNat 0) 0 l0_0) else (none)) else (none)) else (none)) = some (r1, r2) := H
 have A7 := Aside0.mk A70
 clear A70
 obtain ⟨y105, hy105⟩ : ∃ y_ : List Int, y_ = (([] : List Int)) := ⟨_, rfl⟩
 replace H : (if 0 ≤ t104 then (if (t104 : Int).toNat ≤ 281474976710656 then (if (t104 : Int).toNat ≤ 35184372088832 then (spec_GreedyCode.l0 k a1 t104 y105 (List.replicate (t104 : Int).toNat false) (List.replicate (t104 : Int).toNat 0) 0 l0_0) else (none)) else (none)) else (none)) = some (r1, r2) := y_ H
 have Ny105 := Aside0.mk hy105
 clear hy105
 by_cases c8 : 0 ≤ t104
 rotate_left
 ·rw [if_neg c8] at H
  exact absurd H (by simp)
 rw [if_pos c8] at H
 have c8b0 := eq_true c8
 have c8b1 : decide (0 ≤ t104) = true := decide_eq_true c8
 clear c8
 by_cases c9 : (t104 : Int).toNat ≤ 281474976710656
 rotate_left
 ·rw [if_neg c9] at H
  exact absurd H (by simp)
 rw [if_pos c9] at H
 have c9b0 := eq_true c9
 have c9b1 : decide ((t104 : Int).toNat ≤ 281474976710656) = true := decide_eq_true c9
 clear c9
 obtain ⟨y108, hy108⟩ : ∃ y_ : List Bool, y_ = (List.replicate (t104 : Int).toNat false) := ⟨_, rfl⟩
 replace H : (if (t104 : Int).toNat ≤ 35184372088832 then (spec_GreedyCode.l0 k a1 t104 y105 y108 (List.replicate (t104 : Int).toNat 0) 0 l0_0) else (none)) = some (r1, r2) := y_ H
 have Ny108 := Aside0.mk hy108
 clear hy108
 by_cases c10 : (t104 : Int).toNat ≤ 35184372088832
 rotate_left
 ·rw [if_neg c10] at H
  exact absurd H (by simp)
 rw [if_pos c10] at H
 have c10b0 := eq_true c10
 have c10b1 : decide ((t104 : Int).toNat ≤ 35184372088832) = true := decide_eq_true c10
 clear c10
 obtain ⟨y111, hy111⟩ : ∃ y_ : List Int, y_ = (List.replicate (t104 : Int).toNat 0) := ⟨_, rfl⟩
 replace H : (spec_GreedyCode.l0 k a1 t104 y105 y108 y111 0 l0_0) = some (r1, r2) := y_ H
 have Ny111 := Aside0.mk hy111
 clear hy111
 have H' := Aside0.mk H
 clear H
 go_enter Try.func122, Try.ntmps122
 try go_wp2_with (first | ((with_reducible refine gate_dst (N := 2) rfl ?_); refine bx_ (N := 2) (cs := #[.slice A0_0 l0_0.length c0_0]) (t := 26) rfl rfl ?_; intro gb101 hg w11 hbox hb; have n0_ := b1_ HB hb; have n1_ := Aside0.mk (hbox); have n2_ := ge_ hg HB; have n3_ := ge_ hg HB; clear HB; have HB := n0_; have BK101 := n1_; have GW101 := n2_; have GE101 := n3_; clear n0_ n1_ n2_ n3_ hb hbox hg; have hcz12_0 := hz_ BK101; have hfz12_0 := blk_frozen BK101.out 0) | ((with_reducible refine gate_callee (f := 67) rfl ?_); refine gl_ (some 19) rfl rfl Try.func67 #[.agg #[.slice A0_0 l0_0.length c0_0]] rfl ?_; (with_reducible refine (spec_l01Is.calls k _ _ l0_0 true _ ?side1 ?side2 A3.out).mono ?_); (case side1 => exact c2_ HR0_0 HB); (case side2 => exact HC0_0.out); rintro e w13 ⟨rfl, hb⟩; refine ⟨_, rfl, ?_⟩; replace BK101 := a2_ BK101 hb; replace HB := b1_ HB hb; (try clear hb); (try clear hb2); (try clear hk); (try clear hi)) | ((with_reducible refine gate_callee (f := 84) rfl ?_); refine gl_ (some 23) rfl rfl Try.func84 #[.int .i64 a1, .int .i64 0, .int .i64 8] rfl ?_; (with_reducible refine (spec_l01In.calls a1 0 8 true _ A5.out).mono ?_); rintro e w' ⟨rfl, ⟨nd, rfl⟩⟩; refine ⟨_, rfl, ?_⟩; have hcz14_0 := hz_ BK101; have hfz14_0 := blk_frozen BK101.out 0) | ((with_reducible refine gate_callee (f := 76) rfl ?_); refine gl_ (some 26) rfl rfl Try.func76 #[.agg #[.slice A0_0 l0_0.length c0_0]] rfl ?_; (with_reducible refine (spec_l01N.calls k _ _ l0_0 t104 _ ?side1 ?side2 A7.out).mono ?_); (case side1 => repeat (first | exact (Kd.C_below HR0_0.out (gb_ HB.out)) | (with_reducible refine Kd.C_alloc ?_ _) | (with_reducible refine Kd.C_drewN ?_ _) | (with_reducible refine Kd.C_drew ?_))); (case side2 => exact HC0_0.out); rintro e w15 ⟨rfl, hb⟩; refine ⟨_, rfl, ?_⟩; replace BK101 := a2_ BK101 hb; replace HB := b1_ HB hb; (try clear hb); (try clear hb2); (try clear hk); (try clear hi)) | ((with_reducible refine gate_dst (N := 27) rfl ?_); refine Kd.R_lit (Kd.int .i64) _ 2 ?hg (N := 27) ?hd (xs := ([] : List Int)) (inner := []) (ok := fun _ => True) (okp := fun _ => True) ?hr ?hp (fun _ hk => hk) trivial (Below.refl _ _) (Nat.le_refl _) (by simp) ?_; (case hd => rfl); (case hg => rfl); (case hr => exact t3_); (case hp => exact (Reps.none _ _)); intro v106 w16 ho17 hb hg_ hnew_; clear hg_ hnew_; (first | rw [← Ny105.out] at ho17 | (simp only [Int.reduceToNat] at ho17; rw [← Ny105.out] at ho17)); have n0_ := Aside0.mk (Kd.R_lower ho17 (below_size (gb_ HB.out))); have n1_ := a2_ BK101 hb; have n2_ := b1_ HB hb; clear BK101 HB; have HO107 := n0_; have BK101 := n1_; have HB := n2_; clear n0_ n1_ n2_ hb ho17))
 replace HO107 := Aside0.mk (Kd.R_drew HO107.out)
 replace BK101 := Aside0.mk (blk_drew BK101.out)
 replace HB := Aside0.mk (below_drew1 HB.out)
 refine start_ (n := 6) (S := fun w' => True) (ds := []) #[false, false, false, false, false, false] (by kernel_rfl) rfl rfl trivial (fun hHeld => ?_)
 generalize w16.drew = w18 at HO107 BK101 HB hHeld ⊢
 refine pure_ (i := 0) (N := some 28) (v := ?_) (a' := ?_) #[true, false, false, false, false, false] rfl rfl (by kernel_rfl) (fun _ _ _ h => h) (Or.inl ⟨by rfl, ?_⟩) ?_ ?_
 rotate_left
 ·exact t7_
 rotate_left
 ·exact t4_
 refine pure_ (i := 2) (N := some 30) (v := ?_) (a' := ?_) #[true, false, true, false, false, false] rfl rfl (by kernel_rfl) (fun _ _ _ h => h) (Or.inl ⟨by rfl, ?_⟩) ?_ ?_
 rotate_left
 ·exact t7_
 rotate_left
 ·exact t4_
 refine join_ (σ := Value × Value) 1 #[true, true, true, true, true, false] (fun s_ => [(29, s_.1), (31, s_.2), (8, s_.1)]) (fun s_ w' => (Kd.R (Kd.int .i64) 2 w' w.heap.size (fun k_ => OB_ k_ s_.2) v106 y105) ∧ (Kd.R Kd.bool 4 w' w.heap.size (fun _ => True) s_.1 y108) ∧ (Kd.R (Kd.int .i64) 2 w' w.heap.size (fun k_ => OB_ k_ v106) s_.2 y111) ∧ (w'.heap[gb101]? = some (.cells #[.slice A0_0 l0_0.length c0_0] 26 (0, 0))) ∧ (Below w.heap.size w w')) ?_ ?_
 rotate_left
 ·intro hCont
  refine two_ (i := 1) (j := 3) (Ni := some 29) (Nj := some 31) #[true, true, true, false, false, false] #[true, false, true, true, false, false] rfl rfl rfl rfl (by kernel_rfl) (by decide) (by decide) (fun K hK => ?_) (fun K hK => ?_)
  ·skip
   refine Kd.R_make_step Kd.bool _ 4 (by rfl) (N := 29) rfl 100 _ _ rfl t104 rfl rfl Try.underlying100 (.bool false) 1 info4 rfl (by decide) (by omega) false (ok := fun _ => True) (okp := fun _ => True) rfl (fun _ hk => hk) trivial (of_decide_eq_true t6_) (Nat.le_trans (Nat.mul_le_mul_right _ (of_decide_eq_true t6_ : t104.toNat ≤ 281474976710656)) (by omega)) (Below.refl _ _) (Nat.le_refl _) ?_
   intro v109 w19 ho20 hb hg_ hnew_
   clear hg_ hnew_
   (first | rw [← Ny108.out] at ho20 | (simp only [Int.reduceToNat] at ho20; rw [← Ny108.out] at ho20))
   have n0_ := a1_ HO107 hb
   have n1_ := Aside0.mk (Kd.R_lower ho20 (below_size (gb_ HB.out)))
   have n2_ := a2_ BK101 hb
   have n3_ := b1_ HB hb
   clear HO107 BK101 HB
   have HO107 := n0_
   have HO110 := n1_
   have BK101 := n2_
   have HB := n3_
   clear n0_ n1_ n2_ n3_ hb ho20
   refine hK.out _ _ trivial (fun hHeld => ?_)
   clear hK K
   refine norm_ (a' := ?_) ?_ ?_
   rotate_left
   ·show Act.put _ (some 29) _ = _
    simp only [Act.put, List.setIfInBounds_toArray, List.set_cons_zero, List.set_cons_succ, i64_w, i32_w]
    rfl
   refine pure_ (i := 4) (N := some 8) (v := ?_) (a' := ?_) #[true, true, true, false, true, false] rfl rfl (by kernel_rfl) (fun _ _ _ h => h) (Or.inl ⟨by rfl, ?_⟩) ?_ ?_
   rotate_left
   ·exact t7_
   rotate_left
   ·exact t4_
   refine one_ (i := 3) (N := some 31) #[true, true, true, true, true, false] rfl rfl (by kernel_rfl) (by decide) (fun K hK => ?_)
   refine Kd.R_make_step (Kd.int .i64) _ 2 (by rfl) (N := 31) rfl 24 _ _ rfl t104 rfl rfl Try.underlying24 (.int .i64 0) 8 info2 rfl (by decide) (by omega) 0 (ok := fun _ => True) (okp := fun _ => True) rfl (fun _ hk => hk) trivial (of_decide_eq_true t6_) (Nat.le_trans (Nat.mul_le_mul_right _ (of_decide_eq_true t6_ : t104.toNat ≤ 35184372088832)) (by omega)) (Below.refl _ _) (Nat.le_refl _) ?_
   intro v112 w21 ho22 hb hg_ hnew_
   clear hg_ hnew_
   (first | rw [← Ny111.out] at ho22 | (simp only [Int.reduceToNat] at ho22; rw [← Ny111.out] at ho22))
   have n0_ := a5_ HO107 ho22 hb
   have n1_ := a1_ HO110 hb
   have n2_ := Aside0.mk (Kd.R_lower (Kd.R_new' ho22 (Kd.R_lt (rb_ HO107.out))) (below_size (gb_ HB.out)))
   have n3_ := a2_ BK101 hb
   have n4_ := b1_ HB hb
   clear HO107 HO110 BK101 HB
   have HO107 := n0_
   have HO110 := n1_
   have HO113 := n2_
   have BK101 := n3_
   have HB := n4_
   clear n0_ n1_ n2_ n3_ n4_ hb ho22
   refine hK.out _ _ trivial (fun hHeld => ?_)
   clear hK K
   refine norm_ (a' := ?_) ?_ ?_
   rotate_left
   ·show Act.put _ (some 31) _ = _
    simp only [Act.put, List.setIfInBounds_toArray, List.set_cons_zero, List.set_cons_succ, i64_w, i32_w]
    rfl
   exact norm_ (by simp only [putAll, Act.put, List.setIfInBounds_toArray, List.set_cons_zero, List.set_cons_succ]) (hCont (v109, v112) _ ⟨(rb_ (Kd.R_mono HO107.out (fun _ hk => hk.2))), (rb_ HO110.out), (rb_ (Kd.R_mono HO113.out (fun _ hk => hk.2))), (bb_ BK101.out), (gb_ HB.out)⟩)
  ·skip
   refine Kd.R_make_step (Kd.int .i64) _ 2 (by rfl) (N := 31) rfl 24 _ _ rfl t104 rfl rfl Try.underlying24 (.int .i64 0) 8 info2 rfl (by decide) (by omega) 0 (ok := fun _ => True) (okp := fun _ => True) rfl (fun _ hk => hk) trivial (of_decide_eq_true t6_) (Nat.le_trans (Nat.mul_le_mul_right _ (of_decide_eq_true t6_ : t104.toNat ≤ 35184372088832)) (by omega)) (Below.refl _ _) (Nat.le_refl _) ?_
   intro v112 w19 ho20 hb hg_ hnew_
   clear hg_ hnew_
   (first | rw [← Ny111.out] at ho20 | (simp only [Int.reduceToNat] at ho20; rw [← Ny111.out] at ho20))
   have n0_ := a5_ HO107 ho20 hb
   have n1_ := Aside0.mk (Kd.R_lower (Kd.R_new' ho20 (Kd.R_lt (rb_ HO107.out))) (below_size (gb_ HB.out)))
   have n2_ := a2_ BK101 hb
   have n3_ := b1_ HB hb
   clear HO107 BK101 HB
   have HO107 := n0_
   have HO113 := n1_
   have BK101 := n2_
   have HB := n3_
   clear n0_ n1_ n2_ n3_ hb ho20
   refine hK.out _ _ trivial (fun hHeld => ?_)
   clear hK K
   refine norm_ (a' := ?_) ?_ ?_
   rotate_left
   ·show Act.put _ (some 31) _ = _
    simp only [Act.put, List.setIfInBounds_toArray, List.set_cons_zero, List.set_cons_succ, i64_w, i32_w]
    rfl
   refine one_ (i := 1) (N := some 29) #[true, true, true, true, false, false] rfl rfl (by kernel_rfl) (by decide) (fun K hK => ?_)
   refine Kd.R_make_step Kd.bool _ 4 (by rfl) (N := 29) rfl 100 _ _ rfl t104 rfl rfl Try.underlying100 (.bool false) 1 info4 rfl (by decide) (by omega) false (ok := fun _ => True) (okp := fun _ => True) rfl (fun _ hk => hk) trivial (of_decide_eq_true t6_) (Nat.le_trans (Nat.mul_le_mul_right _ (of_decide_eq_true t6_ : t104.toNat ≤ 281474976710656)) (by omega)) (Below.refl _ _) (Nat.le_refl _) ?_
   intro v109 w21 ho22 hb hg_ hnew_
   clear hg_ hnew_
   (first | rw [← Ny108.out] at ho22 | (simp only [Int.reduceToNat] at ho22; rw [← Ny108.out] at ho22))
   have n0_ := a1_ HO107 hb
   have n1_ := a1_ HO113 hb
   have n2_ := Aside0.mk (Kd.R_lower ho22 (below_size (gb_ HB.out)))
   have n3_ := a2_ BK101 hb
   have n4_ := b1_ HB hb
   clear HO107 HO113 BK101 HB
   have HO107 := n0_
   have HO113 := n1_
   have HO110 := n2_
   have BK101 := n3_
   have HB := n4_
   clear n0_ n1_ n2_ n3_ n4_ hb ho22
   refine hK.out _ _ trivial (fun hHeld => ?_)
   clear hK K
   refine norm_ (a' := ?_) ?_ ?_
   rotate_left
   ·show Act.put _ (some 29) _ = _
    simp only [Act.put, List.setIfInBounds_toArray, List.set_cons_zero, List.set_cons_succ, i64_w, i32_w]
    rfl
   refine pure_ (i := 4) (N := some 8) (v := ?_) (a' := ?_) #[true, true, true, true, true, false] rfl rfl (by kernel_rfl) (fun _ _ _ h => h) (Or.inl ⟨by rfl, ?_⟩) ?_ ?_
   rotate_left
   ·exact t7_
   rotate_left
   ·exact t4_
   exact norm_ (by simp only [putAll, Act.put, List.setIfInBounds_toArray, List.set_cons_zero, List.set_cons_succ]) (hCont (v109, v112) _ ⟨(rb_ (Kd.R_mono HO107.out (fun _ hk => hk.2))), (rb_ HO110.out), (rb_ (Kd.R_mono HO113.out (fun _ hk => hk.2))), (bb_ BK101.out), (gb_ HB.out)⟩)
 rintro ⟨v109, v112⟩ w23 ⟨h0_, h1_, h2_, h3_, h4_⟩
 have n0_ : Aside0 (Kd.R (Kd.int .i64) 2 w23 w.heap.size (fun k_ => OB_ k_ v112) v106 y105) := ⟨h0_⟩
 have n1_ : Aside0 (Kd.R Kd.bool 4 w23 w.heap.size (fun _ => True) v109 y108) := ⟨h1_⟩
 have n2_ : Aside0 (Kd.R (Kd.int .i64) 2 w23 w.heap.size (fun k_ => OB_ k_ v106) v112 y111) := ⟨h2_⟩
 have n3_ : Aside0 (w23.heap[gb101]? = some (.cells #[.slice A0_0 l0_0.length c0_0] 26 (0, 0))) := ⟨h3_⟩
 have n4_ : Aside0 (Below w.heap.size w w23) := ⟨h4_⟩
 clear HO107 BK101 HB h0_ h1_ h2_ h3_ h4_
 have HO107 := n0_
 have HO110 := n1_
 have HO113 := n2_
 have BK101 := n3_
 have HB := n4_
 clear n0_ n1_ n2_ n3_ n4_
 have hHeld := trivial
 refine norm_ (a' := ?_) ?_ ?_
 rotate_left
 ·simp only [putAll, Act.put, List.setIfInBounds_toArray, List.set_cons_zero, List.set_cons_succ]
  rfl
 refine pure_ (i := 5) (N := some 9) (v := ?_) (a' := ?_) #[true, true, true, true, true, true] rfl rfl (by kernel_rfl) (fun _ _ _ h => h) (Or.inl ⟨by rfl, ?_⟩) ?_ ?_
 rotate_left
 ·exact t7_
 rotate_left
 ·exact t4_
 refine done_ (by kernel_rfl) ?_
 try go_wp2
 go_loopg [10] k (fun kq v10 w' => ∃ (x8_1 : List Bool) (x9_1 : List Int) (x10_1 : Int), v10 = .int .i64 x10_1 ∧ Aside0 (spec_GreedyCode.l0 kq a1 t104 y105 x8_1 x9_1 x10_1 l0_0 = some (r1, r2)) ∧ Aside0 (kq ≤ k) ∧ Aside0 (Kd.R (Kd.int .i64) 2 w' w.heap.size (fun k_ => OB_ k_ v112) v106 y105) ∧ Aside0 (Kd.R Kd.bool 4 w' w.heap.size (fun _ => True) v109 x8_1) ∧ Aside0 (Kd.R (Kd.int .i64) 2 w' w.heap.size (fun k_ => OB_ k_ v106) v112 x9_1) ∧ Aside0 (w'.heap[gb101]? = some (.cells #[(.slice A0_0 l0_0.length c0_0)] 26 (0, 0))) ∧ Aside0 (Below w.heap.size w w'))
 case atStart => exact ⟨(y108), (y111), (0), t2_, H', ⟨Nat.le_refl _⟩, ⟨rb_ HO107.out⟩, ⟨rb_ HO110.out⟩, ⟨rb_ HO113.out⟩, ⟨bb_ BK101.out⟩, ⟨gb_ HB.out⟩⟩
 clear H'
 try clear c1
 try clear p2
 try clear c4
 try clear c6
 try clear c7
 try clear c8
 try clear c8b0
 try clear c8b1
 try clear c9
 try clear c9b0
 try clear c9b1
 try clear c10
 try clear c10b0
 try clear c10b1
 try clear c12
 try clear hcz12_0
 try clear hcz14_0
 try clear hfz12_0
 try clear hfz14_0
 obtain ⟨x8_1, x9_1, x10_1, rfl, HA, HK1, HO_7, HO_8, HO_9, BK101, HB⟩ := hrel
 obtain _ | k1 := gk
 ·exact absurd HA.out (by simp [spec_GreedyCode.l0])
 have H := HA.out
 clear HA
 simp only [spec_GreedyCode.l0] at H
 by_cases c24 : x10_1 < t104
 ·rw [if_pos c24] at H
  have c24b0 : decide (x10_1 < t104) = true := decide_eq_true c24
  clear c24
  by_cases c25 : 0 ≤ x10_1
  rotate_left
  ·rw [if_neg c25] at H
   exact absurd H (by simp)
  rw [if_pos c25] at H
  have c25b0 : decide (0 ≤ x10_1) = true := decide_eq_true c25
  clear c25
  by_cases c26 : x10_1 < (x8_1.length : Int)
  rotate_left
  ·rw [if_neg c26] at H
   exact absurd H (by simp)
  rw [if_pos c26] at H
  have c26b0 : decide (x10_1 < (x8_1.length : Int)) = true := decide_eq_true c26
  clear c26
  obtain ⟨y114, hy114⟩ : ∃ y_ : List Bool, y_ = (x8_1.set (x10_1 : Int).toNat true) := ⟨_, rfl⟩
  replace H : ((spec_l01Size.f k1 l0_0 a1).bind fun t115 => (if x10_1 < (x9_1.length : Int) then (spec_GreedyCode.l0 k1 a1 t104 y105 y114 (x9_1.set (x10_1 : Int).toNat t115) (wrap64 (x10_1 + 1)) l0_0) else (none))) = some (r1, r2) := y_ H
  have Ny114 := Aside0.mk hy114
  clear hy114
  replace H := Option.bind_eq_some_iff.mp H
  obtain ⟨t115, A280, H⟩ := H
  replace H : (if x10_1 < (x9_1.length : Int) then (spec_GreedyCode.l0 k1 a1 t104 y105 y114 (x9_1.set (x10_1 : Int).toNat t115) (wrap64 (x10_1 + 1)) l0_0) else (none)) = some (r1, r2) := H
  have A28 := Aside0.mk A280
  clear A280
  by_cases c29 : x10_1 < (x9_1.length : Int)
  rotate_left
  ·rw [if_neg c29] at H
   exact absurd H (by simp)
  rw [if_pos c29] at H
  have c29b0 : decide (x10_1 < (x9_1.length : Int)) = true := decide_eq_true c29
  clear c29
  obtain ⟨y116, hy116⟩ : ∃ y_ : List Int, y_ = (x9_1.set (x10_1 : Int).toNat t115) := ⟨_, rfl⟩
  replace H : (spec_GreedyCode.l0 k1 a1 t104 y105 y114 y116 (wrap64 (x10_1 + 1)) l0_0) = some (r1, r2) := y_ H
  have Ny116 := Aside0.mk hy116
  clear hy116
  have H' := Aside0.mk H
  clear H
  have p27 : 0 ≤ (x10_1 : Int) := of_decide_eq_true t6_
  have q27 : (x10_1 : Int) < ((x8_1.length : Int) : Int) := of_decide_eq_true t6_
  obtain ⟨go27, co27, eo27, gb27, gl27, cl27, HG27⟩ := Kd.R_form HO_8.out (by omega)
  (first | cases eo27 | (injection eo27 with ea_ en_ ec_; (first | subst ea_ | (injection ea_ with ea_; subst ea_)); subst ec_; clear en_))
  have GB27 := Aside0.mk gb27
  have GG27 := Aside0.mk HG27
  clear gb27 gl27 HG27
  obtain ⟨hx27_0, hf27_0⟩ := Kd.R_celln false HO_8.out (x10_1 : Int) p27 q27
  replace p27 := eq_true p27
  replace q27 := eq_true q27
  have HP31 := Kd.R_putg HO_8.out (x10_1 : Int) true
  go_wp2_with (first | ((with_reducible refine gate_store (t := 4) (p := 39) rfl ?_); refine store_event (t := 4) (p := 39) (v := ?vo_w32) (w1 := (wr.setCell ⟨go27, (x10_1 : Int).toNat, none⟩ (.bool true))) ?hg ?ho ?hn ?hr ?_; (case ho => rfl); (case hg => rfl); (case hn => rfl); (case hr => exact t3_); intro w32 hw; have hg : wr.grownBy w32 (some go27) := (by rw [hw]; exact HP31.2); have hp_ : Kd.R Kd.bool 4 w32 w.heap.size (fun _ => True) (.slice (some ⟨go27, 0, none⟩) x8_1.length co27) y114 := (by rw [hw, Ny114.out]; exact HP31.1); clear HP31; have n0_ := Aside0.mk (Kd.R_over' (v := (.slice (some ⟨go27, 0, none⟩) x8_1.length co27)) (rb_ HO_7.out) (Kd.R_typed HO_8.out) (by decide) hg); have n1_ := Aside0.mk (hp_); have n2_ := Aside0.mk (Kd.R_over' (v := (.slice (some ⟨go27, 0, none⟩) x8_1.length co27)) (rb_ HO_9.out) (Kd.R_typed HO_8.out) (by decide) hg); have n3_ := Aside0.mk (blk_grown (g := gb101) (o := .cells #[.slice A0_0 l0_0.length c0_0] 26 (0, 0)) (bb_ BK101.out) hg (Kd.R_ne HO_8.out BK101.out (by decide))); have n4_ := Aside0.mk ((by rw [hw]; exact below_set (HB.out) GB27.out : Below w.heap.size w w32)); clear HO_7 HO_8 HO_9 BK101 HB; have HO_7 := n0_; have HO_8 := n1_; have HO_9 := n2_; have BK101 := n3_; have HB := n4_; clear n0_ n1_ n2_ n3_ n4_ hg hw hp_; have hcz33_0 := hz_ BK101; have hfz33_0 := blk_frozen BK101.out 0) | ((with_reducible refine gate_callee (f := 77) rfl ?_); refine gl_ (some 44) rfl rfl Try.func77 #[.agg #[.slice A0_0 l0_0.length c0_0], .int .i64 a1] rfl ?_; (with_reducible refine (spec_l01Size.calls k1 _ _ l0_0 a1 t115 _ ?side1 ?side2 A28.out).mono ?_); (case side1 => exact c2_ HR0_0 HB); (case side2 => exact HC0_0.out); rintro e w34 ⟨rfl, hb⟩; refine ⟨_, rfl, ?_⟩; replace HO_7 := a1_ HO_7 hb; replace HO_8 := a1_ HO_8 hb; replace HO_9 := a1_ HO_9 hb; replace BK101 := a2_ BK101 hb; replace HB := b1_ HB hb; (try clear hb); (try clear hb2); (try clear hk); (try clear hi); have p30 : 0 ≤ (x10_1 : Int) := of_decide_eq_true t6_; have q30 : (x10_1 : Int) < ((x9_1.length : Int) : Int) := of_decide_eq_true t6_; obtain ⟨go30, co30, eo30, gb30, gl30, cl30, HG30⟩ := Kd.R_form HO_9.out (by omega); (first | cases eo30 | (injection eo30 with ea_ en_ ec_; (first | subst ea_ | (injection ea_ with ea_; subst ea_)); subst ec_; clear en_)); have GB30 := Aside0.mk gb30; have GG30 := Aside0.mk HG30; clear gb30 gl30 HG30; obtain ⟨hx30_0, hf30_0⟩ := Kd.R_celln 0 HO_9.out (x10_1 : Int) p30 q30; replace p30 := eq_true p30; replace q30 := eq_true q30; obtain ⟨hy35_, hz35_⟩ := Kd.R_celln 0 HO_9.out (x10_1 : Int) (of_decide_eq_true t6_) (of_decide_eq_true t6_); have HP35 := Kd.R_putg HO_9.out (x10_1 : Int) t115) | ((with_reducible refine gate_store (t := 2) (p := 45) rfl ?_); refine store_event (t := 2) (p := 45) (v := ?vo_w36) (w1 := (w34.setCell ⟨go30, (x10_1 : Int).toNat, none⟩ (.int .i64 t115))) ?hg ?ho ?hn ?hr ?_; (case ho => rfl); (case hg => rfl); (case hn => rfl); (case hr => exact t3_); intro w36 hw; have hg : w34.grownBy w36 (some go30) := (by rw [hw]; exact HP35.2); have hp_ : Kd.R (Kd.int .i64) 2 w36 w.heap.size (fun k_ => OB_ k_ v106) (.slice (some ⟨go30, 0, none⟩) x9_1.length co30) y116 := (by rw [hw, Ny116.out]; exact HP35.1); clear HP35; have n0_ := Aside0.mk (Kd.R_after (v := (.slice (some ⟨go30, 0, none⟩) x9_1.length co30)) (v1 := (.slice (some ⟨go30, 0, none⟩) x9_1.length co30)) (ok := (fun _ => True)) (rb_ (Kd.R_mono HO_7.out (fun _ hk => ⟨trivial, hk⟩))) hg (.inl rfl)); have n1_ := Aside0.mk (Kd.R_over' (v := (.slice (some ⟨go30, 0, none⟩) x9_1.length co30)) (rb_ HO_8.out) (Kd.R_typed HO_9.out) (by decide) hg); have n2_ := Aside0.mk (hp_); have n3_ := Aside0.mk (blk_grown (g := gb101) (o := .cells #[.slice A0_0 l0_0.length c0_0] 26 (0, 0)) (bb_ BK101.out) hg (Kd.R_ne HO_9.out BK101.out (by decide))); have n4_ := Aside0.mk ((by rw [hw]; exact below_set (HB.out) GB30.out : Below w.heap.size w w36)); clear HO_7 HO_8 HO_9 BK101 HB; have HO_7 := n0_; have HO_8 := n1_; have HO_9 := n2_; have BK101 := n3_; have HB := n4_; clear n0_ n1_ n2_ n3_ n4_ hg hw hp_))
  go_roundg k1
  case measure => have := HK1.out; omega
  case rel => exact ⟨(y114), (y116), (wrap64 (x10_1 + 1)), t2_, H', ⟨by have := HK1.out; omega⟩, ⟨by (with_reducible repeat (first | apply Kd.R_alloc | apply Kd.R_drewN | apply Kd.R_drew)); exact Kd.R_mono HO_7.out (fun _ hk => hk.2)⟩, ⟨rb_ HO_8.out⟩, ⟨rb_ HO_9.out⟩, ⟨bb_ BK101.out⟩, ⟨gb_ HB.out⟩⟩
 rw [if_neg c24] at H
 have c24b0 : decide (x10_1 < t104) = false := decide_eq_false c24
 clear c24
 have H' := Aside0.mk H
 clear H
 go_wp2
 go_loopg [7] k1 (fun kq v7 w' => ∃ (x7_2 : List Int) (x8_2 : List Bool) (x9_2 : List Int), Aside0 (spec_GreedyCode.l1 kq a1 t104 x7_2 x8_2 x9_2 l0_0 = some (r1, r2)) ∧ Aside0 (kq ≤ k1) ∧ Aside0 (Kd.R (Kd.int .i64) 2 w' w.heap.size (fun k_ => OB_ k_ v112) v7 x7_2) ∧ Aside0 (Kd.R Kd.bool 4 w' w.heap.size (fun _ => True) v109 x8_2) ∧ Aside0 (Kd.R (Kd.int .i64) 2 w' w.heap.size (fun k_ => OB_ k_ v7) v112 x9_2) ∧ Aside0 (w'.heap[gb101]? = some (.cells #[(.slice A0_0 l0_0.length c0_0)] 26 (0, 0))) ∧ Aside0 (Below w.heap.size w w'))
 case atStart => exact ⟨(y105), (x8_1), (x9_1), H', ⟨Nat.le_refl _⟩, ⟨rb_ HO_7.out⟩, ⟨rb_ HO_8.out⟩, ⟨rb_ HO_9.out⟩, ⟨bb_ BK101.out⟩, ⟨gb_ HB.out⟩⟩
 clear H'
 try clear c1
 try clear c2
 try clear p2
 try clear q2
 try clear hx2
 try clear hf2
 try clear p3
 try clear q3
 try clear hx3
 try clear hf3
 try clear c4
 try clear c6
 try clear p6
 try clear c7
 try clear c8
 try clear c8b0
 try clear c8b1
 try clear c9
 try clear c9b0
 try clear c9b1
 try clear c10
 try clear c10b0
 try clear c10b1
 try clear c12
 try clear c24
 try clear c24b0
 try clear c25
 try clear c25b0
 try clear c26
 try clear c26b0
 try clear p27
 try clear q27
 try clear hx27
 try clear hf27
 try clear c29
 try clear c29b0
 try clear p30
 try clear q30
 try clear hx30
 try clear hf30
 try clear hcz12_0
 try clear hcz14_0
 try clear hcz33_0
 try clear hfz12_0
 try clear hfz14_0
 try clear hfz33_0
 try clear hx27_0
 try clear hx30_0
 try clear p2
 try clear p27
 try clear p30
 try clear q27
 try clear q30
 obtain ⟨x7_2, x8_2, x9_2, HA, HK2, HO_7, HO_8, HO_9, BK101, HB⟩ := hrel
 obtain _ | k2 := gk
 ·exact absurd HA.out (by simp [spec_GreedyCode.l1])
 have H := HA.out
 clear HA
 simp only [spec_GreedyCode.l1] at H
 have H' := Aside0.mk H
 clear H
 go_wp2
 go_loopg [11, 12] k2 (fun kq v11 v12 w' => ∃ (x11_3 : Int) (x12_3 : Int), v11 = .int .i64 x11_3 ∧ v12 = .int .i64 x12_3 ∧ Aside0 (spec_GreedyCode.l2 kq a1 t104 x7_2 x8_2 x9_2 x11_3 x12_3 l0_0 = some (r1, r2)) ∧ Aside0 (kq ≤ k2) ∧ Aside0 (Kd.R (Kd.int .i64) 2 w' w.heap.size (fun k_ => OB_ k_ v112) u7 x7_2) ∧ Aside0 (Kd.R Kd.bool 4 w' w.heap.size (fun _ => True) v109 x8_2) ∧ Aside0 (Kd.R (Kd.int .i64) 2 w' w.heap.size (fun k_ => OB_ k_ u7) v112 x9_2) ∧ Aside0 (w'.heap[gb101]? = some (.cells #[(.slice A0_0 l0_0.length c0_0)] 26 (0, 0))) ∧ Aside0 (Below w.heap.size w w'))
 case atStart => exact ⟨(0), (1), t2_, t2_, H', ⟨Nat.le_refl _⟩, ⟨rb_ HO_7.out⟩, ⟨rb_ HO_8.out⟩, ⟨rb_ HO_9.out⟩, ⟨bb_ BK101.out⟩, ⟨gb_ HB.out⟩⟩
 clear H'
 try clear c1
 try clear c2
 try clear p2
 try clear q2
 try clear hx2
 try clear hf2
 try clear p3
 try clear q3
 try clear hx3
 try clear hf3
 try clear c4
 try clear c6
 try clear p6
 try clear c7
 try clear c8
 try clear c8b0
 try clear c8b1
 try clear c9
 try clear c9b0
 try clear c9b1
 try clear c10
 try clear c10b0
 try clear c10b1
 try clear c12
 try clear c24
 try clear c24b0
 try clear c25
 try clear c25b0
 try clear c26
 try clear c26b0
 try clear p27
 try clear q27
 try clear hx27
 try clear hf27
 try clear c29
 try clear c29b0
 try clear p30
 try clear q30
 try clear hx30
 try clear hf30
 try clear hcz12_0
 try clear hcz14_0
 try clear hcz33_0
 try clear hfz12_0
 try clear hfz14_0
 try clear hfz33_0
 try clear hx27_0
 try clear hx30_0
 try clear p2
 try clear p27
 try clear p3
 try clear p30
 try clear p6
 try clear q2
 try clear q27
 try clear q3
 try clear q30
 obtain ⟨x11_3, x12_3, rfl, rfl, HA, HK3, HO_7, HO_8, HO_9, BK101, HB⟩ := hrel
 obtain _ | k3 := gk
 ·exact absurd HA.out (by simp [spec_GreedyCode.l2])
 have H := HA.out
 clear HA
 simp only [spec_GreedyCode.l2] at H
 by_cases c37 : x12_3 < t104
 ·rw [if_pos c37] at H
  have c37b0 : decide (x12_3 < t104) = true := decide_eq_true c37
  clear c37
  by_cases c38 : 0 ≤ x12_3
  rotate_left
  ·rw [if_neg c38] at H
   exact absurd H (by simp)
  rw [if_pos c38] at H
  have c38b0 : decide (0 ≤ x12_3) = true := decide_eq_true c38
  clear c38
  by_cases c39 : x12_3 < (x9_2.length : Int)
  rotate_left
  ·rw [if_neg c39] at H
   exact absurd H (by simp)
  rw [if_pos c39] at H
  have c39b0 : decide (x12_3 < (x9_2.length : Int)) = true := decide_eq_true c39
  clear c39
  by_cases c40 : 0 ≤ x11_3
  rotate_left
  ·rw [if_neg c40] at H
   exact absurd H (by simp)
  rw [if_pos c40] at H
  have c40b0 : decide (0 ≤ x11_3) = true := decide_eq_true c40
  clear c40
  by_cases c41 : x11_3 < (x9_2.length : Int)
  rotate_left
  ·rw [if_neg c41] at H
   exact absurd H (by simp)
  rw [if_pos c41] at H
  have c41b0 : decide (x11_3 < (x9_2.length : Int)) = true := decide_eq_true c41
  clear c41
  by_cases c42 : (rd x9_2 x12_3) > (rd x9_2 x11_3)
  ·rw [if_pos c42] at H
   have c42b0 : decide ((rd x9_2 x11_3) < (rd x9_2 x12_3)) = true := decide_eq_true c42
   clear c42
   have H' := Aside0.mk H
   clear H
   try go_wp2
   replace HO_7 := Aside0.mk (Kd.R_drew HO_7.out)
   replace HO_8 := Aside0.mk (Kd.R_drew HO_8.out)
   replace HO_9 := Aside0.mk (Kd.R_drew HO_9.out)
   replace BK101 := Aside0.mk (blk_drew BK101.out)
   replace HB := Aside0.mk (below_drew1 HB.out)
   obtain ⟨Ao44, co44, eo44⟩ := Kd.R_slice HO_9.out
   (first | subst eo44 | (injection eo44 with f1_ f2_ f3_; have f4_ := f1_.symm; have f5_ := f3_.symm; clear f1_ f2_ f3_; subst f4_; subst f5_))
   have p117 : 0 ≤ (x12_3 : Int) := of_decide_eq_true t6_
   have q117 : x12_3 < (x9_2.length : Int) := of_decide_eq_true t6_
   obtain ⟨ad117, e117, hx117_0⟩ := Kd.at_int (Kd.R_reads' HO_9.out).2.2 x12_3 p117 q117
   cases e117
   replace p117 := eq_true p117
   replace q117 := eq_true q117
   have p118 : 0 ≤ (x11_3 : Int) := of_decide_eq_true t6_
   have q118 : x11_3 < (x9_2.length : Int) := of_decide_eq_true t6_
   obtain ⟨ad118, e118, hx118_0⟩ := Kd.at_int (Kd.R_reads' HO_9.out).2.2 x11_3 p118 q118
   obtain rfl : ad117 = ad118 := (by injection e118)
   replace p118 := eq_true p118
   replace q118 := eq_true q118
   refine start_ (n := 9) (S := fun w' => w'.cell? (ad117.add (x12_3).toNat) = some (.int .i64 (rd x9_2 x12_3)) ∧ w'.cell? (ad117.add (x11_3).toNat) = some (.int .i64 (rd x9_2 x11_3))) (ds := []) #[false, false, false, false, false, false, false, false, false] (by kernel_rfl) rfl rfl ⟨hx117_0, hx118_0⟩ (fun hHeld => ?_); refine with_tabW spec_GreedyCode.tab16 spec_GreedyCode.bits16 (fun HT_ HW_ => ?_)
   generalize wr.drew = w43 at HO_7 HO_8 HO_9 BK101 HB hx117_0 hx118_0 hHeld ⊢
   refine pu_ (i := 0) (N := some 51) (v := ?_) (a' := ?_) #[true, false, false, false, false, false, false, false, false] rfl rfl HT_ (Or.inl ⟨by rfl, ?_⟩) ?_ ?_
   rotate_left
   ·exact t7_
   rotate_left
   ·exact t4_
   refine pu_ (i := 1) (N := some 52) (v := ?_) (a' := ?_) #[true, true, false, false, false, false, false, false, false] rfl rfl HT_ (Or.inl ⟨by rfl, ?_⟩) ?_ ?_
   rotate_left
   ·exact t7_
   rotate_left
   ·exact t4_
   refine pu_ (i := 2) (N := some 53) (v := ?_) (a' := ?_) #[true, true, true, false, false, false, false, false, false] rfl rfl HT_ (Or.inl ⟨by rfl, ?_⟩) ?_ ?_
   rotate_left
   ·exact t7_
   rotate_left
   ·exact t4_
   refine pu_ (i := 4) (N := some 55) (v := ?_) (a' := ?_) #[true, true, true, false, true, false, false, false, false] rfl rfl HT_ (Or.inl ⟨by rfl, ?_⟩) ?_ ?_
   rotate_left
   ·exact t7_
   rotate_left
   ·exact t4_
   refine pu_ (i := 5) (N := some 56) (v := ?_) (a' := ?_) #[true, true, true, false, true, true, false, false, false] rfl rfl HT_ (Or.inl ⟨by rfl, ?_⟩) ?_ ?_
   rotate_left
   ·exact t7_
   rotate_left
   ·exact t4_
   refine pu_ (i := 6) (N := some 57) (v := ?_) (a' := ?_) #[true, true, true, false, true, true, true, false, false] rfl rfl HT_ (Or.inl ⟨by rfl, ?_⟩) ?_ ?_
   rotate_left
   ·exact t7_
   rotate_left
   ·exact t4_
   refine tk_ (i := 3) (N := some 54) (v := ?_) (a' := ?_) #[true, true, true, true, true, true, true, false, false] rfl rfl HT_ HW_ (Or.inl ⟨by rfl, ?_⟩) hHeld ?_ ?_
   rotate_left
   ·rintro w' ⟨s0, s1⟩
    go_simp
    with_reducible rfl
   rotate_left
   ·exact t4_
   refine tk_ (i := 7) (N := some 58) (v := ?_) (a' := ?_) #[true, true, true, true, true, true, true, true, false] rfl rfl HT_ HW_ (Or.inl ⟨by rfl, ?_⟩) hHeld ?_ ?_
   rotate_left
   ·rintro w' ⟨s0, s1⟩
    go_simp
    with_reducible rfl
   rotate_left
   ·exact t4_
   refine pu_ (i := 8) (N := some 59) (v := ?_) (a' := ?_) #[true, true, true, true, true, true, true, true, true] rfl rfl HT_ (Or.inl ⟨by rfl, ?_⟩) ?_ ?_
   rotate_left
   ·exact t7_
   rotate_left
   ·exact t4_
   refine done_ (done_of HT_.out (by kernel_rfl)) ?_
   try go_wp2
   go_roundg k3
   case measure => have := HK1.out; have := HK2.out; have := HK3.out; omega
   case rel => exact ⟨(x12_3), (wrap64 (x12_3 + 1)), t2_, t2_, H', ⟨by have := HK1.out; have := HK2.out; have := HK3.out; omega⟩, ⟨rb_ HO_7.out⟩, ⟨rb_ HO_8.out⟩, ⟨rb_ HO_9.out⟩, ⟨bb_ BK101.out⟩, ⟨gb_ HB.out⟩⟩
  rw [if_neg c42] at H
  have c42b0 : decide ((rd x9_2 x11_3) < (rd x9_2 x12_3)) = false := decide_eq_false c42
  clear c42
  have H' := Aside0.mk H
  clear H
  try go_wp2
  replace HO_7 := Aside0.mk (Kd.R_drew HO_7.out)
  replace HO_8 := Aside0.mk (Kd.R_drew HO_8.out)
  replace HO_9 := Aside0.mk (Kd.R_drew HO_9.out)
  replace BK101 := Aside0.mk (blk_drew BK101.out)
  replace HB := Aside0.mk (below_drew1 HB.out)
  obtain ⟨Ao46, co46, eo46⟩ := Kd.R_slice HO_9.out
  (first | subst eo46 | (injection eo46 with f1_ f2_ f3_; have f4_ := f1_.symm; have f5_ := f3_.symm; clear f1_ f2_ f3_; subst f4_; subst f5_))
  have p117 : 0 ≤ (x12_3 : Int) := of_decide_eq_true t6_
  have q117 : x12_3 < (x9_2.length : Int) := of_decide_eq_true t6_
  obtain ⟨ad117, e117, hx117_0⟩ := Kd.at_int (Kd.R_reads' HO_9.out).2.2 x12_3 p117 q117
  cases e117
  replace p117 := eq_true p117
  replace q117 := eq_true q117
  have p118 : 0 ≤ (x11_3 : Int) := of_decide_eq_true t6_
  have q118 : x11_3 < (x9_2.length : Int) := of_decide_eq_true t6_
  obtain ⟨ad118, e118, hx118_0⟩ := Kd.at_int (Kd.R_reads' HO_9.out).2.2 x11_3 p118 q118
  obtain rfl : ad117 = ad118 := (by injection e118)
  replace p118 := eq_true p118
  replace q118 := eq_true q118
  refine start_ (n := 9) (S := fun w' => w'.cell? (ad117.add (x12_3).toNat) = some (.int .i64 (rd x9_2 x12_3)) ∧ w'.cell? (ad117.add (x11_3).toNat) = some (.int .i64 (rd x9_2 x11_3))) (ds := []) #[false, false, false, false, false, false, false, false, false] (by kernel_rfl) rfl rfl ⟨hx117_0, hx118_0⟩ (fun hHeld => ?_); refine with_tabW spec_GreedyCode.tab16 spec_GreedyCode.bits16 (fun HT_ HW_ => ?_)
  generalize wr.drew = w45 at HO_7 HO_8 HO_9 BK101 HB hx117_0 hx118_0 hHeld ⊢
  refine pu_ (i := 0) (N := some 51) (v := ?_) (a' := ?_) #[true, false, false, false, false, false, false, false, false] rfl rfl HT_ (Or.inl ⟨by rfl, ?_⟩) ?_ ?_
  rotate_left
  ·exact t7_
  rotate_left
  ·exact t4_
  refine pu_ (i := 1) (N := some 52) (v := ?_) (a' := ?_) #[true, true, false, false, false, false, false, false, false] rfl rfl HT_ (Or.inl ⟨by rfl, ?_⟩) ?_ ?_
  rotate_left
  ·exact t7_
  rotate_left
  ·exact t4_
  refine pu_ (i := 2) (N := some 53) (v := ?_) (a' := ?_) #[true, true, true, false, false, false, false, false, false] rfl rfl HT_ (Or.inl ⟨by rfl, ?_⟩) ?_ ?_
  rotate_left
  ·exact t7_
  rotate_left
  ·exact t4_
  refine pu_ (i := 4) (N := some 55) (v := ?_) (a' := ?_) #[true, true, true, false, true, false, false, false, false] rfl rfl HT_ (Or.inl ⟨by rfl, ?_⟩) ?_ ?_
  rotate_left
  ·exact t7_
  rotate_left
  ·exact t4_
  refine pu_ (i := 5) (N := some 56) (v := ?_) (a' := ?_) #[true, true, true, false, true, true, false, false, false] rfl rfl HT_ (Or.inl ⟨by rfl, ?_⟩) ?_ ?_
  rotate_left
  ·exact t7_
  rotate_left
  ·exact t4_
  refine pu_ (i := 6) (N := some 57) (v := ?_) (a' := ?_) #[true, true, true, false, true, true, true, false, false] rfl rfl HT_ (Or.inl ⟨by rfl, ?_⟩) ?_ ?_
  rotate_left
  ·exact t7_
  rotate_left
  ·exact t4_
  refine tk_ (i := 3) (N := some 54) (v := ?_) (a' := ?_) #[true, true, true, true, true, true, true, false, false] rfl rfl HT_ HW_ (Or.inl ⟨by rfl, ?_⟩) hHeld ?_ ?_
  rotate_left
  ·rintro w' ⟨s0, s1⟩
   go_simp
   with_reducible rfl
  rotate_left
  ·exact t4_
  refine tk_ (i := 7) (N := some 58) (v := ?_) (a' := ?_) #[true, true, true, true, true, true, true, true, false] rfl rfl HT_ HW_ (Or.inl ⟨by rfl, ?_⟩) hHeld ?_ ?_
  rotate_left
  ·rintro w' ⟨s0, s1⟩
   go_simp
   with_reducible rfl
  rotate_left
  ·exact t4_
  refine pu_ (i := 8) (N := some 59) (v := ?_) (a' := ?_) #[true, true, true, true, true, true, true, true, true] rfl rfl HT_ (Or.inl ⟨by rfl, ?_⟩) ?_ ?_
  rotate_left
  ·exact t7_
  rotate_left
  ·exact t4_
  refine done_ (done_of HT_.out (by kernel_rfl)) ?_
  try go_wp2
  go_roundg k3
  case measure => have := HK1.out; have := HK2.out; have := HK3.out; omega
  case rel => exact ⟨(x11_3), (wrap64 (x12_3 + 1)), t2_, t2_, H', ⟨by have := HK1.out; have := HK2.out; have := HK3.out; omega⟩, ⟨rb_ HO_7.out⟩, ⟨rb_ HO_8.out⟩, ⟨rb_ HO_9.out⟩, ⟨bb_ BK101.out⟩, ⟨gb_ HB.out⟩⟩
 rw [if_neg c37] at H
 have c37b0 : decide (x12_3 < t104) = false := decide_eq_false c37
 clear c37
 by_cases c47 : 0 ≤ x11_3
 rotate_left
 ·rw [if_neg c47] at H
  exact absurd H (by simp)
 rw [if_pos c47] at H
 have c47b0 : decide (0 ≤ x11_3) = true := decide_eq_true c47
 clear c47
 by_cases c48 : x11_3 < (x9_2.length : Int)
 rotate_left
 ·rw [if_neg c48] at H
  exact absurd H (by simp)
 rw [if_pos c48] at H
 have c48b0 : decide (x11_3 < (x9_2.length : Int)) = true := decide_eq_true c48
 clear c48
 by_cases c49 : (rd x9_2 x11_3) = 0
 ·rw [if_pos c49] at H
  have c49b0 : ((rd x9_2 x11_3) == 0) = true := beq_iff_eq.mpr c49
  have c49b1 : ((rd x9_2 x11_3) != 0) = false := bne_eq_false_iff_eq.mpr c49
  clear c49
  simp only [Option.some.injEq, Prod.mk.injEq] at H
  obtain ⟨rfl, rfl⟩ := H
  obtain ⟨Ao50, co50, eo50⟩ := Kd.R_slice HO_9.out
  subst eo50
  have p119 : 0 ≤ (x11_3 : Int) := of_decide_eq_true t6_
  have q119 : x11_3 < (x9_2.length : Int) := of_decide_eq_true t6_
  obtain ⟨ad119, e119, hx119_0⟩ := Kd.at_int (Kd.R_reads' HO_9.out).2.2 x11_3 p119 q119
  cases e119
  replace p119 := eq_true p119
  replace q119 := eq_true q119
  go_wp2
  go_ret2
  exact ⟨_, t5_, by (with_reducible repeat (first | apply Kd.R_alloc | apply Kd.R_drewN | apply Kd.R_drew)); exact Kd.R_mono HO_7.out (fun _ hk => trivial), gb_ HB.out⟩
 rw [if_neg c49] at H
 have c49b0 : ((rd x9_2 x11_3) == 0) = false := beq_eq_false_iff_ne.mpr c49
 have c49b1 : ((rd x9_2 x11_3) != 0) = true := bne_iff_ne.mpr c49
 replace H := Option.bind_eq_some_iff.mp H
 obtain ⟨t120, A510, H⟩ := H
 replace H : ((spec_l01Ball.f k3 l0_0 x11_3 a1).bind fun t123 => (spec_GreedyCode.l3 k3 a1 t104 t120 x8_2 x9_2 t123 0 l0_0)) = some (r1, r2) := H
 have A51 := Aside0.mk A510
 clear A510
 replace H := Option.bind_eq_some_iff.mp H
 obtain ⟨t123, A520, H⟩ := H
 replace H : (spec_GreedyCode.l3 k3 a1 t104 t120 x8_2 x9_2 t123 0 l0_0) = some (r1, r2) := H
 have A52 := Aside0.mk A520
 clear A520
 have H' := Aside0.mk H
 clear H
 obtain ⟨Ao53, co53, eo53⟩ := Kd.R_slice HO_9.out
 subst eo53
 have p119 : 0 ≤ (x11_3 : Int) := of_decide_eq_true t6_
 have q119 : x11_3 < (x9_2.length : Int) := of_decide_eq_true t6_
 obtain ⟨ad119, e119, hx119_0⟩ := Kd.at_int (Kd.R_reads' HO_9.out).2.2 x11_3 p119 q119
 cases e119
 replace p119 := eq_true p119
 replace q119 := eq_true q119
 obtain ⟨Ao54, co54, eo54⟩ := Kd.R_slice HO_7.out
 subst eo54
 go_wp2_with (first | ((with_reducible refine gate_callee (f := 127) rfl ?_); refine gl_ (some 69) rfl rfl Try.func127 #[.slice Ao54 x7_2.length co54, .int .i64 x11_3] rfl ?_; (with_reducible refine (spec_l01Put.calls k3 (fun k_ => some k_ = (.slice Ao54 x7_2.length co54 : Value).ownBlock) (.slice Ao54 x7_2.length co54) x7_2 x11_3 t120 w _ ?side1 ?side2 A51.out).mono ?_); (case side1 => exact gb_ HB.out); (case side2 => exact Kd.R_tight rfl HO_7.out); rintro e w55 ⟨v121, rfl, ho0, hb, hkp⟩; refine ⟨_, rfl, ?_⟩; have n0_ := Aside0.mk (Kd.R_mono (ok' := fun k_ => True) (Kd.R_keptB ((Kd.R_apart' HO_8.out (Kd.R_typed HO_7.out) (by decide))) hkp (fun k_ hk_ hs_ => (hk_.2) hs_)) (fun k_ hk_ => trivial)); have n1_ := Aside0.mk (Kd.R_mono (ok' := fun k_ => OB_ k_ v121) (Kd.R_keptB (HO_9.out) hkp (fun k_ hk_ hs_ => (hk_) hs_)) (fun k_ hk_ => fun e_ => Or.elim (ho0.1 k_ e_.symm) (fun hs_ => hk_.2.1 hs_) (fun hn_ => Nat.not_le.2 hk_.2.2 hn_))); have n2_ := a7_ BK101 hkp HO_7; have n3_ := Aside0.mk (Kd.R_mono (ok' := fun k_ => OB_ k_ (.slice (some ad119) x9_2.length co53)) ho0 (fun k_ hk_ => Or.elim hk_ (fun hs_ => fun e_ => (((HO_9.out).1 k_ e_.symm)) hs_) (fun hn_ => (Kd.fresh' (Kd.R_lt (rb_ HO_9.out)) k_ hn_)))); have n4_ := Aside0.mk (hb); clear HO_8 HO_9 BK101 HB HO_7; have HO_8 := n0_; have HO_9 := n1_; have BK101 := n2_; have HO122 := n3_; have HB := n4_; clear n0_ n1_ n2_ n3_ n4_; (try clear hb); (try clear hkp); (try clear ho0); have hcz56_0 := hz_ BK101; have hfz56_0 := blk_frozen BK101.out 0) | ((with_reducible refine gate_callee (f := 72) rfl ?_); refine gl_ (some 73) rfl rfl Try.func72 #[.agg #[.slice A0_0 l0_0.length c0_0], .int .i64 x11_3, .int .i64 a1] rfl ?_; (with_reducible refine (spec_l01Ball.calls k3 _ _ l0_0 x11_3 a1 t123 _ ?side1 ?side2 A52.out).mono ?_); (case side1 => exact c2_ HR0_0 HB); (case side2 => exact HC0_0.out); rintro e w57 ⟨v124, rfl, ho0, hb⟩; refine ⟨_, rfl, ?_⟩; replace HO_8 := a1_ HO_8 hb; have HO125 := Aside0.mk (Kd.R_lower (Kd.R_new' (Kd.R_new' ho0 (Kd.R_lt (rb_ HO_9.out))) (Kd.R_lt (rb_ HO122.out))) (below_size (gb_ HB.out))); replace HO_9 := a5_ HO_9 ho0 hb; replace HO122 := a5_ HO122 ho0 hb; replace BK101 := a2_ BK101 hb; replace HB := b1_ HB hb; (try clear hb); (try clear hb2); (try clear hk); (try clear hi); (try clear ho0)))
 generalize ad119.add x11_3.toNat = aq_
 go_loopg [14] k3 (fun kq v14 w' => ∃ (x8_4 : List Bool) (x9_4 : List Int) (x14_4 : Int), v14 = .int .i64 x14_4 ∧ Aside0 (spec_GreedyCode.l3 kq a1 t104 t120 x8_4 x9_4 t123 x14_4 l0_0 = some (r1, r2)) ∧ Aside0 (kq ≤ k3) ∧ Aside0 (Kd.R (Kd.int .i64) 2 w' w.heap.size (fun k_ => OB_ k_ (.slice (some ad119) x9_2.length co53) ∧ OB_ k_ v124) v121 t120) ∧ Aside0 (Kd.R Kd.bool 4 w' w.heap.size (fun _ => True) v109 x8_4) ∧ Aside0 (Kd.R (Kd.int .i64) 2 w' w.heap.size (fun k_ => OB_ k_ v121 ∧ OB_ k_ v124) (.slice (some ad119) x9_2.length co53) x9_4) ∧ Aside0 (Kd.R (Kd.int .i64) 2 w' w.heap.size (fun k_ => OB_ k_ v121 ∧ OB_ k_ (.slice (some ad119) x9_2.length co53)) v124 t123) ∧ Aside0 (w'.heap[gb101]? = some (.cells #[(.slice A0_0 l0_0.length c0_0)] 26 (0, 0))) ∧ Aside0 (Below w.heap.size w w'))
 case atStart => exact ⟨(x8_2), (x9_2), (0), t2_, H', ⟨Nat.le_refl _⟩, ⟨rb_ HO122.out⟩, ⟨rb_ HO_8.out⟩, ⟨rb_ HO_9.out⟩, ⟨by (with_reducible repeat (first | apply Kd.R_alloc | apply Kd.R_drewN | apply Kd.R_drew)); exact Kd.R_mono HO125.out (fun _ hk => ⟨hk.2, hk.1.2⟩)⟩, ⟨bb_ BK101.out⟩, ⟨gb_ HB.out⟩⟩
 clear H'
 try clear c1
 try clear p1
 try clear q1
 try clear hx1
 try clear c2
 try clear p2
 try clear q2
 try clear hx2
 try clear hf2
 try clear c3
 try clear p3
 try clear q3
 try clear hx3
 try clear hf3
 try clear c4
 try clear c6
 try clear p6
 try clear c7
 try clear c8
 try clear c8b0
 try clear c8b1
 try clear c9
 try clear c9b0
 try clear c9b1
 try clear c10
 try clear c10b0
 try clear c10b1
 try clear p11
 try clear q11
 try clear hx11
 try clear c12
 try clear c24
 try clear c24b0
 try clear c25
 try clear c25b0
 try clear c26
 try clear c26b0
 try clear p27
 try clear q27
 try clear hx27
 try clear hf27
 try clear c29
 try clear c29b0
 try clear p30
 try clear q30
 try clear hx30
 try clear hf30
 try clear c37
 try clear c37b0
 try clear c38
 try clear c38b0
 try clear c39
 try clear c39b0
 try clear c40
 try clear c40b0
 try clear c41
 try clear c41b0
 try clear c42
 try clear c42b0
 try clear c47
 try clear c47b0
 try clear c48
 try clear c48b0
 try clear c49
 try clear c49b0
 try clear c49b1
 try clear hcz12_0
 try clear hcz14_0
 try clear hcz33_0
 try clear hcz56_0
 try clear hfz12_0
 try clear hfz14_0
 try clear hfz33_0
 try clear hfz56_0
 try clear hx117_0
 try clear hx118_0
 try clear hx119_0
 try clear hx27_0
 try clear hx30_0
 try clear p117
 try clear p118
 try clear p119
 try clear p2
 try clear p27
 try clear p3
 try clear p30
 try clear p6
 try clear q117
 try clear q118
 try clear q119
 try clear q2
 try clear q27
 try clear q3
 try clear q30
 obtain ⟨x8_4, x9_4, x14_4, rfl, HA, HK4, HO_7, HO_8, HO_9, HO_13, BK101, HB⟩ := hrel
 have hl9_4 := (Kd.R_reads' HO_9.out).1
 rw [hl9_4] at HO_9
 (try simp only [hl9_4])
 (try simp only [hl9_4] at BK101)
 (try simp only [hl9_4] at HO_7)
 (try simp only [hl9_4] at HO_8)
 (try simp only [hl9_4] at HO_13)
 obtain _ | k4 := gk
 ·exact absurd HA.out (by simp [spec_GreedyCode.l3])
 have H := HA.out
 clear HA
 simp only [spec_GreedyCode.l3] at H
 by_cases c58 : x14_4 < (t123.length : Int)
 rotate_left
 ·rw [if_neg c58] at H
  have c58b0 : decide (x14_4 < (t123.length : Int)) = false := decide_eq_false c58
  clear c58
  have H' := Aside0.mk H
  clear H
  obtain ⟨Ao83, co83, eo83⟩ := Kd.R_slice HO_13.out
  subst eo83
  go_wp2
  (try simp only [← hl9_4])
  go_roundg k4
  case measure => have := HK1.out; have := HK2.out; have := HK3.out; have := HK4.out; omega
  case rel => exact ⟨(t120), (x8_4), (x9_4), H', ⟨by have := HK1.out; have := HK2.out; have := HK3.out; have := HK4.out; omega⟩, ⟨by (try simp only [hl9_4]); (with_reducible repeat (first | apply Kd.R_alloc | apply Kd.R_drewN | apply Kd.R_drew)); exact Kd.R_mono HO_7.out (fun _ hk => hk.1)⟩, ⟨by (try simp only [hl9_4]); (with_reducible repeat (first | apply Kd.R_alloc | apply Kd.R_drewN | apply Kd.R_drew)); exact HO_8.out⟩, ⟨by (try simp only [hl9_4]); (with_reducible repeat (first | apply Kd.R_alloc | apply Kd.R_drewN | apply Kd.R_drew)); exact Kd.R_mono HO_9.out (fun _ hk => hk.1)⟩, ⟨by (try simp only [hl9_4]); (with_reducible repeat (first | refine blk_drewN ?_ _ | refine blk_drew ?_ | refine blk_alloc ?_ _)); exact BK101.out⟩, ⟨gb_ HB.out⟩⟩
 rw [if_pos c58] at H
 have c58b0 : decide (x14_4 < (t123.length : Int)) = true := decide_eq_true c58
 clear c58
 by_cases c59 : 0 ≤ x14_4
 rotate_left
 ·rw [if_neg c59] at H
  exact absurd H (by simp)
 rw [if_pos c59] at H
 have c59b0 : decide (0 ≤ x14_4) = true := decide_eq_true c59
 clear c59
 by_cases c60 : 0 ≤ (rd t123 x14_4)
 rotate_left
 ·rw [if_neg c60] at H
  exact absurd H (by simp)
 rw [if_pos c60] at H
 have c60b0 : decide (0 ≤ (rd t123 x14_4)) = true := decide_eq_true c60
 clear c60
 by_cases c61 : (rd t123 x14_4) < (x8_4.length : Int)
 rotate_left
 ·rw [if_neg c61] at H
  exact absurd H (by simp)
 rw [if_pos c61] at H
 have c61b0 : decide ((rd t123 x14_4) < (x8_4.length : Int)) = true := decide_eq_true c61
 clear c61
 obtain ⟨bq62, hbq62⟩ : ∃ b_ : Bool, b_ = (rdOf false x8_4 (rd t123 x14_4)) := ⟨_, rfl⟩
 replace H : (if (bq62 = true) then ((spec_l01Ball.f k4 l0_0 (rd t123 x14_4) a1).bind fun t131 => (spec_GreedyCode.l4 k4 a1 t104 t120 (x8_4.set ((rd t123 x14_4) : Int).toNat false) x9_4 t123 x14_4 t131 0 l0_0)) else (spec_GreedyCode.l3 k4 a1 t104 t120 x8_4 x9_4 t123 (wrap64 (x14_4 + 1)) l0_0)) = some (r1, r2) := by rw [← hbq62] at H; exact H
 have Nbq62 := Aside0.mk hbq62
 clear hbq62
 by_cases c63 : (bq62 = true)
 rotate_left
 ·replace c63 := Bool.eq_false_iff.mpr c63
  subst c63
  have H1 : (spec_GreedyCode.l3 k4 a1 t104 t120 x8_4 x9_4 t123 (wrap64 (x14_4 + 1)) l0_0) = some (r1, r2) := by rw [if_neg (show ¬ (false = true) by decide)] at H; exact H
  clear H
  have H := H1
  clear H1
  have H' := Aside0.mk H
  clear H
  obtain ⟨Ao81, co81, eo81⟩ := Kd.R_slice HO_13.out
  subst eo81
  have p126 : 0 ≤ (x14_4 : Int) := of_decide_eq_true t6_
  have q126 : x14_4 < (t123.length : Int) := of_decide_eq_true t6_
  obtain ⟨ad126, e126, hx126_0⟩ := Kd.at_int (Kd.R_reads' HO_13.out).2.2 x14_4 p126 q126
  cases e126
  replace p126 := eq_true p126
  replace q126 := eq_true q126
  obtain ⟨Ao82, co82, eo82⟩ := Kd.R_slice HO_8.out
  subst eo82
  have p127 : 0 ≤ ((rd t123 x14_4) : Int) := of_decide_eq_true t6_
  have q127 : (rd t123 x14_4) < (x8_4.length : Int) := of_decide_eq_true t6_
  obtain ⟨ad127, e127, hx127_0⟩ := Kd.at_bool (Kd.R_reads' HO_8.out).2.2 (rd t123 x14_4) p127 q127
  (try rw [← Nbq62.out] at hx127_0)
  cases e127
  replace p127 := eq_true p127
  replace q127 := eq_true q127
  go_wp2
  (try simp only [← hl9_4])
  go_roundg k4
  case measure => have := HK1.out; have := HK2.out; have := HK3.out; have := HK4.out; omega
  case rel => exact ⟨(x8_4), (x9_4), (wrap64 (x14_4 + 1)), t2_, H', ⟨by have := HK1.out; have := HK2.out; have := HK3.out; have := HK4.out; omega⟩, ⟨by (try simp only [hl9_4]); (with_reducible repeat (first | apply Kd.R_alloc | apply Kd.R_drewN | apply Kd.R_drew)); exact HO_7.out⟩, ⟨by (try simp only [hl9_4]); (with_reducible repeat (first | apply Kd.R_alloc | apply Kd.R_drewN | apply Kd.R_drew)); exact HO_8.out⟩, ⟨by (try simp only [hl9_4]); (with_reducible repeat (first | apply Kd.R_alloc | apply Kd.R_drewN | apply Kd.R_drew)); exact HO_9.out⟩, ⟨by (try simp only [hl9_4]); (with_reducible repeat (first | apply Kd.R_alloc | apply Kd.R_drewN | apply Kd.R_drew)); exact HO_13.out⟩, ⟨by (try simp only [hl9_4]); (with_reducible repeat (first | refine blk_drewN ?_ _ | refine blk_drew ?_ | refine blk_alloc ?_ _)); exact BK101.out⟩, ⟨gb_ HB.out⟩⟩
 subst c63
 have H1 : ((spec_l01Ball.f k4 l0_0 (rd t123 x14_4) a1).bind fun t131 => (spec_GreedyCode.l4 k4 a1 t104 t120 (x8_4.set ((rd t123 x14_4) : Int).toNat false) x9_4 t123 x14_4 t131 0 l0_0)) = some (r1, r2) := by rw [if_pos rfl] at H; exact H
 clear H
 have H := H1
 clear H1
 obtain ⟨y129, hy129⟩ : ∃ y_ : List Bool, y_ = (x8_4.set ((rd t123 x14_4) : Int).toNat false) := ⟨_, rfl⟩
 replace H : ((spec_l01Ball.f k4 l0_0 (rd t123 x14_4) a1).bind fun t131 => (spec_GreedyCode.l4 k4 a1 t104 t120 y129 x9_4 t123 x14_4 t131 0 l0_0)) = some (r1, r2) := y_ H
 have Ny129 := Aside0.mk hy129
 clear hy129
 replace H := Option.bind_eq_some_iff.mp H
 obtain ⟨t131, A650, H⟩ := H
 replace H : (spec_GreedyCode.l4 k4 a1 t104 t120 y129 x9_4 t123 x14_4 t131 0 l0_0) = some (r1, r2) := H
 have A65 := Aside0.mk A650
 clear A650
 have H' := Aside0.mk H
 clear H
 obtain ⟨Ao66, co66, eo66⟩ := Kd.R_slice HO_13.out
 subst eo66
 have p126 : 0 ≤ (x14_4 : Int) := of_decide_eq_true t6_
 have q126 : x14_4 < (t123.length : Int) := of_decide_eq_true t6_
 obtain ⟨ad126, e126, hx126_0⟩ := Kd.at_int (Kd.R_reads' HO_13.out).2.2 x14_4 p126 q126
 cases e126
 replace p126 := eq_true p126
 replace q126 := eq_true q126
 obtain ⟨Ao67, co67, eo67⟩ := Kd.R_slice HO_8.out
 subst eo67
 have p127 : 0 ≤ ((rd t123 x14_4) : Int) := of_decide_eq_true t6_
 have q127 : (rd t123 x14_4) < (x8_4.length : Int) := of_decide_eq_true t6_
 obtain ⟨ad127, e127, hx127_0⟩ := Kd.at_bool (Kd.R_reads' HO_8.out).2.2 (rd t123 x14_4) p127 q127
 (try rw [← Nbq62.out] at hx127_0)
 cases e127
 replace p127 := eq_true p127
 replace q127 := eq_true q127
 have p128 : 0 ≤ (x14_4 : Int) := of_decide_eq_true t6_
 have q128 : x14_4 < (t123.length : Int) := of_decide_eq_true t6_
 obtain ⟨ad128, e128, hx128_0⟩ := Kd.at_int (Kd.R_reads' HO_13.out).2.2 x14_4 p128 q128
 obtain rfl : ad126 = ad128 := (by injection e128)
 replace p128 := eq_true p128
 replace q128 := eq_true q128
 have p64 : 0 ≤ ((rd t123 x14_4) : Int) := of_decide_eq_true t6_
 have q64 : ((rd t123 x14_4) : Int) < ((x8_4.length : Int) : Int) := of_decide_eq_true t6_
 obtain ⟨go64, co64, eo64, gb64, gl64, cl64, HG64⟩ := Kd.R_form HO_8.out (by omega)
 (first | cases eo64 | (injection eo64 with ea_ en_ ec_; (first | subst ea_ | (injection ea_ with ea_; subst ea_)); subst ec_; clear en_))
 have GB64 := Aside0.mk gb64
 have GG64 := Aside0.mk HG64
 clear gb64 gl64 HG64
 (first | simp only [add_plain] at hx127_0 | skip)
 obtain ⟨hx64_0, hf64_0⟩ := Kd.R_celln false HO_8.out ((rd t123 x14_4) : Int) p64 q64
 replace p64 := eq_true p64
 replace q64 := eq_true q64
 have HP68 := Kd.R_putg HO_8.out ((rd t123 x14_4) : Int) false
 try go_wp2_with (first | ((with_reducible refine gate_store (t := 4) (p := 93) rfl ?_); refine store_event (t := 4) (p := 93) (v := ?vo_w69) (w1 := (wr.setCell ⟨go64, ((rd t123 x14_4) : Int).toNat, none⟩ (.bool false))) ?hg ?ho ?hn ?hr ?_; (case ho => rfl); (case hg => rfl); (case hn => rfl); (case hr => exact t3_); intro w69 hw; have hg : wr.grownBy w69 (some go64) := (by rw [hw]; exact HP68.2); have hp_ : Kd.R Kd.bool 4 w69 w.heap.size (fun _ => True) (.slice (some ⟨go64, 0, none⟩) x8_4.length co67) y129 := (by rw [hw, Ny129.out]; exact HP68.1); clear HP68; have n0_ := Aside0.mk (Kd.R_over' (v := (.slice (some ⟨go64, 0, none⟩) x8_4.length co67)) (rb_ HO_7.out) (Kd.R_typed HO_8.out) (by decide) hg); have n1_ := Aside0.mk (hp_); have n2_ := Aside0.mk (Kd.R_over' (v := (.slice (some ⟨go64, 0, none⟩) x8_4.length co67)) (rb_ HO_9.out) (Kd.R_typed HO_8.out) (by decide) hg); have n3_ := Aside0.mk (Kd.R_over' (v := (.slice (some ⟨go64, 0, none⟩) x8_4.length co67)) (rb_ HO_13.out) (Kd.R_typed HO_8.out) (by decide) hg); have n4_ := Aside0.mk (blk_grown (g := gb101) (o := .cells #[.slice A0_0 l0_0.length c0_0] 26 (0, 0)) (bb_ BK101.out) hg (Kd.R_ne HO_8.out BK101.out (by decide))); have n5_ := Aside0.mk ((by rw [hw]; exact below_set (HB.out) GB64.out : Below w.heap.size w w69)); clear HO_7 HO_8 HO_9 HO_13 BK101 HB; have HO_7 := n0_; have HO_8 := n1_; have HO_9 := n2_; have HO_13 := n3_; have BK101 := n4_; have HB := n5_; clear n0_ n1_ n2_ n3_ n4_ n5_ hg hw hp_))
 replace HO_7 := Aside0.mk (Kd.R_drew HO_7.out)
 replace HO_8 := Aside0.mk (Kd.R_drew HO_8.out)
 replace HO_9 := Aside0.mk (Kd.R_drew HO_9.out)
 replace HO_13 := Aside0.mk (Kd.R_drew HO_13.out)
 replace BK101 := Aside0.mk (blk_drew BK101.out)
 replace HB := Aside0.mk (below_drew1 HB.out)
 have p130 : 0 ≤ (x14_4 : Int) := of_decide_eq_true t6_
 have q130 : x14_4 < (t123.length : Int) := of_decide_eq_true t6_
 obtain ⟨ad130, e130, hx130_0⟩ := Kd.at_int (Kd.R_reads' HO_13.out).2.2 x14_4 p130 q130
 obtain rfl : ad126 = ad130 := (by injection e130)
 replace p130 := eq_true p130
 replace q130 := eq_true q130
 refine start_ (n := 8) (S := fun w' => w'.cell? ⟨gb101, 0, none⟩ = some (.slice A0_0 l0_0.length c0_0) ∧ w'.cell? (ad126.add (x14_4).toNat) = some (.int .i64 (rd t123 x14_4))) (ds := []) #[false, false, false, false, false, false, false, false] (by kernel_rfl) rfl rfl ⟨(blk_cell BK101.out 0).trans rfl, hx130_0⟩ (fun hHeld => ?_); refine with_tabW spec_GreedyCode.tab27 spec_GreedyCode.bits27 (fun HT_ HW_ => ?_)
 generalize w69.drew = w70 at HO_7 HO_8 HO_9 HO_13 BK101 HB hx130_0 hHeld ⊢
 refine pu_ (i := 1) (N := some 95) (v := ?_) (a' := ?_) #[false, true, false, false, false, false, false, false] rfl rfl HT_ (Or.inl ⟨by rfl, ?_⟩) ?_ ?_
 rotate_left
 ·exact t7_
 rotate_left
 ·exact t4_
 refine pu_ (i := 2) (N := some 96) (v := ?_) (a' := ?_) #[false, true, true, false, false, false, false, false] rfl rfl HT_ (Or.inl ⟨by rfl, ?_⟩) ?_ ?_
 rotate_left
 ·exact t7_
 rotate_left
 ·exact t4_
 refine pu_ (i := 3) (N := some 97) (v := ?_) (a' := ?_) #[false, true, true, true, false, false, false, false] rfl rfl HT_ (Or.inl ⟨by rfl, ?_⟩) ?_ ?_
 rotate_left
 ·exact t7_
 rotate_left
 ·exact t4_
 refine pu_ (i := 5) (N := some 99) (v := ?_) (a' := ?_) #[false, true, true, true, false, true, false, false] rfl rfl HT_ (Or.inl ⟨by rfl, ?_⟩) ?_ ?_
 rotate_left
 ·exact t7_
 rotate_left
 ·exact t4_
 refine tk_ (i := 0) (N := some 94) (v := ?_) (a' := ?_) #[true, true, true, true, false, true, false, false] rfl rfl HT_ HW_ (Or.inl ⟨by rfl, ?_⟩) hHeld ?_ ?_
 rotate_left
 ·rintro w' ⟨s0, s1⟩
  go_simp
  with_reducible rfl
 rotate_left
 ·exact t4_
 refine tk_ (i := 4) (N := some 98) (v := ?_) (a' := ?_) #[true, true, true, true, true, true, false, false] rfl rfl HT_ HW_ (Or.inl ⟨by rfl, ?_⟩) hHeld ?_ ?_
 rotate_left
 ·rintro w' ⟨s0, s1⟩
  go_simp
  with_reducible rfl
 rotate_left
 ·exact t4_
 refine on_ (i := 6) (N := some 100) #[true, true, true, true, true, true, true, false] rfl rfl HT_ (fun K hK => ?_)
 refine goes_ Try.func72 (by kernel_rfl) rfl #[.agg #[.slice A0_0 l0_0.length c0_0], .int .i64 (rd t123 x14_4), .int .i64 a1] (by rfl) rfl rfl t1_ ?_
 with_reducible refine (spec_l01Ball.calls k4 _ _ l0_0 (rd t123 x14_4) a1 t131 _ ?side1 ?side2 A65.out).mono ?_
 (case side1 => exact c2_ HR0_0 HB)
 (case side2 => exact HC0_0.out)
 rintro e w71 ⟨v132, rfl, ho0, hb⟩
 have HS1_ := (hb.cell (World.block_lt_of_cell? _ _ (hHeld.2))).trans (hHeld.2)
 refine ⟨_, rfl, ?_⟩
 replace HO_8 := a1_ HO_8 hb
 have HO133 := Aside0.mk (Kd.R_lower (Kd.R_new' (Kd.R_new' (Kd.R_new' ho0 (Kd.R_lt (rb_ HO_7.out))) (Kd.R_lt (rb_ HO_9.out))) (Kd.R_lt (rb_ HO_13.out))) (below_size (gb_ HB.out)))
 replace HO_7 := a5_ HO_7 ho0 hb
 replace HO_9 := a5_ HO_9 ho0 hb
 replace HO_13 := a5_ HO_13 ho0 hb
 replace BK101 := a2_ BK101 hb
 replace HB := b1_ HB hb
 (try clear hb)
 (try clear hb2)
 (try clear hk)
 (try clear hi)
 (try clear ho0)
 refine hK.out _ _ ⟨(blk_cell BK101.out 0).trans rfl, HS1_⟩ (fun hHeld => ?_)
 clear hK K
 refine norm_ (a' := ?_) ?_ ?_
 rotate_left
 ·show Act.put _ (some 100) _ = _
  simp only [Act.put, List.setIfInBounds_toArray, List.set_cons_zero, List.set_cons_succ, i64_w, i32_w]
  rfl
 refine pu_ (i := 7) (N := some 15) (v := ?_) (a' := ?_) #[true, true, true, true, true, true, true, true] rfl rfl HT_ (Or.inl ⟨by rfl, ?_⟩) ?_ ?_
 rotate_left
 ·exact t7_
 rotate_left
 ·exact t4_
 refine done_ (done_of HT_.out (by kernel_rfl)) ?_
 try go_wp2
 go_loopg [16] k4 (fun kq v16 w' => ∃ (x9_5 : List Int) (x16_5 : Int), v16 = .int .i64 x16_5 ∧ Aside0 (spec_GreedyCode.l4 kq a1 t104 t120 y129 x9_5 t123 x14_4 t131 x16_5 l0_0 = some (r1, r2)) ∧ Aside0 (kq ≤ k4) ∧ Aside0 (Kd.R (Kd.int .i64) 2 w' w.heap.size (fun k_ => OB_ k_ (.slice (some ad119) x9_4.length co53) ∧ OB_ k_ (.slice (some ad126) t123.length co66) ∧ OB_ k_ v132) v121 t120) ∧ Aside0 (Kd.R Kd.bool 4 w' w.heap.size (fun _ => True) (.slice (some ⟨go64, 0, none⟩) x8_4.length co67) y129) ∧ Aside0 (Kd.R (Kd.int .i64) 2 w' w.heap.size (fun k_ => OB_ k_ v121 ∧ OB_ k_ (.slice (some ad126) t123.length co66) ∧ OB_ k_ v132) (.slice (some ad119) x9_4.length co53) x9_5) ∧ Aside0 (Kd.R (Kd.int .i64) 2 w' w.heap.size (fun k_ => OB_ k_ v121 ∧ OB_ k_ (.slice (some ad119) x9_4.length co53) ∧ OB_ k_ v132) (.slice (some ad126) t123.length co66) t123) ∧ Aside0 (Kd.R (Kd.int .i64) 2 w' w.heap.size (fun k_ => OB_ k_ v121 ∧ OB_ k_ (.slice (some ad119) x9_4.length co53) ∧ OB_ k_ (.slice (some ad126) t123.length co66)) v132 t131) ∧ Aside0 (w'.heap[gb101]? = some (.cells #[(.slice A0_0 l0_0.length c0_0)] 26 (0, 0))) ∧ Aside0 (Below w.heap.size w w'))
 case atStart => exact ⟨(x9_4), (0), t2_, H', ⟨Nat.le_refl _⟩, ⟨by (try simp only [hl9_4]); (with_reducible repeat (first | apply Kd.R_alloc | apply Kd.R_drewN | apply Kd.R_drew)); exact Kd.R_mono HO_7.out (fun _ hk => ⟨hk.1.1, ⟨hk.1.2, hk.2⟩⟩)⟩, ⟨by (try simp only [hl9_4]); (with_reducible repeat (first | apply Kd.R_alloc | apply Kd.R_drewN | apply Kd.R_drew)); exact HO_8.out⟩, ⟨by (try simp only [hl9_4]); (with_reducible repeat (first | apply Kd.R_alloc | apply Kd.R_drewN | apply Kd.R_drew)); exact Kd.R_mono HO_9.out (fun _ hk => ⟨hk.1.1, ⟨hk.1.2, hk.2⟩⟩)⟩, ⟨by (try simp only [hl9_4]); (with_reducible repeat (first | apply Kd.R_alloc | apply Kd.R_drewN | apply Kd.R_drew)); exact Kd.R_mono HO_13.out (fun _ hk => ⟨hk.1.1, ⟨hk.1.2, hk.2⟩⟩)⟩, ⟨by (try simp only [hl9_4]); (with_reducible repeat (first | apply Kd.R_alloc | apply Kd.R_drewN | apply Kd.R_drew)); exact Kd.R_mono HO133.out (fun _ hk => ⟨hk.1.1.2, ⟨hk.1.2, hk.2⟩⟩)⟩, ⟨by (try simp only [hl9_4]); (with_reducible repeat (first | refine blk_drewN ?_ _ | refine blk_drew ?_ | refine blk_alloc ?_ _)); exact BK101.out⟩, ⟨gb_ HB.out⟩⟩
 clear H'
 try clear c1
 try clear p1
 try clear q1
 try clear hx1
 try clear c2
 try clear p2
 try clear q2
 try clear hx2
 try clear hf2
 try clear c3
 try clear p3
 try clear q3
 try clear hx3
 try clear hf3
 try clear c4
 try clear c5
 try clear c6
 try clear p6
 try clear q6
 try clear hx6
 try clear hf6
 try clear c7
 try clear c8
 try clear c8b0
 try clear c8b1
 try clear c9
 try clear c9b0
 try clear c9b1
 try clear c10
 try clear c10b0
 try clear c10b1
 try clear p11
 try clear q11
 try clear hx11
 try clear c12
 try clear p12
 try clear q12
 try clear hx12
 try clear p13
 try clear q13
 try clear hx13
 try clear c24
 try clear c24b0
 try clear c25
 try clear c25b0
 try clear c26
 try clear c26b0
 try clear p27
 try clear q27
 try clear hx27
 try clear hf27
 try clear c29
 try clear c29b0
 try clear p30
 try clear q30
 try clear hx30
 try clear hf30
 try clear c37
 try clear c37b0
 try clear c38
 try clear c38b0
 try clear c39
 try clear c39b0
 try clear c40
 try clear c40b0
 try clear c41
 try clear c41b0
 try clear c42
 try clear c42b0
 try clear c47
 try clear c47b0
 try clear c48
 try clear c48b0
 try clear c49
 try clear c49b0
 try clear c49b1
 try clear c58
 try clear c58b0
 try clear c59
 try clear c59b0
 try clear c60
 try clear c60b0
 try clear c61
 try clear c61b0
 try clear q62
 try clear c63
 try clear p64
 try clear q64
 try clear hx64
 try clear hf64
 try clear hcz12_0
 try clear hcz14_0
 try clear hcz33_0
 try clear hcz56_0
 try clear hfz12_0
 try clear hfz14_0
 try clear hfz33_0
 try clear hfz56_0
 try clear hx117_0
 try clear hx118_0
 try clear hx119_0
 try clear hx126_0
 try clear hx127_0
 try clear hx128_0
 try clear hx130_0
 try clear hx27_0
 try clear hx30_0
 try clear hx64_0
 try clear p1
 try clear p11
 try clear p117
 try clear p118
 try clear p119
 try clear p126
 try clear p127
 try clear p128
 try clear p130
 try clear p2
 try clear p27
 try clear p3
 try clear p30
 try clear p6
 try clear p64
 try clear q1
 try clear q11
 try clear q117
 try clear q118
 try clear q119
 try clear q126
 try clear q127
 try clear q128
 try clear q130
 try clear q2
 try clear q27
 try clear q3
 try clear q30
 try clear q64
 obtain ⟨x9_5, x16_5, rfl, HA, HK5, HO_7, HO_8, HO_9, HO_13, HO_15, BK101, HB⟩ := hrel
 have hl8_5 := (Kd.R_reads' HO_8.out).1
 rw [hl8_5] at HO_8
 (try simp only [hl8_5])
 (try simp only [hl8_5] at BK101)
 (try simp only [hl8_5] at HO_7)
 (try simp only [hl8_5] at HO_9)
 (try simp only [hl8_5] at HO_13)
 (try simp only [hl8_5] at HO_15)
 have hl9_5 := (Kd.R_reads' HO_9.out).1
 rw [hl9_5] at HO_9
 (try simp only [hl9_5])
 (try simp only [hl9_5] at BK101)
 (try simp only [hl9_5] at HO_7)
 (try simp only [hl9_5] at HO_8)
 (try simp only [hl9_5] at HO_13)
 (try simp only [hl9_5] at HO_15)
 obtain _ | k5 := gk
 ·exact absurd HA.out (by simp [spec_GreedyCode.l4])
 have H := HA.out
 clear HA
 simp only [spec_GreedyCode.l4] at H
 by_cases c72 : x16_5 < (t131.length : Int)
 rotate_left
 ·rw [if_neg c72] at H
  have c72b0 : decide (x16_5 < (t131.length : Int)) = false := decide_eq_false c72
  clear c72
  have H' := Aside0.mk H
  clear H
  obtain ⟨Ao80, co80, eo80⟩ := Kd.R_slice HO_15.out
  subst eo80
  go_wp2
  (try simp only [← hl9_4, ← hl8_5, ← hl9_5])
  go_roundg k5
  case measure => have := HK1.out; have := HK2.out; have := HK3.out; have := HK4.out; have := HK5.out; omega
  case rel => exact ⟨(y129), (x9_5), (wrap64 (x14_4 + 1)), t2_, H', ⟨by have := HK1.out; have := HK2.out; have := HK3.out; have := HK4.out; have := HK5.out; omega⟩, ⟨by (try simp only [hl9_4]); (try simp only [hl8_5]); (try simp only [hl9_5]); (with_reducible repeat (first | apply Kd.R_alloc | apply Kd.R_drewN | apply Kd.R_drew)); exact Kd.R_mono HO_7.out (fun _ hk => ⟨hk.1, hk.2.1⟩)⟩, ⟨by (try simp only [hl9_4]); (try simp only [hl8_5]); (try simp only [hl9_5]); (with_reducible repeat (first | apply Kd.R_alloc | apply Kd.R_drewN | apply Kd.R_drew)); exact HO_8.out⟩, ⟨by (try simp only [hl9_4]); (try simp only [hl8_5]); (try simp only [hl9_5]); (with_reducible repeat (first | apply Kd.R_alloc | apply Kd.R_drewN | apply Kd.R_drew)); exact Kd.R_mono HO_9.out (fun _ hk => ⟨hk.1, hk.2.1⟩)⟩, ⟨by (try simp only [hl9_4]); (try simp only [hl8_5]); (try simp only [hl9_5]); (with_reducible repeat (first | apply Kd.R_alloc | apply Kd.R_drewN | apply Kd.R_drew)); exact Kd.R_mono HO_13.out (fun _ hk => ⟨hk.1, hk.2.1⟩)⟩, ⟨by (try simp only [hl9_4]); (try simp only [hl8_5]); (try simp only [hl9_5]); (with_reducible repeat (first | refine blk_drewN ?_ _ | refine blk_drew ?_ | refine blk_alloc ?_ _)); exact BK101.out⟩, ⟨gb_ HB.out⟩⟩
 rw [if_pos c72] at H
 have c72b0 : decide (x16_5 < (t131.length : Int)) = true := decide_eq_true c72
 clear c72
 by_cases c73 : 0 ≤ x16_5
 rotate_left
 ·rw [if_neg c73] at H
  exact absurd H (by simp)
 rw [if_pos c73] at H
 have c73b0 : decide (0 ≤ x16_5) = true := decide_eq_true c73
 clear c73
 by_cases c74 : 0 ≤ (rd t131 x16_5)
 rotate_left
 ·rw [if_neg c74] at H
  exact absurd H (by simp)
 rw [if_pos c74] at H
 have c74b0 : decide (0 ≤ (rd t131 x16_5)) = true := decide_eq_true c74
 clear c74
 by_cases c75 : (rd t131 x16_5) < (x9_5.length : Int)
 rotate_left
 ·rw [if_neg c75] at H
  exact absurd H (by simp)
 rw [if_pos c75] at H
 have c75b0 : decide ((rd t131 x16_5) < (x9_5.length : Int)) = true := decide_eq_true c75
 clear c75
 obtain ⟨y136, hy136⟩ : ∃ y_ : List Int, y_ = (x9_5.set ((rd t131 x16_5) : Int).toNat (wrap64 ((rd x9_5 (rd t131 x16_5)) - 1))) := ⟨_, rfl⟩
 replace H : (spec_GreedyCode.l4 k5 a1 t104 t120 y129 y136 t123 x14_4 t131 (wrap64 (x16_5 + 1)) l0_0) = some (r1, r2) := y_ H
 have Ny136 := Aside0.mk hy136
 clear hy136
 have H' := Aside0.mk H
 clear H
 obtain ⟨Ao77, co77, eo77⟩ := Kd.R_slice HO_15.out
 subst eo77
 have p134 : 0 ≤ (x16_5 : Int) := of_decide_eq_true t6_
 have q134 : x16_5 < (t131.length : Int) := of_decide_eq_true t6_
 obtain ⟨ad134, e134, hx134_0⟩ := Kd.at_int (Kd.R_reads' HO_15.out).2.2 x16_5 p134 q134
 cases e134
 replace p134 := eq_true p134
 replace q134 := eq_true q134
 have p135 : 0 ≤ ((rd t131 x16_5) : Int) := of_decide_eq_true t6_
 have q135 : (rd t131 x16_5) < (x9_5.length : Int) := of_decide_eq_true t6_
 obtain ⟨ad135, e135, hx135_0⟩ := Kd.at_int (Kd.R_reads' HO_9.out).2.2 (rd t131 x16_5) p135 q135
 obtain rfl : ad119 = ad135 := (by injection e135)
 replace p135 := eq_true p135
 replace q135 := eq_true q135
 have p76 : 0 ≤ ((rd t131 x16_5) : Int) := of_decide_eq_true t6_
 have q76 : ((rd t131 x16_5) : Int) < ((x9_5.length : Int) : Int) := of_decide_eq_true t6_
 obtain ⟨go76, co76, eo76, gb76, gl76, cl76, HG76⟩ := Kd.R_form HO_9.out (by omega)
 (first | cases eo76 | (injection eo76 with ea_ en_ ec_; (first | subst ea_ | (injection ea_ with ea_; subst ea_)); subst ec_; clear en_))
 have GB76 := Aside0.mk gb76
 have GG76 := Aside0.mk HG76
 clear gb76 gl76 HG76
 (first | simp only [add_plain] at hx119_0 | skip)
 (first | simp only [add_plain] at hx135_0 | skip)
 obtain ⟨hx76_0, hf76_0⟩ := Kd.R_celln 0 HO_9.out ((rd t131 x16_5) : Int) p76 q76
 replace p76 := eq_true p76
 replace q76 := eq_true q76
 have HP78 := Kd.R_putg HO_9.out ((rd t131 x16_5) : Int) (wrap64 ((rd x9_5 (rd t131 x16_5)) - 1))
 go_wp2_with (first | ((with_reducible refine gate_store (t := 2) (p := 115) rfl ?_); refine store_event (t := 2) (p := 115) (v := ?vo_w79) (w1 := (wr.setCell ⟨go76, ((rd t131 x16_5) : Int).toNat, none⟩ (.int .i64 (wrap64 ((rd x9_5 (rd t131 x16_5)) - 1))))) ?hg ?ho ?hn ?hr ?_; (case ho => rfl); (case hg => rfl); (case hn => rfl); (case hr => exact t3_); intro w79 hw; have hg : wr.grownBy w79 (some go76) := (by rw [hw]; exact HP78.2); have hp_ : Kd.R (Kd.int .i64) 2 w79 w.heap.size (fun k_ => OB_ k_ v121 ∧ OB_ k_ (.slice (some ad126) t123.length co66) ∧ OB_ k_ (.slice (some ad134) t131.length co77)) (.slice (some ⟨go76, 0, none⟩) x9_5.length co53) y136 := (by rw [hw, Ny136.out]; exact HP78.1); clear HP78; have n0_ := Aside0.mk (Kd.R_after (v := (.slice (some ⟨go76, 0, none⟩) x9_5.length co53)) (v1 := (.slice (some ⟨go76, 0, none⟩) x9_5.length co53)) (ok := (fun k_ => OB_ k_ (.slice (some ad126) t123.length co66) ∧ OB_ k_ (.slice (some ad134) t131.length co77))) (rb_ (Kd.R_mono HO_7.out (fun _ hk => ⟨⟨hk.2.1, hk.2.2⟩, hk.1⟩))) hg (.inl rfl)); have n1_ := Aside0.mk (Kd.R_over' (v := (.slice (some ⟨go76, 0, none⟩) x9_5.length co53)) (rb_ HO_8.out) (Kd.R_typed HO_9.out) (by decide) hg); have n2_ := Aside0.mk (hp_); have n3_ := Aside0.mk (Kd.R_after (v := (.slice (some ⟨go76, 0, none⟩) x9_5.length co53)) (v1 := (.slice (some ⟨go76, 0, none⟩) x9_5.length co53)) (ok := (fun k_ => OB_ k_ v121 ∧ OB_ k_ (.slice (some ad134) t131.length co77))) (rb_ (Kd.R_mono HO_13.out (fun _ hk => ⟨⟨hk.1, hk.2.2⟩, hk.2.1⟩))) hg (.inl rfl)); have n4_ := Aside0.mk (Kd.R_after (v := (.slice (some ⟨go76, 0, none⟩) x9_5.length co53)) (v1 := (.slice (some ⟨go76, 0, none⟩) x9_5.length co53)) (ok := (fun k_ => OB_ k_ v121 ∧ OB_ k_ (.slice (some ad126) t123.length co66))) (rb_ (Kd.R_mono HO_15.out (fun _ hk => ⟨⟨hk.1, hk.2.2⟩, hk.2.1⟩))) hg (.inl rfl)); have n5_ := Aside0.mk (blk_grown (g := gb101) (o := .cells #[.slice A0_0 l0_0.length c0_0] 26 (0, 0)) (bb_ BK101.out) hg (Kd.R_ne HO_9.out BK101.out (by decide))); have n6_ := Aside0.mk ((by rw [hw]; exact below_set (HB.out) GB76.out : Below w.heap.size w w79)); clear HO_7 HO_8 HO_9 HO_13 HO_15 BK101 HB; have HO_7 := n0_; have HO_8 := n1_; have HO_9 := n2_; have HO_13 := n3_; have HO_15 := n4_; have BK101 := n5_; have HB := n6_; clear n0_ n1_ n2_ n3_ n4_ n5_ n6_ hg hw hp_))
 (try simp only [← hl8_5, ← hl9_5])
 go_roundg k5
 case measure => have := HK1.out; have := HK2.out; have := HK3.out; have := HK4.out; have := HK5.out; omega
 case rel => exact ⟨(y136), (wrap64 (x16_5 + 1)), t2_, H', ⟨by have := HK1.out; have := HK2.out; have := HK3.out; have := HK4.out; have := HK5.out; omega⟩, ⟨by (try simp only [hl9_4]); (try simp only [hl8_5]); (try simp only [hl9_5]); (with_reducible repeat (first | apply Kd.R_alloc | apply Kd.R_drewN | apply Kd.R_drew)); exact Kd.R_mono HO_7.out (fun _ hk => ⟨hk.2, ⟨hk.1.1, hk.1.2⟩⟩)⟩, ⟨by (try simp only [hl9_4]); (try simp only [hl8_5]); (try simp only [hl9_5]); (with_reducible repeat (first | apply Kd.R_alloc | apply Kd.R_drewN | apply Kd.R_drew)); exact HO_8.out⟩, ⟨by (try simp only [hl9_4]); (try simp only [hl8_5]); (try simp only [hl9_5]); (with_reducible repeat (first | apply Kd.R_alloc | apply Kd.R_drewN | apply Kd.R_drew)); exact HO_9.out⟩, ⟨by (try simp only [hl9_4]); (try simp only [hl8_5]); (try simp only [hl9_5]); (with_reducible repeat (first | apply Kd.R_alloc | apply Kd.R_drewN | apply Kd.R_drew)); exact Kd.R_mono HO_13.out (fun _ hk => ⟨hk.1.1, ⟨hk.2, hk.1.2⟩⟩)⟩, ⟨by (try simp only [hl9_4]); (try simp only [hl8_5]); (try simp only [hl9_5]); (with_reducible repeat (first | apply Kd.R_alloc | apply Kd.R_drewN | apply Kd.R_drew)); exact Kd.R_mono HO_15.out (fun _ hk => ⟨hk.1.1, ⟨hk.2, hk.1.2⟩⟩)⟩, ⟨by (try simp only [hl9_4]); (try simp only [hl8_5]); (try simp only [hl9_5]); (with_reducible repeat (first | refine blk_drewN ?_ _ | refine blk_drew ?_ | refine blk_alloc ?_ _)); exact BK101.out⟩, ⟨gb_ HB.out⟩⟩


def spec_RadiusOf.f (k : Nat) (l0_0 : List Int) (l1 : List Int) : Option (Int × Int) := (spec_l02Full.f k l0_0 l1).bind fun t102 => (if t102 = 0 then ((spec_l02Farthest.f k l0_0 l1).bind fun bt103 => (some (bt103.2, 0))) else (some (0, t102)))
set_option maxHeartbeats 8000000 in
set_option maxRecDepth 100000 in
theorem spec_RadiusOf.calls (k : Nat) (A0_0 : Option Addr) (c0_0 : Nat) (l0_0 : List Int) (A1 : Option Addr) (c1 : Nat) (l1 : List Int) (r1 : Int) (r2 : Int) (w : World) (hr0_0 : Kd.C (Kd.int .i64) w A0_0 l0_0.length l0_0) (hc0_0 : l0_0.length ≤ c0_0) (hr1 : Kd.C (Kd.int .i64) w A1 l1.length l1) (hc1 : l1.length ≤ c1) (h : spec_RadiusOf.f k l0_0 l1 = some (r1, r2)) :
  Calls Try.prog 54 #[.agg #[.slice A0_0 l0_0.length c0_0], .slice A1 l1.length c1] w fun e w' => e = .returned (.tuple #[.int .i64 r1, .int .i64 r2]) ∧ Below w.heap.size w w' := by
 have hu26 := Try.underlying26
 have HR0_0 := Aside0.mk hr0_0
 have HC0_0 := Aside0.mk hc0_0
 clear hr0_0 hc0_0
 have HR1 := Aside0.mk hr1
 have HC1 := Aside0.mk hc1
 clear hr1 hc1
 have HB := Aside0.mk (Below.refl w.heap.size w)
 have H : ((spec_l02Full.f k l0_0 l1).bind fun t102 => (if t102 = 0 then ((spec_l02Farthest.f k l0_0 l1).bind fun bt103 => (some (bt103.2, 0))) else (some (0, t102)))) = some (r1, r2) := h
 clear h
 replace H := Option.bind_eq_some_iff.mp H
 obtain ⟨t102, A30, H⟩ := H
 replace H : (if t102 = 0 then ((spec_l02Farthest.f k l0_0 l1).bind fun bt103 => (some (bt103.2, 0))) else (some (0, t102))) = some (r1, r2) := H
 have A3 := Aside0.mk A30
 clear A30
 by_cases c4 : t102 = 0
 rotate_left
 ·rw [if_neg c4] at H
  have c4b0 : (t102 == 0) = false := beq_eq_false_iff_ne.mpr c4
  have c4b1 : (t102 != 0) = true := bne_iff_ne.mpr c4
  simp only [Option.some.injEq, Prod.mk.injEq] at H
  obtain ⟨rfl, rfl⟩ := H
  go_enter Try.func54, Try.ntmps54
  go_wp2_with (first | ((with_reducible refine gate_dst (N := 2) rfl ?_); refine bx_ (N := 2) (cs := #[.slice A0_0 l0_0.length c0_0]) (t := 26) rfl rfl ?_; intro gb101 hg w11 hbox hb; have n0_ := b1_ HB hb; have n1_ := Aside0.mk (hbox); have n2_ := ge_ hg HB; have n3_ := ge_ hg HB; clear HB; have HB := n0_; have BK101 := n1_; have GW101 := n2_; have GE101 := n3_; clear n0_ n1_ n2_ n3_ hb hbox hg; have hcz12_0 := hz_ BK101; have hfz12_0 := blk_frozen BK101.out 0) | ((with_reducible refine gate_callee (f := 92) rfl ?_); refine gl_ (some 11) rfl rfl Try.func92 #[.agg #[.slice A0_0 l0_0.length c0_0], .slice A1 l1.length c1] rfl ?_; (with_reducible refine (spec_l02Full.calls k _ _ l0_0 _ _ l1 t102 _ ?side1 ?side2 ?side3 ?side4 A3.out).mono ?_); (case side1 => exact c2_ HR0_0 HB); (case side2 => exact HC0_0.out); (case side3 => exact c2_ HR1 HB); (case side4 => exact HC1.out); rintro e w13 ⟨rfl, hb⟩; refine ⟨_, rfl, ?_⟩; replace BK101 := a2_ BK101 hb; replace HB := b1_ HB hb; (try clear hb); (try clear hb2); (try clear hk); (try clear hi)))
  go_ret2
  exact ⟨t5_, gb_ HB.out⟩

 rw [if_pos c4] at H
 have c4b0 : (t102 == 0) = true := beq_iff_eq.mpr c4
 have c4b1 : (t102 != 0) = false := bne_eq_false_iff_eq.mpr c4
 clear c4
 replace H := Option.bind_eq_some_iff.mp H
 obtain ⟨⟨t103, t104⟩, A50, H⟩ := H
 replace H : (some (t104, 0)) = some (r1, r2) := H
 have A5 := Aside0.mk A50
 clear A50
 simp only [Option.some.injEq, Prod.mk.injEq] at H
 obtain ⟨rfl, rfl⟩ := H
 go_enter Try.func54, Try.ntmps54
 go_wp2_with (first | ((with_reducible refine gate_dst (N := 2) rfl ?_); refine bx_ (N := 2) (cs := #[.slice A0_0 l0_0.length c0_0]) (t := 26) rfl rfl ?_; intro gb101 hg w6 hbox hb; have n0_ := b1_ HB hb; have n1_ := Aside0.mk (hbox); have n2_ := ge_ hg HB; have n3_ := ge_ hg HB; clear HB; have HB := n0_; have BK101 := n1_; have GW101 := n2_; have GE101 := n3_; clear n0_ n1_ n2_ n3_ hb hbox hg; have hcz7_0 := hz_ BK101; have hfz7_0 := blk_frozen BK101.out 0) | ((with_reducible refine gate_callee (f := 92) rfl ?_); refine gl_ (some 11) rfl rfl Try.func92 #[.agg #[.slice A0_0 l0_0.length c0_0], .slice A1 l1.length c1] rfl ?_; (with_reducible refine (spec_l02Full.calls k _ _ l0_0 _ _ l1 t102 _ ?side1 ?side2 ?side3 ?side4 A3.out).mono ?_); (case side1 => exact c2_ HR0_0 HB); (case side2 => exact HC0_0.out); (case side3 => exact c2_ HR1 HB); (case side4 => exact HC1.out); rintro e w8 ⟨rfl, hb⟩; refine ⟨_, rfl, ?_⟩; replace BK101 := a2_ BK101 hb; replace HB := b1_ HB hb; (try clear hb); (try clear hb2); (try clear hk); (try clear hi); have hcz9_0 := hz_ BK101; have hfz9_0 := blk_frozen BK101.out 0) | ((with_reducible refine gate_callee (f := 95) rfl ?_); refine gl_ (some 18) rfl rfl Try.func95 #[.agg #[.slice A0_0 l0_0.length c0_0], .slice A1 l1.length c1] rfl ?_; (with_reducible refine (spec_l02Farthest.calls k _ _ l0_0 _ _ l1 t103 t104 _ ?side1 ?side2 ?side3 ?side4 A5.out).mono ?_); (case side1 => exact c2_ HR0_0 HB); (case side2 => exact HC0_0.out); (case side3 => exact c2_ HR1 HB); (case side4 => exact HC1.out); rintro e w10 ⟨rfl, hb⟩; refine ⟨_, rfl, ?_⟩; replace BK101 := a2_ BK101 hb; replace HB := b1_ HB hb; (try clear hb); (try clear hb2); (try clear hk); (try clear hi)))
 go_ret2
 exact ⟨t5_, gb_ HB.out⟩
mutual
def spec_LeanCode.l0 : Nat → List Int → Int → List Int → List Int → Int → List Int → Option (List Int × Int)
  | 0, _, _, _, _, _, _ => none
  | k + 1, x1, x2, x9, x10, x11, x102000 => if x11 < (x1.length : Int) then (if 0 ≤ x11 then ((spec_l02Needed.f k x102000 x9 (rd x1 x11) x2).bind fun t110 => (if t110 = true then (if x10.length < 17592186044416 then (spec_LeanCode.l0 k x1 x2 x9 (x10 ++ [rd x1 x11]) (wrap64 (x11 + 1)) x102000) else (none)) else ((spec_l01Ball.f k x102000 (rd x1 x11) x2).bind fun t116 => (spec_LeanCode.l1 k x1 x2 x9 x10 x11 t116 0 x102000)))) else (none)) else (some (x10, 0))
def spec_LeanCode.l1 : Nat → List Int → Int → List Int → List Int → Int → List Int → Int → List Int → Option (List Int × Int)
  | 0, _, _, _, _, _, _, _, _ => none
  | k + 1, x1, x2, x9, x10, x11, x12, x13, x102000 => if x13 < (x12.length : Int) then (if 0 ≤ x13 then (if 0 ≤ (rd x12 x13) then (if (rd x12 x13) < (x9.length : Int) then (spec_LeanCode.l1 k x1 x2 (x9.set ((rd x12 x13) : Int).toNat (wrap64 ((rd x9 (rd x12 x13)) - 1))) x10 x11 x12 (wrap64 (x13 + 1)) x102000) else (none)) else (none)) else (none)) else (spec_LeanCode.l0 k x1 x2 x9 x10 (wrap64 (x11 + 1)) x102000)
end
def spec_LeanCode.f (k : Nat) (l0_0 : List Int) (l1 : List Int) (a2 : Int) : Option (List Int × Int) := (spec_l02Code.f k l0_0 l1 a2).bind fun t102 => (if t102 = 0 then ((spec_l02Times.f k l0_0 l1 a2).bind fun t103 => (spec_LeanCode.l0 k l1 a2 t103 (([] : List Int)) 0 l0_0)) else (some (([] : List Int), t102)))
def spec_LeanCode.T8 : Bool × List (List Nat × List Nat) := (true, [([], []), ([], []), ([], []), ([], []), ([2, 3], [2, 3]), ([4], [4]), ([], []), ([0, 1, 5, 6], [0, 1, 5, 6])])
def spec_LeanCode.B8 : List Nat := [0, 0, 0, 0, 12, 28, 0, 127]
theorem spec_LeanCode.tab8 : rtab .any (opsOf Try.f46 8) = spec_LeanCode.T8 := by kernel_rfl
theorem spec_LeanCode.bits8 : waitsOk spec_LeanCode.T8.2 spec_LeanCode.B8 = true := by kernel_rfl
def spec_LeanCode.T10 : Bool × List (List Nat × List Nat) := (true, [([], []), ([], []), ([], []), ([1, 2], [1, 2]), ([3], [3]), ([], []), ([0, 4, 5], [0, 4, 5]), ([6, 6, 0, 1, 2, 3, 4, 5, 6], [6])])
def spec_LeanCode.B10 : List Nat := [0, 0, 0, 6, 14, 0, 63, 127]
theorem spec_LeanCode.tab10 : rtab .any (opsOf Try.f46 10) = spec_LeanCode.T10 := by kernel_rfl
theorem spec_LeanCode.bits10 : waitsOk spec_LeanCode.T10.2 spec_LeanCode.B10 = true := by kernel_rfl
set_option maxHeartbeats 8000000 in
set_option maxRecDepth 100000 in
theorem spec_LeanCode.calls (k : Nat) (A0_0 : Option Addr) (c0_0 : Nat) (l0_0 : List Int) (A1 : Option Addr) (c1 : Nat) (l1 : List Int) (a2 : Int) (r1 : List Int) (r2 : Int) (w : World) (hr0_0 : Kd.C (Kd.int .i64) w A0_0 l0_0.length l0_0) (hc0_0 : l0_0.length ≤ c0_0) (hr1 : Kd.C (Kd.int .i64) w A1 l1.length l1) (hc1 : l1.length ≤ c1) (h : spec_LeanCode.f k l0_0 l1 a2 = some (r1, r2)) :
  Calls Try.prog 46 #[.agg #[.slice A0_0 l0_0.length c0_0], .slice A1 l1.length c1, .int .i64 a2] w fun e w' => ∃ v0_ : Value, e = .returned (.tuple #[v0_, .int .i64 r2]) ∧ Kd.R (Kd.int .i64) 2 w' w.heap.size (fun _ => True) v0_ r1 ∧ Below w.heap.size w w' := by
 have hu26 := Try.underlying26
 have HR0_0 := Aside0.mk hr0_0
 have HC0_0 := Aside0.mk hc0_0
 clear hr0_0 hc0_0
 have HR1 := Aside0.mk hr1
 have HC1 := Aside0.mk hc1
 clear hr1 hc1
 have HB := Aside0.mk (Below.refl w.heap.size w)
 have H : ((spec_l02Code.f k l0_0 l1 a2).bind fun t102 => (if t102 = 0 then ((spec_l02Times.f k l0_0 l1 a2).bind fun t103 => (spec_LeanCode.l0 k l1 a2 t103 (([] : List Int)) 0 l0_0)) else (some (([] : List Int), t102)))) = some (r1, r2) := h
 clear h
 replace H := Option.bind_eq_some_iff.mp H
 obtain ⟨t102, A40, H⟩ := H
 replace H : (if t102 = 0 then ((spec_l02Times.f k l0_0 l1 a2).bind fun t103 => (spec_LeanCode.l0 k l1 a2 t103 (([] : List Int)) 0 l0_0)) else (some (([] : List Int), t102))) = some (r1, r2) := H
 have A4 := Aside0.mk A40
 clear A40
 by_cases c5 : t102 = 0
 rotate_left
 ·rw [if_neg c5] at H
  have c5b0 : (t102 == 0) = false := beq_eq_false_iff_ne.mpr c5
  have c5b1 : (t102 != 0) = true := bne_iff_ne.mpr c5
  simp only [Option.some.injEq, Prod.mk.injEq] at H
  obtain ⟨rfl, rfl⟩ := H
  go_enter Try.func46, Try.ntmps46
  go_wp2_with (first | ((with_reducible refine gate_dst (N := 3) rfl ?_); refine bx_ (N := 3) (cs := #[.slice A0_0 l0_0.length c0_0]) (t := 26) rfl rfl ?_; intro gb101 hg w38 hbox hb; have n0_ := b1_ HB hb; have n1_ := Aside0.mk (hbox); have n2_ := ge_ hg HB; have n3_ := ge_ hg HB; clear HB; have HB := n0_; have BK101 := n1_; have GW101 := n2_; have GE101 := n3_; clear n0_ n1_ n2_ n3_ hb hbox hg; have hcz39_0 := hz_ BK101; have hfz39_0 := blk_frozen BK101.out 0) | ((with_reducible refine gate_callee (f := 102) rfl ?_); refine gl_ (some 17) rfl rfl Try.func102 #[.agg #[.slice A0_0 l0_0.length c0_0], .slice A1 l1.length c1, .int .i64 a2] rfl ?_; (with_reducible refine (spec_l02Code.calls k _ _ l0_0 _ _ l1 a2 t102 _ ?side1 ?side2 ?side3 ?side4 A4.out).mono ?_); (case side1 => exact c2_ HR0_0 HB); (case side2 => exact HC0_0.out); (case side3 => exact c2_ HR1 HB); (case side4 => exact HC1.out); rintro e w40 ⟨rfl, hb⟩; refine ⟨_, rfl, ?_⟩; replace BK101 := a2_ BK101 hb; replace HB := b1_ HB hb; (try clear hb); (try clear hb2); (try clear hk); (try clear hi)))
  go_ret2
  exact ⟨_, t5_, by first | exact Kd.R_nil _ _ _ _ _ | exact Kd.N_nil _ _ _ _ _ | exact Kd.V_nil _ _ _ _ _ | exact Kd.Q_nil _ _ _ _ _ | exact Kd.S_nil _ _ _ _ _, gb_ HB.out⟩

 rw [if_pos c5] at H
 have c5b0 : (t102 == 0) = true := beq_iff_eq.mpr c5
 have c5b1 : (t102 != 0) = false := bne_eq_false_iff_eq.mpr c5
 clear c5
 replace H := Option.bind_eq_some_iff.mp H
 obtain ⟨t103, A60, H⟩ := H
 replace H : (spec_LeanCode.l0 k l1 a2 t103 (([] : List Int)) 0 l0_0) = some (r1, r2) := H
 have A6 := Aside0.mk A60
 clear A60
 obtain ⟨y106, hy106⟩ : ∃ y_ : List Int, y_ = (([] : List Int)) := ⟨_, rfl⟩
 replace H : (spec_LeanCode.l0 k l1 a2 t103 y106 0 l0_0) = some (r1, r2) := y_ H
 have Ny106 := Aside0.mk hy106
 clear hy106
 have H' := Aside0.mk H
 clear H
 go_enter Try.func46, Try.ntmps46
 go_wp2_with (first | ((with_reducible refine gate_dst (N := 3) rfl ?_); refine bx_ (N := 3) (cs := #[.slice A0_0 l0_0.length c0_0]) (t := 26) rfl rfl ?_; intro gb101 hg w7 hbox hb; have n0_ := b1_ HB hb; have n1_ := Aside0.mk (hbox); have n2_ := ge_ hg HB; have n3_ := ge_ hg HB; clear HB; have HB := n0_; have BK101 := n1_; have GW101 := n2_; have GE101 := n3_; clear n0_ n1_ n2_ n3_ hb hbox hg; have hcz8_0 := hz_ BK101; have hfz8_0 := blk_frozen BK101.out 0) | ((with_reducible refine gate_callee (f := 102) rfl ?_); refine gl_ (some 17) rfl rfl Try.func102 #[.agg #[.slice A0_0 l0_0.length c0_0], .slice A1 l1.length c1, .int .i64 a2] rfl ?_; (with_reducible refine (spec_l02Code.calls k _ _ l0_0 _ _ l1 a2 t102 _ ?side1 ?side2 ?side3 ?side4 A4.out).mono ?_); (case side1 => exact c2_ HR0_0 HB); (case side2 => exact HC0_0.out); (case side3 => exact c2_ HR1 HB); (case side4 => exact HC1.out); rintro e w9 ⟨rfl, hb⟩; refine ⟨_, rfl, ?_⟩; replace BK101 := a2_ BK101 hb; replace HB := b1_ HB hb; (try clear hb); (try clear hb2); (try clear hk); (try clear hi); have hcz10_0 := hz_ BK101; have hfz10_0 := blk_frozen BK101.out 0) | ((with_reducible refine gate_callee (f := 103) rfl ?_); refine gl_ (some 24) rfl rfl Try.func103 #[.agg #[.slice A0_0 l0_0.length c0_0], .slice A1 l1.length c1, .int .i64 a2] rfl ?_; (with_reducible refine (spec_l02Times.calls k _ _ l0_0 _ _ l1 a2 t103 _ ?side1 ?side2 ?side3 ?side4 A6.out).mono ?_); (case side1 => exact c2_ HR0_0 HB); (case side2 => exact HC0_0.out); (case side3 => exact c2_ HR1 HB); (case side4 => exact HC1.out); rintro e w11 ⟨v104, rfl, ho0, hb⟩; refine ⟨_, rfl, ?_⟩; have HO105 := Aside0.mk (Kd.R_lower ho0 (below_size (gb_ HB.out))); replace BK101 := a2_ BK101 hb; replace HB := b1_ HB hb; (try clear hb); (try clear hb2); (try clear hk); (try clear hi); (try clear ho0)) | ((with_reducible refine gate_dst (N := 25) rfl ?_); refine Kd.R_lit (Kd.int .i64) _ 2 ?hg (N := 25) ?hd (xs := ([] : List Int)) (inner := []) (ok := fun _ => True) (okp := fun _ => True) ?hr ?hp (fun _ hk => hk) trivial (Below.refl _ _) (Nat.le_refl _) (by simp) ?_; (case hd => rfl); (case hg => rfl); (case hr => exact t3_); (case hp => exact (Reps.none _ _)); intro v107 w12 ho13 hb hg_ hnew_; clear hg_ hnew_; (first | rw [← Ny106.out] at ho13 | (simp only [Int.reduceToNat] at ho13; rw [← Ny106.out] at ho13)); have n0_ := a5_ HO105 ho13 hb; have n1_ := Aside0.mk (Kd.R_lower (Kd.R_new' ho13 (Kd.R_lt (rb_ HO105.out))) (below_size (gb_ HB.out))); have n2_ := a2_ BK101 hb; have n3_ := b1_ HB hb; clear HO105 BK101 HB; have HO105 := n0_; have HO108 := n1_; have BK101 := n2_; have HB := n3_; clear n0_ n1_ n2_ n3_ hb ho13))
 go_loopg [10, 11] k (fun kq v10 v11 w' => ∃ (x9_1 : List Int) (x10_1 : List Int) (x11_1 : Int), v11 = .int .i64 x11_1 ∧ Aside0 (spec_LeanCode.l0 kq l1 a2 x9_1 x10_1 x11_1 l0_0 = some (r1, r2)) ∧ Aside0 (kq ≤ k) ∧ Aside0 (Kd.R (Kd.int .i64) 2 w' w.heap.size (fun k_ => OB_ k_ v10) v104 x9_1) ∧ Aside0 (Kd.R (Kd.int .i64) 2 w' w.heap.size (fun k_ => OB_ k_ v104) v10 x10_1) ∧ Aside0 (w'.heap[gb101]? = some (.cells #[(.slice A0_0 l0_0.length c0_0)] 26 (0, 0))) ∧ Aside0 (Below w.heap.size w w'))
 case atStart => exact ⟨(t103), (y106), (0), t2_, H', ⟨Nat.le_refl _⟩, ⟨by (with_reducible repeat (first | apply Kd.R_alloc | apply Kd.R_drewN | apply Kd.R_drew)); exact Kd.R_mono HO105.out (fun _ hk => hk.2)⟩, ⟨by (with_reducible repeat (first | apply Kd.R_alloc | apply Kd.R_drewN | apply Kd.R_drew)); exact Kd.R_mono HO108.out (fun _ hk => hk.2)⟩, ⟨bb_ BK101.out⟩, ⟨gb_ HB.out⟩⟩
 clear H'
 try clear c1
 try clear p2
 try clear c4
 try clear c5
 try clear c5b0
 try clear c5b1
 try clear c10
 try clear hcz10_0
 try clear hcz8_0
 try clear hfz10_0
 try clear hfz8_0
 obtain ⟨x9_1, x10_1, x11_1, rfl, HA, HK1, HO_9, HO_10, BK101, HB⟩ := hrel
 obtain _ | k1 := gk
 ·exact absurd HA.out (by simp [spec_LeanCode.l0])
 have H := HA.out
 clear HA
 simp only [spec_LeanCode.l0] at H
 by_cases c14 : x11_1 < (l1.length : Int)
 rotate_left
 ·rw [if_neg c14] at H
  have c14b0 : decide (x11_1 < (l1.length : Int)) = false := decide_eq_false c14
  clear c14
  simp only [Option.some.injEq, Prod.mk.injEq] at H
  obtain ⟨rfl, rfl⟩ := H
  go_wp2
  go_ret2
  exact ⟨_, t5_, by (with_reducible repeat (first | apply Kd.R_alloc | apply Kd.R_drewN | apply Kd.R_drew)); exact Kd.R_mono HO_10.out (fun _ hk => trivial), gb_ HB.out⟩
 rw [if_pos c14] at H
 have c14b0 : decide (x11_1 < (l1.length : Int)) = true := decide_eq_true c14
 clear c14
 by_cases c15 : 0 ≤ x11_1
 rotate_left
 ·rw [if_neg c15] at H
  exact absurd H (by simp)
 rw [if_pos c15] at H
 have c15b0 : decide (0 ≤ x11_1) = true := decide_eq_true c15
 clear c15
 replace H := Option.bind_eq_some_iff.mp H
 obtain ⟨t110, A160, H⟩ := H
 replace H : (if t110 = true then (if x10_1.length < 17592186044416 then (spec_LeanCode.l0 k1 l1 a2 x9_1 (x10_1 ++ [rd l1 x11_1]) (wrap64 (x11_1 + 1)) l0_0) else (none)) else ((spec_l01Ball.f k1 l0_0 (rd l1 x11_1) a2).bind fun t116 => (spec_LeanCode.l1 k1 l1 a2 x9_1 x10_1 x11_1 t116 0 l0_0))) = some (r1, r2) := H
 have A16 := Aside0.mk A160
 clear A160
 by_cases c17 : t110 = true
 ·subst c17
  have H1 : (if x10_1.length < 17592186044416 then (spec_LeanCode.l0 k1 l1 a2 x9_1 (x10_1 ++ [rd l1 x11_1]) (wrap64 (x11_1 + 1)) l0_0) else (none)) = some (r1, r2) := by rw [if_pos rfl] at H; exact H
  clear H
  have H := H1
  clear H1
  by_cases c18 : x10_1.length < 17592186044416
  rotate_left
  ·rw [if_neg c18] at H
   exact absurd H (by simp)
  rw [if_pos c18] at H
  have LMc18 := Aside0.mk c18
  clear c18
  obtain ⟨y112, hy112⟩ : ∃ y_ : List Int, y_ = (x10_1 ++ [rd l1 x11_1]) := ⟨_, rfl⟩
  replace H : (spec_LeanCode.l0 k1 l1 a2 x9_1 y112 (wrap64 (x11_1 + 1)) l0_0) = some (r1, r2) := y_ H
  have Ny112 := Aside0.mk hy112
  clear hy112
  have H' := Aside0.mk H
  clear H
  try go_wp2
  replace HO_9 := Aside0.mk (Kd.R_drew HO_9.out)
  replace HO_10 := Aside0.mk (Kd.R_drew HO_10.out)
  replace BK101 := Aside0.mk (blk_drew BK101.out)
  replace HB := Aside0.mk (below_drew1 HB.out)
  have p109 : 0 ≤ (x11_1 : Int) := of_decide_eq_true t6_
  have q109 : x11_1 < (l1.length : Int) := of_decide_eq_true t6_
  obtain ⟨ad109, e109, hx109_0⟩ := Kd.at_int HR1.out x11_1 p109 q109
  have hw109_0 := hx109_0
  cases e109
  replace hx109_0 := (HB.out.cell (World.block_lt_of_cell? _ _ hx109_0)).trans hx109_0
  replace p109 := eq_true p109
  replace q109 := eq_true q109
  obtain ⟨Ao20, co20, eo20⟩ := Kd.R_slice HO_9.out
  (first | subst eo20 | (injection eo20 with f1_ f2_ f3_; have f4_ := f1_.symm; have f5_ := f3_.symm; clear f1_ f2_ f3_; subst f4_; subst f5_))
  refine start_ (n := 8) (S := fun w' => w'.cell? ⟨gb101, 0, none⟩ = some (.slice A0_0 l0_0.length c0_0) ∧ w'.cell? (ad109.add (x11_1).toNat) = some (.int .i64 (rd l1 x11_1))) (ds := []) #[false, false, false, false, false, false, false, false] (by kernel_rfl) rfl rfl ⟨(blk_cell BK101.out 0).trans rfl, ((HB.out.cell (World.block_lt_of_cell? _ _ hw109_0)).trans hw109_0)⟩ (fun hHeld => ?_); refine with_tabW spec_LeanCode.tab8 spec_LeanCode.bits8 (fun HT_ HW_ => ?_)
  generalize wr.drew = w19 at HO_9 HO_10 BK101 HB hx109_0 hHeld ⊢
  refine pu_ (i := 1) (N := some 33) (v := ?_) (a' := ?_) #[false, true, false, false, false, false, false, false] rfl rfl HT_ (Or.inl ⟨by rfl, ?_⟩) ?_ ?_
  rotate_left
  ·exact t7_
  rotate_left
  ·exact t4_
  refine pu_ (i := 2) (N := some 34) (v := ?_) (a' := ?_) #[false, true, true, false, false, false, false, false] rfl rfl HT_ (Or.inl ⟨by rfl, ?_⟩) ?_ ?_
  rotate_left
  ·exact t7_
  rotate_left
  ·exact t4_
  refine pu_ (i := 3) (N := some 35) (v := ?_) (a' := ?_) #[false, true, true, true, false, false, false, false] rfl rfl HT_ (Or.inl ⟨by rfl, ?_⟩) ?_ ?_
  rotate_left
  ·exact t7_
  rotate_left
  ·exact t4_
  refine pu_ (i := 4) (N := some 36) (v := ?_) (a' := ?_) #[false, true, true, true, true, false, false, false] rfl rfl HT_ (Or.inl ⟨by rfl, ?_⟩) ?_ ?_
  rotate_left
  ·exact t7_
  rotate_left
  ·exact t4_
  refine pu_ (i := 6) (N := some 38) (v := ?_) (a' := ?_) #[false, true, true, true, true, false, true, false] rfl rfl HT_ (Or.inl ⟨by rfl, ?_⟩) ?_ ?_
  rotate_left
  ·exact t7_
  rotate_left
  ·exact t4_
  refine tk_ (i := 0) (N := some 32) (v := ?_) (a' := ?_) #[true, true, true, true, true, false, true, false] rfl rfl HT_ HW_ (Or.inl ⟨by rfl, ?_⟩) hHeld ?_ ?_
  rotate_left
  ·rintro w' ⟨s0, s1⟩
   go_simp
   with_reducible rfl
  rotate_left
  ·exact t4_
  refine tk_ (i := 5) (N := some 37) (v := ?_) (a' := ?_) #[true, true, true, true, true, true, true, false] rfl rfl HT_ HW_ (Or.inl ⟨by rfl, ?_⟩) hHeld ?_ ?_
  rotate_left
  ·rintro w' ⟨s0, s1⟩
   go_simp
   with_reducible rfl
  rotate_left
  ·exact t4_
  refine on_ (i := 7) (N := some 39) #[true, true, true, true, true, true, true, true] rfl rfl HT_ (fun K hK => ?_)
  refine goes_ Try.func104 (by kernel_rfl) rfl #[.agg #[.slice A0_0 l0_0.length c0_0], .slice Ao20 x9_1.length co20, .int .i64 (rd l1 x11_1), .int .i64 a2] (by rfl) rfl rfl t1_ ?_
  with_reducible refine (spec_l02Needed.calls k1 _ _ l0_0 _ _ x9_1 (rd l1 x11_1) a2 true _ ?side1 ?side2 ?side3 ?side4 A16.out).mono ?_
  (case side1 => exact c2_ HR0_0 HB)
  (case side2 => exact HC0_0.out)
  (case side3 => exact c1_ HO_9)
  (case side4 => exact (Kd.R_reads' HO_9.out).2.1)
  rintro e w21 ⟨rfl, hb⟩
  refine ⟨_, rfl, ?_⟩
  replace HO_9 := a1_ HO_9 hb
  replace HO_10 := a1_ HO_10 hb
  replace BK101 := a2_ BK101 hb
  replace HB := b1_ HB hb
  (try clear hb)
  (try clear hb2)
  (try clear hk)
  (try clear hi)
  refine hK.out _ _ ⟨(blk_cell BK101.out 0).trans rfl, ((HB.out.cell (World.block_lt_of_cell? _ _ hw109_0)).trans hw109_0)⟩ (fun hHeld => ?_)
  clear hK K
  refine norm_ (a' := ?_) ?_ ?_
  rotate_left
  ·show Act.put _ (some 39) _ = _
   simp only [Act.put, List.setIfInBounds_toArray, List.set_cons_zero, List.set_cons_succ, i64_w, i32_w]
   rfl
  refine done_ (done_of HT_.out (by kernel_rfl)) ?_
  have p111 : 0 ≤ (x11_1 : Int) := of_decide_eq_true t6_
  have q111 : x11_1 < (l1.length : Int) := of_decide_eq_true t6_
  obtain ⟨ad111, e111, hx111_0⟩ := Kd.at_int HR1.out x11_1 p111 q111
  obtain rfl : ad109 = ad111 := (by injection e111)
  replace hx111_0 := (HB.out.cell (World.block_lt_of_cell? _ _ hx111_0)).trans hx111_0
  replace p111 := eq_true p111
  replace q111 := eq_true q111
  try go_wp2_with (first | ((with_reducible refine gate_builtin (b := .append) (xs := #[.tmp 40, .tmp 45]) rfl ?_); at_builtin; refine Kd.R_append (Kd.int .i64) (w0 := w) w.heap.size rfl (.tmp 40) (.tmp 45) 24 2 (.int .i64 0) 8 rfl Try.underlying24 info2 rfl (by decide) (by omega) u10 x10_1 (rd l1 x11_1) [.int .i64 (rd l1 x11_1)] (fun k_ => OB_ k_ (.slice Ao20 x9_1.length co20)) (fun _ => False) rfl rfl ?aP (fun _ hk => hk.elim) ?aF ?aO ?aB ?aS ?aL ?_; (case aP => exact rfl); (case aB => exact (gb_ HB.out)); (case aF => exact (fun k_ hk => Kd.fresh' (Kd.R_lt (rb_ HO_9.out)) k_ hk)); (case aO => exact (rb_ HO_10.out)); (case aS => exact (below_size (gb_ HB.out))); (case aL => have := LMc18.out; omega); intro v113 w22 ho hb hg hat; rw [← Ny112.out] at ho; have n0_ := Aside0.mk (Kd.R_after (ok := (fun _ => True)) (rb_ (Kd.R_mono HO_9.out (fun _ hk => ⟨trivial, hk⟩))) hg hat); have n1_ := Aside0.mk (blk_grown (g := gb101) (o := .cells #[.slice A0_0 l0_0.length c0_0] 26 (0, 0)) (bb_ BK101.out) hg (Kd.R_ne HO_10.out BK101.out (by decide))); have n2_ := Aside0.mk (hb); have n3_ := Aside0.mk (ho); clear HO_9 BK101 HB HO_10; have HO_9 := n0_; have BK101 := n1_; have HB := n2_; have HO114 := n3_; clear n0_ n1_ n2_ n3_ ho hb hg hat))
  go_roundg k1
  case measure => have := HK1.out; omega
  case rel => exact ⟨(x9_1), (y112), (wrap64 (x11_1 + 1)), t2_, H', ⟨by have := HK1.out; omega⟩, ⟨by (with_reducible repeat (first | apply Kd.R_alloc | apply Kd.R_drewN | apply Kd.R_drew)); exact Kd.R_mono HO_9.out (fun _ hk => hk.2)⟩, ⟨rb_ HO114.out⟩, ⟨bb_ BK101.out⟩, ⟨gb_ HB.out⟩⟩
 replace c17 := Bool.eq_false_iff.mpr c17
 subst c17
 have H1 : ((spec_l01Ball.f k1 l0_0 (rd l1 x11_1) a2).bind fun t116 => (spec_LeanCode.l1 k1 l1 a2 x9_1 x10_1 x11_1 t116 0 l0_0)) = some (r1, r2) := by rw [if_neg (show ¬ (false = true) by decide)] at H; exact H
 clear H
 have H := H1
 clear H1
 replace H := Option.bind_eq_some_iff.mp H
 obtain ⟨t116, A230, H⟩ := H
 replace H : (spec_LeanCode.l1 k1 l1 a2 x9_1 x10_1 x11_1 t116 0 l0_0) = some (r1, r2) := H
 have A23 := Aside0.mk A230
 clear A230
 have H' := Aside0.mk H
 clear H
 try go_wp2
 replace HO_9 := Aside0.mk (Kd.R_drew HO_9.out)
 replace HO_10 := Aside0.mk (Kd.R_drew HO_10.out)
 replace BK101 := Aside0.mk (blk_drew BK101.out)
 replace HB := Aside0.mk (below_drew1 HB.out)
 have p109 : 0 ≤ (x11_1 : Int) := of_decide_eq_true t6_
 have q109 : x11_1 < (l1.length : Int) := of_decide_eq_true t6_
 obtain ⟨ad109, e109, hx109_0⟩ := Kd.at_int HR1.out x11_1 p109 q109
 have hw109_0 := hx109_0
 cases e109
 replace hx109_0 := (HB.out.cell (World.block_lt_of_cell? _ _ hx109_0)).trans hx109_0
 replace p109 := eq_true p109
 replace q109 := eq_true q109
 obtain ⟨Ao25, co25, eo25⟩ := Kd.R_slice HO_9.out
 (first | subst eo25 | (injection eo25 with f1_ f2_ f3_; have f4_ := f1_.symm; have f5_ := f3_.symm; clear f1_ f2_ f3_; subst f4_; subst f5_))
 refine start_ (n := 8) (S := fun w' => w'.cell? ⟨gb101, 0, none⟩ = some (.slice A0_0 l0_0.length c0_0) ∧ w'.cell? (ad109.add (x11_1).toNat) = some (.int .i64 (rd l1 x11_1))) (ds := []) #[false, false, false, false, false, false, false, false] (by kernel_rfl) rfl rfl ⟨(blk_cell BK101.out 0).trans rfl, ((HB.out.cell (World.block_lt_of_cell? _ _ hw109_0)).trans hw109_0)⟩ (fun hHeld => ?_); refine with_tabW spec_LeanCode.tab8 spec_LeanCode.bits8 (fun HT_ HW_ => ?_)
 generalize wr.drew = w24 at HO_9 HO_10 BK101 HB hx109_0 hHeld ⊢
 refine pu_ (i := 1) (N := some 33) (v := ?_) (a' := ?_) #[false, true, false, false, false, false, false, false] rfl rfl HT_ (Or.inl ⟨by rfl, ?_⟩) ?_ ?_
 rotate_left
 ·exact t7_
 rotate_left
 ·exact t4_
 refine pu_ (i := 2) (N := some 34) (v := ?_) (a' := ?_) #[false, true, true, false, false, false, false, false] rfl rfl HT_ (Or.inl ⟨by rfl, ?_⟩) ?_ ?_
 rotate_left
 ·exact t7_
 rotate_left
 ·exact t4_
 refine pu_ (i := 3) (N := some 35) (v := ?_) (a' := ?_) #[false, true, true, true, false, false, false, false] rfl rfl HT_ (Or.inl ⟨by rfl, ?_⟩) ?_ ?_
 rotate_left
 ·exact t7_
 rotate_left
 ·exact t4_
 refine pu_ (i := 4) (N := some 36) (v := ?_) (a' := ?_) #[false, true, true, true, true, false, false, false] rfl rfl HT_ (Or.inl ⟨by rfl, ?_⟩) ?_ ?_
 rotate_left
 ·exact t7_
 rotate_left
 ·exact t4_
 refine pu_ (i := 6) (N := some 38) (v := ?_) (a' := ?_) #[false, true, true, true, true, false, true, false] rfl rfl HT_ (Or.inl ⟨by rfl, ?_⟩) ?_ ?_
 rotate_left
 ·exact t7_
 rotate_left
 ·exact t4_
 refine tk_ (i := 0) (N := some 32) (v := ?_) (a' := ?_) #[true, true, true, true, true, false, true, false] rfl rfl HT_ HW_ (Or.inl ⟨by rfl, ?_⟩) hHeld ?_ ?_
 rotate_left
 ·rintro w' ⟨s0, s1⟩
  go_simp
  with_reducible rfl
 rotate_left
 ·exact t4_
 refine tk_ (i := 5) (N := some 37) (v := ?_) (a' := ?_) #[true, true, true, true, true, true, true, false] rfl rfl HT_ HW_ (Or.inl ⟨by rfl, ?_⟩) hHeld ?_ ?_
 rotate_left
 ·rintro w' ⟨s0, s1⟩
  go_simp
  with_reducible rfl
 rotate_left
 ·exact t4_
 refine on_ (i := 7) (N := some 39) #[true, true, true, true, true, true, true, true] rfl rfl HT_ (fun K hK => ?_)
 refine goes_ Try.func104 (by kernel_rfl) rfl #[.agg #[.slice A0_0 l0_0.length c0_0], .slice Ao25 x9_1.length co25, .int .i64 (rd l1 x11_1), .int .i64 a2] (by rfl) rfl rfl t1_ ?_
 with_reducible refine (spec_l02Needed.calls k1 _ _ l0_0 _ _ x9_1 (rd l1 x11_1) a2 false _ ?side1 ?side2 ?side3 ?side4 A16.out).mono ?_
 (case side1 => exact c2_ HR0_0 HB)
 (case side2 => exact HC0_0.out)
 (case side3 => exact c1_ HO_9)
 (case side4 => exact (Kd.R_reads' HO_9.out).2.1)
 rintro e w26 ⟨rfl, hb⟩
 refine ⟨_, rfl, ?_⟩
 replace HO_9 := a1_ HO_9 hb
 replace HO_10 := a1_ HO_10 hb
 replace BK101 := a2_ BK101 hb
 replace HB := b1_ HB hb
 (try clear hb)
 (try clear hb2)
 (try clear hk)
 (try clear hi)
 refine hK.out _ _ ⟨(blk_cell BK101.out 0).trans rfl, ((HB.out.cell (World.block_lt_of_cell? _ _ hw109_0)).trans hw109_0)⟩ (fun hHeld => ?_)
 clear hK K
 refine norm_ (a' := ?_) ?_ ?_
 rotate_left
 ·show Act.put _ (some 39) _ = _
  simp only [Act.put, List.setIfInBounds_toArray, List.set_cons_zero, List.set_cons_succ, i64_w, i32_w]
  rfl
 refine done_ (done_of HT_.out (by kernel_rfl)) ?_
 try go_wp2
 replace HO_9 := Aside0.mk (Kd.R_drew HO_9.out)
 replace HO_10 := Aside0.mk (Kd.R_drew HO_10.out)
 replace BK101 := Aside0.mk (blk_drew BK101.out)
 replace HB := Aside0.mk (below_drew1 HB.out)
 have p115 : 0 ≤ (x11_1 : Int) := of_decide_eq_true t6_
 have q115 : x11_1 < (l1.length : Int) := of_decide_eq_true t6_
 obtain ⟨ad115, e115, hx115_0⟩ := Kd.at_int HR1.out x11_1 p115 q115
 have hw115_0 := hx115_0
 obtain rfl : ad109 = ad115 := (by injection e115)
 replace hx115_0 := (HB.out.cell (World.block_lt_of_cell? _ _ hx115_0)).trans hx115_0
 replace p115 := eq_true p115
 replace q115 := eq_true q115
 refine start_ (n := 8) (S := fun w' => w'.cell? ⟨gb101, 0, none⟩ = some (.slice A0_0 l0_0.length c0_0) ∧ w'.cell? (ad109.add (x11_1).toNat) = some (.int .i64 (rd l1 x11_1))) (ds := []) #[false, false, false, false, false, false, false, false] (by kernel_rfl) rfl rfl ⟨(blk_cell BK101.out 0).trans rfl, ((HB.out.cell (World.block_lt_of_cell? _ _ hw115_0)).trans hw115_0)⟩ (fun hHeld => ?_); refine with_tabW spec_LeanCode.tab10 spec_LeanCode.bits10 (fun HT_ HW_ => ?_)
 generalize w26.drew = w27 at HO_9 HO_10 BK101 HB hx115_0 hHeld ⊢
 refine pu_ (i := 1) (N := some 48) (v := ?_) (a' := ?_) #[false, true, false, false, false, false, false, false] rfl rfl HT_ (Or.inl ⟨by rfl, ?_⟩) ?_ ?_
 rotate_left
 ·exact t7_
 rotate_left
 ·exact t4_
 refine pu_ (i := 2) (N := some 49) (v := ?_) (a' := ?_) #[false, true, true, false, false, false, false, false] rfl rfl HT_ (Or.inl ⟨by rfl, ?_⟩) ?_ ?_
 rotate_left
 ·exact t7_
 rotate_left
 ·exact t4_
 refine pu_ (i := 3) (N := some 50) (v := ?_) (a' := ?_) #[false, true, true, true, false, false, false, false] rfl rfl HT_ (Or.inl ⟨by rfl, ?_⟩) ?_ ?_
 rotate_left
 ·exact t7_
 rotate_left
 ·exact t4_
 refine pu_ (i := 5) (N := some 52) (v := ?_) (a' := ?_) #[false, true, true, true, false, true, false, false] rfl rfl HT_ (Or.inl ⟨by rfl, ?_⟩) ?_ ?_
 rotate_left
 ·exact t7_
 rotate_left
 ·exact t4_
 refine tk_ (i := 0) (N := some 47) (v := ?_) (a' := ?_) #[true, true, true, true, false, true, false, false] rfl rfl HT_ HW_ (Or.inl ⟨by rfl, ?_⟩) hHeld ?_ ?_
 rotate_left
 ·rintro w' ⟨s0, s1⟩
  go_simp
  with_reducible rfl
 rotate_left
 ·exact t4_
 refine tk_ (i := 4) (N := some 51) (v := ?_) (a' := ?_) #[true, true, true, true, true, true, false, false] rfl rfl HT_ HW_ (Or.inl ⟨by rfl, ?_⟩) hHeld ?_ ?_
 rotate_left
 ·rintro w' ⟨s0, s1⟩
  go_simp
  with_reducible rfl
 rotate_left
 ·exact t4_
 refine on_ (i := 6) (N := some 53) #[true, true, true, true, true, true, true, false] rfl rfl HT_ (fun K hK => ?_)
 refine goes_ Try.func72 (by kernel_rfl) rfl #[.agg #[.slice A0_0 l0_0.length c0_0], .int .i64 (rd l1 x11_1), .int .i64 a2] (by rfl) rfl rfl t1_ ?_
 with_reducible refine (spec_l01Ball.calls k1 _ _ l0_0 (rd l1 x11_1) a2 t116 _ ?side1 ?side2 A23.out).mono ?_
 (case side1 => exact c2_ HR0_0 HB)
 (case side2 => exact HC0_0.out)
 rintro e w28 ⟨v117, rfl, ho0, hb⟩
 refine ⟨_, rfl, ?_⟩
 have HO118 := Aside0.mk (Kd.R_lower (Kd.R_new' (Kd.R_new' ho0 (Kd.R_lt (rb_ HO_9.out))) (Kd.R_lt (rb_ HO_10.out))) (below_size (gb_ HB.out)))
 replace HO_9 := a5_ HO_9 ho0 hb
 replace HO_10 := a5_ HO_10 ho0 hb
 replace BK101 := a2_ BK101 hb
 replace HB := b1_ HB hb
 (try clear hb)
 (try clear hb2)
 (try clear hk)
 (try clear hi)
 (try clear ho0)
 refine hK.out _ _ ⟨(blk_cell BK101.out 0).trans rfl, ((HB.out.cell (World.block_lt_of_cell? _ _ hw115_0)).trans hw115_0)⟩ (fun hHeld => ?_)
 clear hK K
 refine norm_ (a' := ?_) ?_ ?_
 rotate_left
 ·show Act.put _ (some 53) _ = _
  simp only [Act.put, List.setIfInBounds_toArray, List.set_cons_zero, List.set_cons_succ, i64_w, i32_w]
  rfl
 refine pu_ (i := 7) (N := some 12) (v := ?_) (a' := ?_) #[true, true, true, true, true, true, true, true] rfl rfl HT_ (Or.inl ⟨by rfl, ?_⟩) ?_ ?_
 rotate_left
 ·exact t7_
 rotate_left
 ·exact t4_
 refine done_ (done_of HT_.out (by kernel_rfl)) ?_
 try go_wp2
 go_loopg [13] k1 (fun kq v13 w' => ∃ (x9_2 : List Int) (x13_2 : Int), v13 = .int .i64 x13_2 ∧ Aside0 (spec_LeanCode.l1 kq l1 a2 x9_2 x10_1 x11_1 t116 x13_2 l0_0 = some (r1, r2)) ∧ Aside0 (kq ≤ k1) ∧ Aside0 (Kd.R (Kd.int .i64) 2 w' w.heap.size (fun k_ => OB_ k_ u10 ∧ OB_ k_ v117) (.slice Ao25 x9_1.length co25) x9_2) ∧ Aside0 (Kd.R (Kd.int .i64) 2 w' w.heap.size (fun k_ => OB_ k_ (.slice Ao25 x9_1.length co25) ∧ OB_ k_ v117) u10 x10_1) ∧ Aside0 (Kd.R (Kd.int .i64) 2 w' w.heap.size (fun k_ => OB_ k_ (.slice Ao25 x9_1.length co25) ∧ OB_ k_ u10) v117 t116) ∧ Aside0 (w'.heap[gb101]? = some (.cells #[(.slice A0_0 l0_0.length c0_0)] 26 (0, 0))) ∧ Aside0 (Below w.heap.size w w'))
 case atStart => exact ⟨(x9_1), (0), t2_, H', ⟨Nat.le_refl _⟩, ⟨rb_ HO_9.out⟩, ⟨rb_ HO_10.out⟩, ⟨by (with_reducible repeat (first | apply Kd.R_alloc | apply Kd.R_drewN | apply Kd.R_drew)); exact Kd.R_mono HO118.out (fun _ hk => ⟨hk.1.2, hk.2⟩)⟩, ⟨bb_ BK101.out⟩, ⟨gb_ HB.out⟩⟩
 clear H'
 try clear c1
 try clear p1
 try clear q1
 try clear hx1
 try clear p2
 try clear c4
 try clear c5
 try clear c5b0
 try clear c5b1
 try clear p6
 try clear c7
 try clear c10
 try clear p10
 try clear q10
 try clear hx10
 try clear p11
 try clear q11
 try clear hx11
 try clear c14
 try clear c14b0
 try clear c15
 try clear c15b0
 try clear c17
 try clear c18
 try clear hcz10_0
 try clear hcz8_0
 try clear hfz10_0
 try clear hfz8_0
 try clear hx109_0
 try clear hx111_0
 try clear hx115_0
 try clear p109
 try clear p111
 try clear p115
 try clear p2
 try clear q109
 try clear q111
 try clear q115
 obtain ⟨x9_2, x13_2, rfl, HA, HK2, HO_9, HO_10, HO_12, BK101, HB⟩ := hrel
 have hl9_2 := (Kd.R_reads' HO_9.out).1
 rw [hl9_2] at HO_9
 (try simp only [hl9_2])
 (try simp only [hl9_2] at BK101)
 (try simp only [hl9_2] at HO_10)
 (try simp only [hl9_2] at HO_12)
 obtain _ | k2 := gk
 ·exact absurd HA.out (by simp [spec_LeanCode.l1])
 have H := HA.out
 clear HA
 simp only [spec_LeanCode.l1] at H
 by_cases c29 : x13_2 < (t116.length : Int)
 rotate_left
 ·rw [if_neg c29] at H
  have c29b0 : decide (x13_2 < (t116.length : Int)) = false := decide_eq_false c29
  clear c29
  have H' := Aside0.mk H
  clear H
  obtain ⟨Ao37, co37, eo37⟩ := Kd.R_slice HO_12.out
  subst eo37
  go_wp2
  (try simp only [← hl9_2])
  go_roundg k2
  case measure => have := HK1.out; have := HK2.out; omega
  case rel => exact ⟨(x9_2), (x10_1), (wrap64 (x11_1 + 1)), t2_, H', ⟨by have := HK1.out; have := HK2.out; omega⟩, ⟨by (try simp only [hl9_2]); (with_reducible repeat (first | apply Kd.R_alloc | apply Kd.R_drewN | apply Kd.R_drew)); exact Kd.R_mono HO_9.out (fun _ hk => hk.1)⟩, ⟨by (try simp only [hl9_2]); (with_reducible repeat (first | apply Kd.R_alloc | apply Kd.R_drewN | apply Kd.R_drew)); exact Kd.R_mono HO_10.out (fun _ hk => hk.1)⟩, ⟨by (try simp only [hl9_2]); (with_reducible repeat (first | refine blk_drewN ?_ _ | refine blk_drew ?_ | refine blk_alloc ?_ _)); exact BK101.out⟩, ⟨gb_ HB.out⟩⟩
 rw [if_pos c29] at H
 have c29b0 : decide (x13_2 < (t116.length : Int)) = true := decide_eq_true c29
 clear c29
 by_cases c30 : 0 ≤ x13_2
 rotate_left
 ·rw [if_neg c30] at H
  exact absurd H (by simp)
 rw [if_pos c30] at H
 have c30b0 : decide (0 ≤ x13_2) = true := decide_eq_true c30
 clear c30
 by_cases c31 : 0 ≤ (rd t116 x13_2)
 rotate_left
 ·rw [if_neg c31] at H
  exact absurd H (by simp)
 rw [if_pos c31] at H
 have c31b0 : decide (0 ≤ (rd t116 x13_2)) = true := decide_eq_true c31
 clear c31
 by_cases c32 : (rd t116 x13_2) < (x9_2.length : Int)
 rotate_left
 ·rw [if_neg c32] at H
  exact absurd H (by simp)
 rw [if_pos c32] at H
 have c32b0 : decide ((rd t116 x13_2) < (x9_2.length : Int)) = true := decide_eq_true c32
 clear c32
 obtain ⟨y121, hy121⟩ : ∃ y_ : List Int, y_ = (x9_2.set ((rd t116 x13_2) : Int).toNat (wrap64 ((rd x9_2 (rd t116 x13_2)) - 1))) := ⟨_, rfl⟩
 replace H : (spec_LeanCode.l1 k2 l1 a2 y121 x10_1 x11_1 t116 (wrap64 (x13_2 + 1)) l0_0) = some (r1, r2) := y_ H
 have Ny121 := Aside0.mk hy121
 clear hy121
 have H' := Aside0.mk H
 clear H
 obtain ⟨Ao34, co34, eo34⟩ := Kd.R_slice HO_12.out
 subst eo34
 have p119 : 0 ≤ (x13_2 : Int) := of_decide_eq_true t6_
 have q119 : x13_2 < (t116.length : Int) := of_decide_eq_true t6_
 obtain ⟨ad119, e119, hx119_0⟩ := Kd.at_int (Kd.R_reads' HO_12.out).2.2 x13_2 p119 q119
 cases e119
 replace p119 := eq_true p119
 replace q119 := eq_true q119
 have p120 : 0 ≤ ((rd t116 x13_2) : Int) := of_decide_eq_true t6_
 have q120 : (rd t116 x13_2) < (x9_2.length : Int) := of_decide_eq_true t6_
 obtain ⟨ad120, e120, hx120_0⟩ := Kd.at_int (Kd.R_reads' HO_9.out).2.2 (rd t116 x13_2) p120 q120
 cases e120
 replace p120 := eq_true p120
 replace q120 := eq_true q120
 have p33 : 0 ≤ ((rd t116 x13_2) : Int) := of_decide_eq_true t6_
 have q33 : ((rd t116 x13_2) : Int) < ((x9_2.length : Int) : Int) := of_decide_eq_true t6_
 obtain ⟨go33, co33, eo33, gb33, gl33, cl33, HG33⟩ := Kd.R_form HO_9.out (by omega)
 (first | cases eo33 | (injection eo33 with ea_ en_ ec_; (first | subst ea_ | (injection ea_ with ea_; subst ea_)); subst ec_; clear en_))
 have GB33 := Aside0.mk gb33
 have GG33 := Aside0.mk HG33
 clear gb33 gl33 HG33
 (first | simp only [add_plain] at hx120_0 | skip)
 obtain ⟨hx33_0, hf33_0⟩ := Kd.R_celln 0 HO_9.out ((rd t116 x13_2) : Int) p33 q33
 replace p33 := eq_true p33
 replace q33 := eq_true q33
 have HP35 := Kd.R_putg HO_9.out ((rd t116 x13_2) : Int) (wrap64 ((rd x9_2 (rd t116 x13_2)) - 1))
 go_wp2_with (first | ((with_reducible refine gate_store (t := 2) (p := 68) rfl ?_); refine store_event (t := 2) (p := 68) (v := ?vo_w36) (w1 := (wr.setCell ⟨go33, ((rd t116 x13_2) : Int).toNat, none⟩ (.int .i64 (wrap64 ((rd x9_2 (rd t116 x13_2)) - 1))))) ?hg ?ho ?hn ?hr ?_; (case ho => rfl); (case hg => rfl); (case hn => rfl); (case hr => exact t3_); intro w36 hw; have hg : wr.grownBy w36 (some go33) := (by rw [hw]; exact HP35.2); have hp_ : Kd.R (Kd.int .i64) 2 w36 w.heap.size (fun k_ => OB_ k_ u10 ∧ OB_ k_ (.slice (some ad119) t116.length co34)) (.slice (some ⟨go33, 0, none⟩) x9_2.length co25) y121 := (by rw [hw, Ny121.out]; exact HP35.1); clear HP35; have n0_ := Aside0.mk (hp_); have n1_ := Aside0.mk (Kd.R_after (v := (.slice (some ⟨go33, 0, none⟩) x9_2.length co25)) (v1 := (.slice (some ⟨go33, 0, none⟩) x9_2.length co25)) (ok := (fun k_ => OB_ k_ (.slice (some ad119) t116.length co34))) (rb_ (Kd.R_mono HO_10.out (fun _ hk => ⟨hk.2, hk.1⟩))) hg (.inl rfl)); have n2_ := Aside0.mk (Kd.R_after (v := (.slice (some ⟨go33, 0, none⟩) x9_2.length co25)) (v1 := (.slice (some ⟨go33, 0, none⟩) x9_2.length co25)) (ok := (fun k_ => OB_ k_ u10)) (rb_ (Kd.R_mono HO_12.out (fun _ hk => ⟨hk.2, hk.1⟩))) hg (.inl rfl)); have n3_ := Aside0.mk (blk_grown (g := gb101) (o := .cells #[.slice A0_0 l0_0.length c0_0] 26 (0, 0)) (bb_ BK101.out) hg (Kd.R_ne HO_9.out BK101.out (by decide))); have n4_ := Aside0.mk ((by rw [hw]; exact below_set (HB.out) GB33.out : Below w.heap.size w w36)); clear HO_9 HO_10 HO_12 BK101 HB; have HO_9 := n0_; have HO_10 := n1_; have HO_12 := n2_; have BK101 := n3_; have HB := n4_; clear n0_ n1_ n2_ n3_ n4_ hg hw hp_))
 (try simp only [← hl9_2])
 go_roundg k2
 case measure => have := HK1.out; have := HK2.out; omega
 case rel => exact ⟨(y121), (wrap64 (x13_2 + 1)), t2_, H', ⟨by have := HK1.out; have := HK2.out; omega⟩, ⟨by (try simp only [hl9_2]); (with_reducible repeat (first | apply Kd.R_alloc | apply Kd.R_drewN | apply Kd.R_drew)); exact HO_9.out⟩, ⟨by (try simp only [hl9_2]); (with_reducible repeat (first | apply Kd.R_alloc | apply Kd.R_drewN | apply Kd.R_drew)); exact Kd.R_mono HO_10.out (fun _ hk => ⟨hk.2, hk.1⟩)⟩, ⟨by (try simp only [hl9_2]); (with_reducible repeat (first | apply Kd.R_alloc | apply Kd.R_drewN | apply Kd.R_drew)); exact Kd.R_mono HO_12.out (fun _ hk => ⟨hk.2, hk.1⟩)⟩, ⟨by (try simp only [hl9_2]); (with_reducible repeat (first | refine blk_drewN ?_ _ | refine blk_drew ?_ | refine blk_alloc ?_ _)); exact BK101.out⟩, ⟨gb_ HB.out⟩⟩
def spec_NeededWords.l0 : Nat → List Int → Int → List Int → List Int → Int → List Int → Option (List Int × Int)
  | 0, _, _, _, _, _, _ => none
  | k + 1, x1, x2, x9, x10, x11, x102000 => if x11 < (x1.length : Int) then (if 0 ≤ x11 then ((spec_l02Needed.f k x102000 x9 (rd x1 x11) x2).bind fun t110 => (if t110 = true then (if x10.length < 17592186044416 then (spec_NeededWords.l0 k x1 x2 x9 (x10 ++ [rd x1 x11]) (wrap64 (x11 + 1)) x102000) else (none)) else (spec_NeededWords.l0 k x1 x2 x9 x10 (wrap64 (x11 + 1)) x102000))) else (none)) else (some (x10, 0))
def spec_NeededWords.f (k : Nat) (l0_0 : List Int) (l1 : List Int) (a2 : Int) : Option (List Int × Int) := (spec_l02Code.f k l0_0 l1 a2).bind fun t102 => (if t102 = 0 then ((spec_l02Times.f k l0_0 l1 a2).bind fun t103 => (spec_NeededWords.l0 k l1 a2 t103 (([] : List Int)) 0 l0_0)) else (some (([] : List Int), t102)))
def spec_NeededWords.T8 : Bool × List (List Nat × List Nat) := (true, [([], []), ([], []), ([], []), ([], []), ([2, 3], [2, 3]), ([4], [4]), ([], []), ([0, 1, 5, 6], [0, 1, 5, 6])])
def spec_NeededWords.B8 : List Nat := [0, 0, 0, 0, 12, 28, 0, 127]
theorem spec_NeededWords.tab8 : rtab .any (opsOf Try.f50 8) = spec_NeededWords.T8 := by kernel_rfl
theorem spec_NeededWords.bits8 : waitsOk spec_NeededWords.T8.2 spec_NeededWords.B8 = true := by kernel_rfl
set_option maxHeartbeats 8000000 in
set_option maxRecDepth 100000 in
theorem spec_NeededWords.calls (k : Nat) (A0_0 : Option Addr) (c0_0 : Nat) (l0_0 : List Int) (A1 : Option Addr) (c1 : Nat) (l1 : List Int) (a2 : Int) (r1 : List Int) (r2 : Int) (w : World) (hr0_0 : Kd.C (Kd.int .i64) w A0_0 l0_0.length l0_0) (hc0_0 : l0_0.length ≤ c0_0) (hr1 : Kd.C (Kd.int .i64) w A1 l1.length l1) (hc1 : l1.length ≤ c1) (h : spec_NeededWords.f k l0_0 l1 a2 = some (r1, r2)) :
  Calls Try.prog 50 #[.agg #[.slice A0_0 l0_0.length c0_0], .slice A1 l1.length c1, .int .i64 a2] w fun e w' => ∃ v0_ : Value, e = .returned (.tuple #[v0_, .int .i64 r2]) ∧ Kd.R (Kd.int .i64) 2 w' w.heap.size (fun _ => True) v0_ r1 ∧ Below w.heap.size w w' := by
 have hu26 := Try.underlying26
 have HR0_0 := Aside0.mk hr0_0
 have HC0_0 := Aside0.mk hc0_0
 clear hr0_0 hc0_0
 have HR1 := Aside0.mk hr1
 have HC1 := Aside0.mk hc1
 clear hr1 hc1
 have HB := Aside0.mk (Below.refl w.heap.size w)
 have H : ((spec_l02Code.f k l0_0 l1 a2).bind fun t102 => (if t102 = 0 then ((spec_l02Times.f k l0_0 l1 a2).bind fun t103 => (spec_NeededWords.l0 k l1 a2 t103 (([] : List Int)) 0 l0_0)) else (some (([] : List Int), t102)))) = some (r1, r2) := h
 clear h
 replace H := Option.bind_eq_some_iff.mp H
 obtain ⟨t102, A40, H⟩ := H
 replace H : (if t102 = 0 then ((spec_l02Times.f k l0_0 l1 a2).bind fun t103 => (spec_NeededWords.l0 k l1 a2 t103 (([] : List Int)) 0 l0_0)) else (some (([] : List Int), t102))) = some (r1, r2) := H
 have A4 := Aside0.mk A40
 clear A40
 by_cases c5 : t102 = 0
 rotate_left
 ·rw [if_neg c5] at H
  have c5b0 : (t102 == 0) = false := beq_eq_false_iff_ne.mpr c5
  have c5b1 : (t102 != 0) = true := bne_iff_ne.mpr c5
  simp only [Option.some.injEq, Prod.mk.injEq] at H
  obtain ⟨rfl, rfl⟩ := H
  go_enter Try.func50, Try.ntmps50
  go_wp2_with (first | ((with_reducible refine gate_dst (N := 3) rfl ?_); refine bx_ (N := 3) (cs := #[.slice A0_0 l0_0.length c0_0]) (t := 26) rfl rfl ?_; intro gb101 hg w26 hbox hb; have n0_ := b1_ HB hb; have n1_ := Aside0.mk (hbox); have n2_ := ge_ hg HB; have n3_ := ge_ hg HB; clear HB; have HB := n0_; have BK101 := n1_; have GW101 := n2_; have GE101 := n3_; clear n0_ n1_ n2_ n3_ hb hbox hg; have hcz27_0 := hz_ BK101; have hfz27_0 := blk_frozen BK101.out 0) | ((with_reducible refine gate_callee (f := 102) rfl ?_); refine gl_ (some 15) rfl rfl Try.func102 #[.agg #[.slice A0_0 l0_0.length c0_0], .slice A1 l1.length c1, .int .i64 a2] rfl ?_; (with_reducible refine (spec_l02Code.calls k _ _ l0_0 _ _ l1 a2 t102 _ ?side1 ?side2 ?side3 ?side4 A4.out).mono ?_); (case side1 => exact c2_ HR0_0 HB); (case side2 => exact HC0_0.out); (case side3 => exact c2_ HR1 HB); (case side4 => exact HC1.out); rintro e w28 ⟨rfl, hb⟩; refine ⟨_, rfl, ?_⟩; replace BK101 := a2_ BK101 hb; replace HB := b1_ HB hb; (try clear hb); (try clear hb2); (try clear hk); (try clear hi)))
  go_ret2
  exact ⟨_, t5_, by first | exact Kd.R_nil _ _ _ _ _ | exact Kd.N_nil _ _ _ _ _ | exact Kd.V_nil _ _ _ _ _ | exact Kd.Q_nil _ _ _ _ _ | exact Kd.S_nil _ _ _ _ _, gb_ HB.out⟩

 rw [if_pos c5] at H
 have c5b0 : (t102 == 0) = true := beq_iff_eq.mpr c5
 have c5b1 : (t102 != 0) = false := bne_eq_false_iff_eq.mpr c5
 clear c5
 replace H := Option.bind_eq_some_iff.mp H
 obtain ⟨t103, A60, H⟩ := H
 replace H : (spec_NeededWords.l0 k l1 a2 t103 (([] : List Int)) 0 l0_0) = some (r1, r2) := H
 have A6 := Aside0.mk A60
 clear A60
 obtain ⟨y106, hy106⟩ : ∃ y_ : List Int, y_ = (([] : List Int)) := ⟨_, rfl⟩
 replace H : (spec_NeededWords.l0 k l1 a2 t103 y106 0 l0_0) = some (r1, r2) := y_ H
 have Ny106 := Aside0.mk hy106
 clear hy106
 have H' := Aside0.mk H
 clear H
 go_enter Try.func50, Try.ntmps50
 go_wp2_with (first | ((with_reducible refine gate_dst (N := 3) rfl ?_); refine bx_ (N := 3) (cs := #[.slice A0_0 l0_0.length c0_0]) (t := 26) rfl rfl ?_; intro gb101 hg w7 hbox hb; have n0_ := b1_ HB hb; have n1_ := Aside0.mk (hbox); have n2_ := ge_ hg HB; have n3_ := ge_ hg HB; clear HB; have HB := n0_; have BK101 := n1_; have GW101 := n2_; have GE101 := n3_; clear n0_ n1_ n2_ n3_ hb hbox hg; have hcz8_0 := hz_ BK101; have hfz8_0 := blk_frozen BK101.out 0) | ((with_reducible refine gate_callee (f := 102) rfl ?_); refine gl_ (some 15) rfl rfl Try.func102 #[.agg #[.slice A0_0 l0_0.length c0_0], .slice A1 l1.length c1, .int .i64 a2] rfl ?_; (with_reducible refine (spec_l02Code.calls k _ _ l0_0 _ _ l1 a2 t102 _ ?side1 ?side2 ?side3 ?side4 A4.out).mono ?_); (case side1 => exact c2_ HR0_0 HB); (case side2 => exact HC0_0.out); (case side3 => exact c2_ HR1 HB); (case side4 => exact HC1.out); rintro e w9 ⟨rfl, hb⟩; refine ⟨_, rfl, ?_⟩; replace BK101 := a2_ BK101 hb; replace HB := b1_ HB hb; (try clear hb); (try clear hb2); (try clear hk); (try clear hi); have hcz10_0 := hz_ BK101; have hfz10_0 := blk_frozen BK101.out 0) | ((with_reducible refine gate_callee (f := 103) rfl ?_); refine gl_ (some 22) rfl rfl Try.func103 #[.agg #[.slice A0_0 l0_0.length c0_0], .slice A1 l1.length c1, .int .i64 a2] rfl ?_; (with_reducible refine (spec_l02Times.calls k _ _ l0_0 _ _ l1 a2 t103 _ ?side1 ?side2 ?side3 ?side4 A6.out).mono ?_); (case side1 => exact c2_ HR0_0 HB); (case side2 => exact HC0_0.out); (case side3 => exact c2_ HR1 HB); (case side4 => exact HC1.out); rintro e w11 ⟨v104, rfl, ho0, hb⟩; refine ⟨_, rfl, ?_⟩; have HO105 := Aside0.mk (Kd.R_lower ho0 (below_size (gb_ HB.out))); replace BK101 := a2_ BK101 hb; replace HB := b1_ HB hb; (try clear hb); (try clear hb2); (try clear hk); (try clear hi); (try clear ho0)) | ((with_reducible refine gate_dst (N := 23) rfl ?_); refine Kd.R_lit (Kd.int .i64) _ 2 ?hg (N := 23) ?hd (xs := ([] : List Int)) (inner := []) (ok := fun _ => True) (okp := fun _ => True) ?hr ?hp (fun _ hk => hk) trivial (Below.refl _ _) (Nat.le_refl _) (by simp) ?_; (case hd => rfl); (case hg => rfl); (case hr => exact t3_); (case hp => exact (Reps.none _ _)); intro v107 w12 ho13 hb hg_ hnew_; clear hg_ hnew_; (first | rw [← Ny106.out] at ho13 | (simp only [Int.reduceToNat] at ho13; rw [← Ny106.out] at ho13)); have n0_ := a5_ HO105 ho13 hb; have n1_ := Aside0.mk (Kd.R_lower (Kd.R_new' ho13 (Kd.R_lt (rb_ HO105.out))) (below_size (gb_ HB.out))); have n2_ := a2_ BK101 hb; have n3_ := b1_ HB hb; clear HO105 BK101 HB; have HO105 := n0_; have HO108 := n1_; have BK101 := n2_; have HB := n3_; clear n0_ n1_ n2_ n3_ hb ho13))
 go_loopg [10, 11] k (fun kq v10 v11 w' => ∃ (x10_1 : List Int) (x11_1 : Int), v11 = .int .i64 x11_1 ∧ Aside0 (spec_NeededWords.l0 kq l1 a2 t103 x10_1 x11_1 l0_0 = some (r1, r2)) ∧ Aside0 (kq ≤ k) ∧ Aside0 (Kd.R (Kd.int .i64) 2 w' w.heap.size (fun k_ => OB_ k_ v10) v104 t103) ∧ Aside0 (Kd.R (Kd.int .i64) 2 w' w.heap.size (fun k_ => OB_ k_ v104) v10 x10_1) ∧ Aside0 (w'.heap[gb101]? = some (.cells #[(.slice A0_0 l0_0.length c0_0)] 26 (0, 0))) ∧ Aside0 (Below w.heap.size w w'))
 case atStart => exact ⟨(y106), (0), t2_, H', ⟨Nat.le_refl _⟩, ⟨by (with_reducible repeat (first | apply Kd.R_alloc | apply Kd.R_drewN | apply Kd.R_drew)); exact Kd.R_mono HO105.out (fun _ hk => hk.2)⟩, ⟨by (with_reducible repeat (first | apply Kd.R_alloc | apply Kd.R_drewN | apply Kd.R_drew)); exact Kd.R_mono HO108.out (fun _ hk => hk.2)⟩, ⟨bb_ BK101.out⟩, ⟨gb_ HB.out⟩⟩
 clear H'
 try clear c1
 try clear p2
 try clear c5
 try clear c5b0
 try clear c5b1
 try clear c10
 try clear hcz10_0
 try clear hcz8_0
 try clear hfz10_0
 try clear hfz8_0
 obtain ⟨x10_1, x11_1, rfl, HA, HK1, HO_9, HO_10, BK101, HB⟩ := hrel
 obtain _ | k1 := gk
 ·exact absurd HA.out (by simp [spec_NeededWords.l0])
 have H := HA.out
 clear HA
 simp only [spec_NeededWords.l0] at H
 by_cases c14 : x11_1 < (l1.length : Int)
 rotate_left
 ·rw [if_neg c14] at H
  have c14b0 : decide (x11_1 < (l1.length : Int)) = false := decide_eq_false c14
  clear c14
  simp only [Option.some.injEq, Prod.mk.injEq] at H
  obtain ⟨rfl, rfl⟩ := H
  go_wp2
  go_ret2
  exact ⟨_, t5_, by (with_reducible repeat (first | apply Kd.R_alloc | apply Kd.R_drewN | apply Kd.R_drew)); exact Kd.R_mono HO_10.out (fun _ hk => trivial), gb_ HB.out⟩
 rw [if_pos c14] at H
 have c14b0 : decide (x11_1 < (l1.length : Int)) = true := decide_eq_true c14
 clear c14
 by_cases c15 : 0 ≤ x11_1
 rotate_left
 ·rw [if_neg c15] at H
  exact absurd H (by simp)
 rw [if_pos c15] at H
 have c15b0 : decide (0 ≤ x11_1) = true := decide_eq_true c15
 clear c15
 replace H := Option.bind_eq_some_iff.mp H
 obtain ⟨t110, A160, H⟩ := H
 replace H : (if t110 = true then (if x10_1.length < 17592186044416 then (spec_NeededWords.l0 k1 l1 a2 t103 (x10_1 ++ [rd l1 x11_1]) (wrap64 (x11_1 + 1)) l0_0) else (none)) else (spec_NeededWords.l0 k1 l1 a2 t103 x10_1 (wrap64 (x11_1 + 1)) l0_0)) = some (r1, r2) := H
 have A16 := Aside0.mk A160
 clear A160
 by_cases c17 : t110 = true
 rotate_left
 ·replace c17 := Bool.eq_false_iff.mpr c17
  subst c17
  have H1 : (spec_NeededWords.l0 k1 l1 a2 t103 x10_1 (wrap64 (x11_1 + 1)) l0_0) = some (r1, r2) := by rw [if_neg (show ¬ (false = true) by decide)] at H; exact H
  clear H
  have H := H1
  clear H1
  have H' := Aside0.mk H
  clear H
  try go_wp2
  replace HO_9 := Aside0.mk (Kd.R_drew HO_9.out)
  replace HO_10 := Aside0.mk (Kd.R_drew HO_10.out)
  replace BK101 := Aside0.mk (blk_drew BK101.out)
  replace HB := Aside0.mk (below_drew1 HB.out)
  have p109 : 0 ≤ (x11_1 : Int) := of_decide_eq_true t6_
  have q109 : x11_1 < (l1.length : Int) := of_decide_eq_true t6_
  obtain ⟨ad109, e109, hx109_0⟩ := Kd.at_int HR1.out x11_1 p109 q109
  have hw109_0 := hx109_0
  cases e109
  replace hx109_0 := (HB.out.cell (World.block_lt_of_cell? _ _ hx109_0)).trans hx109_0
  replace p109 := eq_true p109
  replace q109 := eq_true q109
  obtain ⟨Ao24, co24, eo24⟩ := Kd.R_slice HO_9.out
  (first | subst eo24 | (injection eo24 with f1_ f2_ f3_; have f4_ := f1_.symm; have f5_ := f3_.symm; clear f1_ f2_ f3_; subst f4_; subst f5_))
  refine start_ (n := 8) (S := fun w' => w'.cell? ⟨gb101, 0, none⟩ = some (.slice A0_0 l0_0.length c0_0) ∧ w'.cell? (ad109.add (x11_1).toNat) = some (.int .i64 (rd l1 x11_1))) (ds := []) #[false, false, false, false, false, false, false, false] (by kernel_rfl) rfl rfl ⟨(blk_cell BK101.out 0).trans rfl, ((HB.out.cell (World.block_lt_of_cell? _ _ hw109_0)).trans hw109_0)⟩ (fun hHeld => ?_); refine with_tabW spec_NeededWords.tab8 spec_NeededWords.bits8 (fun HT_ HW_ => ?_)
  generalize wr.drew = w23 at HO_9 HO_10 BK101 HB hx109_0 hHeld ⊢
  refine pu_ (i := 1) (N := some 31) (v := ?_) (a' := ?_) #[false, true, false, false, false, false, false, false] rfl rfl HT_ (Or.inl ⟨by rfl, ?_⟩) ?_ ?_
  rotate_left
  ·exact t7_
  rotate_left
  ·exact t4_
  refine pu_ (i := 2) (N := some 32) (v := ?_) (a' := ?_) #[false, true, true, false, false, false, false, false] rfl rfl HT_ (Or.inl ⟨by rfl, ?_⟩) ?_ ?_
  rotate_left
  ·exact t7_
  rotate_left
  ·exact t4_
  refine pu_ (i := 3) (N := some 33) (v := ?_) (a' := ?_) #[false, true, true, true, false, false, false, false] rfl rfl HT_ (Or.inl ⟨by rfl, ?_⟩) ?_ ?_
  rotate_left
  ·exact t7_
  rotate_left
  ·exact t4_
  refine pu_ (i := 4) (N := some 34) (v := ?_) (a' := ?_) #[false, true, true, true, true, false, false, false] rfl rfl HT_ (Or.inl ⟨by rfl, ?_⟩) ?_ ?_
  rotate_left
  ·exact t7_
  rotate_left
  ·exact t4_
  refine pu_ (i := 6) (N := some 36) (v := ?_) (a' := ?_) #[false, true, true, true, true, false, true, false] rfl rfl HT_ (Or.inl ⟨by rfl, ?_⟩) ?_ ?_
  rotate_left
  ·exact t7_
  rotate_left
  ·exact t4_
  refine tk_ (i := 0) (N := some 30) (v := ?_) (a' := ?_) #[true, true, true, true, true, false, true, false] rfl rfl HT_ HW_ (Or.inl ⟨by rfl, ?_⟩) hHeld ?_ ?_
  rotate_left
  ·rintro w' ⟨s0, s1⟩
   go_simp
   with_reducible rfl
  rotate_left
  ·exact t4_
  refine tk_ (i := 5) (N := some 35) (v := ?_) (a' := ?_) #[true, true, true, true, true, true, true, false] rfl rfl HT_ HW_ (Or.inl ⟨by rfl, ?_⟩) hHeld ?_ ?_
  rotate_left
  ·rintro w' ⟨s0, s1⟩
   go_simp
   with_reducible rfl
  rotate_left
  ·exact t4_
  refine on_ (i := 7) (N := some 37) #[true, true, true, true, true, true, true, true] rfl rfl HT_ (fun K hK => ?_)
  refine goes_ Try.func104 (by kernel_rfl) rfl #[.agg #[.slice A0_0 l0_0.length c0_0], .slice Ao24 t103.length co24, .int .i64 (rd l1 x11_1), .int .i64 a2] (by rfl) rfl rfl t1_ ?_
  with_reducible refine (spec_l02Needed.calls k1 _ _ l0_0 _ _ t103 (rd l1 x11_1) a2 false _ ?side1 ?side2 ?side3 ?side4 A16.out).mono ?_
  (case side1 => exact c2_ HR0_0 HB)
  (case side2 => exact HC0_0.out)
  (case side3 => exact c1_ HO_9)
  (case side4 => exact (Kd.R_reads' HO_9.out).2.1)
  rintro e w25 ⟨rfl, hb⟩
  refine ⟨_, rfl, ?_⟩
  replace HO_9 := a1_ HO_9 hb
  replace HO_10 := a1_ HO_10 hb
  replace BK101 := a2_ BK101 hb
  replace HB := b1_ HB hb
  (try clear hb)
  (try clear hb2)
  (try clear hk)
  (try clear hi)
  refine hK.out _ _ ⟨(blk_cell BK101.out 0).trans rfl, ((HB.out.cell (World.block_lt_of_cell? _ _ hw109_0)).trans hw109_0)⟩ (fun hHeld => ?_)
  clear hK K
  refine norm_ (a' := ?_) ?_ ?_
  rotate_left
  ·show Act.put _ (some 37) _ = _
   simp only [Act.put, List.setIfInBounds_toArray, List.set_cons_zero, List.set_cons_succ, i64_w, i32_w]
   rfl
  refine done_ (done_of HT_.out (by kernel_rfl)) ?_
  try go_wp2
  go_roundg k1
  case measure => have := HK1.out; omega
  case rel => exact ⟨(x10_1), (wrap64 (x11_1 + 1)), t2_, H', ⟨by have := HK1.out; omega⟩, ⟨rb_ HO_9.out⟩, ⟨rb_ HO_10.out⟩, ⟨bb_ BK101.out⟩, ⟨gb_ HB.out⟩⟩
 subst c17
 have H1 : (if x10_1.length < 17592186044416 then (spec_NeededWords.l0 k1 l1 a2 t103 (x10_1 ++ [rd l1 x11_1]) (wrap64 (x11_1 + 1)) l0_0) else (none)) = some (r1, r2) := by rw [if_pos rfl] at H; exact H
 clear H
 have H := H1
 clear H1
 by_cases c18 : x10_1.length < 17592186044416
 rotate_left
 ·rw [if_neg c18] at H
  exact absurd H (by simp)
 rw [if_pos c18] at H
 have LMc18 := Aside0.mk c18
 clear c18
 obtain ⟨y112, hy112⟩ : ∃ y_ : List Int, y_ = (x10_1 ++ [rd l1 x11_1]) := ⟨_, rfl⟩
 replace H : (spec_NeededWords.l0 k1 l1 a2 t103 y112 (wrap64 (x11_1 + 1)) l0_0) = some (r1, r2) := y_ H
 have Ny112 := Aside0.mk hy112
 clear hy112
 have H' := Aside0.mk H
 clear H
 try go_wp2
 replace HO_9 := Aside0.mk (Kd.R_drew HO_9.out)
 replace HO_10 := Aside0.mk (Kd.R_drew HO_10.out)
 replace BK101 := Aside0.mk (blk_drew BK101.out)
 replace HB := Aside0.mk (below_drew1 HB.out)
 have p109 : 0 ≤ (x11_1 : Int) := of_decide_eq_true t6_
 have q109 : x11_1 < (l1.length : Int) := of_decide_eq_true t6_
 obtain ⟨ad109, e109, hx109_0⟩ := Kd.at_int HR1.out x11_1 p109 q109
 have hw109_0 := hx109_0
 cases e109
 replace hx109_0 := (HB.out.cell (World.block_lt_of_cell? _ _ hx109_0)).trans hx109_0
 replace p109 := eq_true p109
 replace q109 := eq_true q109
 obtain ⟨Ao20, co20, eo20⟩ := Kd.R_slice HO_9.out
 (first | subst eo20 | (injection eo20 with f1_ f2_ f3_; have f4_ := f1_.symm; have f5_ := f3_.symm; clear f1_ f2_ f3_; subst f4_; subst f5_))
 refine start_ (n := 8) (S := fun w' => w'.cell? ⟨gb101, 0, none⟩ = some (.slice A0_0 l0_0.length c0_0) ∧ w'.cell? (ad109.add (x11_1).toNat) = some (.int .i64 (rd l1 x11_1))) (ds := []) #[false, false, false, false, false, false, false, false] (by kernel_rfl) rfl rfl ⟨(blk_cell BK101.out 0).trans rfl, ((HB.out.cell (World.block_lt_of_cell? _ _ hw109_0)).trans hw109_0)⟩ (fun hHeld => ?_); refine with_tabW spec_NeededWords.tab8 spec_NeededWords.bits8 (fun HT_ HW_ => ?_)
 generalize wr.drew = w19 at HO_9 HO_10 BK101 HB hx109_0 hHeld ⊢
 refine pu_ (i := 1) (N := some 31) (v := ?_) (a' := ?_) #[false, true, false, false, false, false, false, false] rfl rfl HT_ (Or.inl ⟨by rfl, ?_⟩) ?_ ?_
 rotate_left
 ·exact t7_
 rotate_left
 ·exact t4_
 refine pu_ (i := 2) (N := some 32) (v := ?_) (a' := ?_) #[false, true, true, false, false, false, false, false] rfl rfl HT_ (Or.inl ⟨by rfl, ?_⟩) ?_ ?_
 rotate_left
 ·exact t7_
 rotate_left
 ·exact t4_
 refine pu_ (i := 3) (N := some 33) (v := ?_) (a' := ?_) #[false, true, true, true, false, false, false, false] rfl rfl HT_ (Or.inl ⟨by rfl, ?_⟩) ?_ ?_
 rotate_left
 ·exact t7_
 rotate_left
 ·exact t4_
 refine pu_ (i := 4) (N := some 34) (v := ?_) (a' := ?_) #[false, true, true, true, true, false, false, false] rfl rfl HT_ (Or.inl ⟨by rfl, ?_⟩) ?_ ?_
 rotate_left
 ·exact t7_
 rotate_left
 ·exact t4_
 refine pu_ (i := 6) (N := some 36) (v := ?_) (a' := ?_) #[false, true, true, true, true, false, true, false] rfl rfl HT_ (Or.inl ⟨by rfl, ?_⟩) ?_ ?_
 rotate_left
 ·exact t7_
 rotate_left
 ·exact t4_
 refine tk_ (i := 0) (N := some 30) (v := ?_) (a' := ?_) #[true, true, true, true, true, false, true, false] rfl rfl HT_ HW_ (Or.inl ⟨by rfl, ?_⟩) hHeld ?_ ?_
 rotate_left
 ·rintro w' ⟨s0, s1⟩
  go_simp
  with_reducible rfl
 rotate_left
 ·exact t4_
 refine tk_ (i := 5) (N := some 35) (v := ?_) (a' := ?_) #[true, true, true, true, true, true, true, false] rfl rfl HT_ HW_ (Or.inl ⟨by rfl, ?_⟩) hHeld ?_ ?_
 rotate_left
 ·rintro w' ⟨s0, s1⟩
  go_simp
  with_reducible rfl
 rotate_left
 ·exact t4_
 refine on_ (i := 7) (N := some 37) #[true, true, true, true, true, true, true, true] rfl rfl HT_ (fun K hK => ?_)
 refine goes_ Try.func104 (by kernel_rfl) rfl #[.agg #[.slice A0_0 l0_0.length c0_0], .slice Ao20 t103.length co20, .int .i64 (rd l1 x11_1), .int .i64 a2] (by rfl) rfl rfl t1_ ?_
 with_reducible refine (spec_l02Needed.calls k1 _ _ l0_0 _ _ t103 (rd l1 x11_1) a2 true _ ?side1 ?side2 ?side3 ?side4 A16.out).mono ?_
 (case side1 => exact c2_ HR0_0 HB)
 (case side2 => exact HC0_0.out)
 (case side3 => exact c1_ HO_9)
 (case side4 => exact (Kd.R_reads' HO_9.out).2.1)
 rintro e w21 ⟨rfl, hb⟩
 refine ⟨_, rfl, ?_⟩
 replace HO_9 := a1_ HO_9 hb
 replace HO_10 := a1_ HO_10 hb
 replace BK101 := a2_ BK101 hb
 replace HB := b1_ HB hb
 (try clear hb)
 (try clear hb2)
 (try clear hk)
 (try clear hi)
 refine hK.out _ _ ⟨(blk_cell BK101.out 0).trans rfl, ((HB.out.cell (World.block_lt_of_cell? _ _ hw109_0)).trans hw109_0)⟩ (fun hHeld => ?_)
 clear hK K
 refine norm_ (a' := ?_) ?_ ?_
 rotate_left
 ·show Act.put _ (some 37) _ = _
  simp only [Act.put, List.setIfInBounds_toArray, List.set_cons_zero, List.set_cons_succ, i64_w, i32_w]
  rfl
 refine done_ (done_of HT_.out (by kernel_rfl)) ?_
 have p111 : 0 ≤ (x11_1 : Int) := of_decide_eq_true t6_
 have q111 : x11_1 < (l1.length : Int) := of_decide_eq_true t6_
 obtain ⟨ad111, e111, hx111_0⟩ := Kd.at_int HR1.out x11_1 p111 q111
 obtain rfl : ad109 = ad111 := (by injection e111)
 replace hx111_0 := (HB.out.cell (World.block_lt_of_cell? _ _ hx111_0)).trans hx111_0
 replace p111 := eq_true p111
 replace q111 := eq_true q111
 try go_wp2_with (first | ((with_reducible refine gate_builtin (b := .append) (xs := #[.tmp 38, .tmp 43]) rfl ?_); at_builtin; refine Kd.R_append (Kd.int .i64) (w0 := w) w.heap.size rfl (.tmp 38) (.tmp 43) 24 2 (.int .i64 0) 8 rfl Try.underlying24 info2 rfl (by decide) (by omega) u10 x10_1 (rd l1 x11_1) [.int .i64 (rd l1 x11_1)] (fun k_ => OB_ k_ (.slice Ao20 t103.length co20)) (fun _ => False) rfl rfl ?aP (fun _ hk => hk.elim) ?aF ?aO ?aB ?aS ?aL ?_; (case aP => exact rfl); (case aB => exact (gb_ HB.out)); (case aF => exact (fun k_ hk => Kd.fresh' (Kd.R_lt (rb_ HO_9.out)) k_ hk)); (case aO => exact (rb_ HO_10.out)); (case aS => exact (below_size (gb_ HB.out))); (case aL => have := LMc18.out; omega); intro v113 w22 ho hb hg hat; rw [← Ny112.out] at ho; have n0_ := Aside0.mk (Kd.R_after (ok := (fun _ => True)) (rb_ (Kd.R_mono HO_9.out (fun _ hk => ⟨trivial, hk⟩))) hg hat); have n1_ := Aside0.mk (blk_grown (g := gb101) (o := .cells #[.slice A0_0 l0_0.length c0_0] 26 (0, 0)) (bb_ BK101.out) hg (Kd.R_ne HO_10.out BK101.out (by decide))); have n2_ := Aside0.mk (hb); have n3_ := Aside0.mk (ho); clear HO_9 BK101 HB HO_10; have HO_9 := n0_; have BK101 := n1_; have HB := n2_; have HO114 := n3_; clear n0_ n1_ n2_ n3_ ho hb hg hat))
 go_roundg k1
 case measure => have := HK1.out; omega
 case rel => exact ⟨(y112), (wrap64 (x11_1 + 1)), t2_, H', ⟨by have := HK1.out; omega⟩, ⟨by (with_reducible repeat (first | apply Kd.R_alloc | apply Kd.R_drewN | apply Kd.R_drew)); exact Kd.R_mono HO_9.out (fun _ hk => hk.2)⟩, ⟨rb_ HO114.out⟩, ⟨bb_ BK101.out⟩, ⟨gb_ HB.out⟩⟩
def spec_l02Uncovered.l0 : Nat → List Int → List Int → Int → Int → Option (List Int)
  | 0, _, _, _, _ => none
  | k + 1, x7, x8, x16, x17 => if x17 < x16 then (if 0 ≤ x17 then (if x17 < (x7.length : Int) then (if (rd x7 x17) = 0 then (if x8.length < 17592186044416 then (spec_l02Uncovered.l0 k x7 (x8 ++ [x17]) x16 (wrap64 (x17 + 1))) else (none)) else (spec_l02Uncovered.l0 k x7 x8 x16 (wrap64 (x17 + 1)))) else (none)) else (none)) else (some x8)
def spec_l02Uncovered.f (k : Nat) (l0_0 : List Int) (l1 : List Int) (a2 : Int) : Option (List Int) := (spec_l02Times.f k l0_0 l1 a2).bind fun t102 => (spec_l02Uncovered.l0 k t102 (([] : List Int)) (t102.length : Int) 0)
set_option maxHeartbeats 8000000 in
set_option maxRecDepth 100000 in
theorem spec_l02Uncovered.calls (k : Nat) (A0_0 : Option Addr) (c0_0 : Nat) (l0_0 : List Int) (A1 : Option Addr) (c1 : Nat) (l1 : List Int) (a2 : Int) (r : List Int) (w : World) (hr0_0 : Kd.C (Kd.int .i64) w A0_0 l0_0.length l0_0) (hc0_0 : l0_0.length ≤ c0_0) (hr1 : Kd.C (Kd.int .i64) w A1 l1.length l1) (hc1 : l1.length ≤ c1) (h : spec_l02Uncovered.f k l0_0 l1 a2 = some r) :
  Calls Try.prog 105 #[.agg #[.slice A0_0 l0_0.length c0_0], .slice A1 l1.length c1, .int .i64 a2] w fun e w' => ∃ v0_ : Value, e = .returned (v0_) ∧ Kd.R (Kd.int .i64) 2 w' w.heap.size (fun _ => True) v0_ r ∧ Below w.heap.size w w' := by
 have hu26 := Try.underlying26
 have HR0_0 := Aside0.mk hr0_0
 have HC0_0 := Aside0.mk hc0_0
 clear hr0_0 hc0_0
 have HR1 := Aside0.mk hr1
 have HC1 := Aside0.mk hc1
 clear hr1 hc1
 have HB := Aside0.mk (Below.refl w.heap.size w)
 have H : ((spec_l02Times.f k l0_0 l1 a2).bind fun t102 => (spec_l02Uncovered.l0 k t102 (([] : List Int)) (t102.length : Int) 0)) = some r := h
 clear h
 replace H := Option.bind_eq_some_iff.mp H
 obtain ⟨t102, A40, H⟩ := H
 replace H : (spec_l02Uncovered.l0 k t102 (([] : List Int)) (t102.length : Int) 0) = some r := H
 have A4 := Aside0.mk A40
 clear A40
 obtain ⟨y105, hy105⟩ : ∃ y_ : List Int, y_ = (([] : List Int)) := ⟨_, rfl⟩
 replace H : (spec_l02Uncovered.l0 k t102 y105 (t102.length : Int) 0) = some r := y_ H
 have Ny105 := Aside0.mk hy105
 clear hy105
 have H' := Aside0.mk H
 clear H
 go_enter Try.func105, Try.ntmps105
 go_wp2_with (first | ((with_reducible refine gate_dst (N := 3) rfl ?_); refine bx_ (N := 3) (cs := #[.slice A0_0 l0_0.length c0_0]) (t := 26) rfl rfl ?_; intro gb101 hg w5 hbox hb; have n0_ := b1_ HB hb; have n1_ := Aside0.mk (hbox); have n2_ := ge_ hg HB; have n3_ := ge_ hg HB; clear HB; have HB := n0_; have BK101 := n1_; have GW101 := n2_; have GE101 := n3_; clear n0_ n1_ n2_ n3_ hb hbox hg; have hcz6_0 := hz_ BK101; have hfz6_0 := blk_frozen BK101.out 0) | ((with_reducible refine gate_callee (f := 103) rfl ?_); refine gl_ (some 13) rfl rfl Try.func103 #[.agg #[.slice A0_0 l0_0.length c0_0], .slice A1 l1.length c1, .int .i64 a2] rfl ?_; (with_reducible refine (spec_l02Times.calls k _ _ l0_0 _ _ l1 a2 t102 _ ?side1 ?side2 ?side3 ?side4 A4.out).mono ?_); (case side1 => exact c2_ HR0_0 HB); (case side2 => exact HC0_0.out); (case side3 => exact c2_ HR1 HB); (case side4 => exact HC1.out); rintro e w7 ⟨v103, rfl, ho0, hb⟩; refine ⟨_, rfl, ?_⟩; have HO104 := Aside0.mk (Kd.R_lower ho0 (below_size (gb_ HB.out))); replace BK101 := a2_ BK101 hb; replace HB := b1_ HB hb; (try clear hb); (try clear hb2); (try clear hk); (try clear hi); (try clear ho0)) | ((with_reducible refine gate_dst (N := 14) rfl ?_); refine Kd.R_lit (Kd.int .i64) _ 2 ?hg (N := 14) ?hd (xs := ([] : List Int)) (inner := []) (ok := fun _ => True) (okp := fun _ => True) ?hr ?hp (fun _ hk => hk) trivial (Below.refl _ _) (Nat.le_refl _) (by simp) ?_; (case hd => rfl); (case hg => rfl); (case hr => exact t3_); (case hp => exact (Reps.none _ _)); intro v106 w8 ho9 hb hg_ hnew_; clear hg_ hnew_; (first | rw [← Ny105.out] at ho9 | (simp only [Int.reduceToNat] at ho9; rw [← Ny105.out] at ho9)); have n0_ := a5_ HO104 ho9 hb; have n1_ := Aside0.mk (Kd.R_lower (Kd.R_new' ho9 (Kd.R_lt (rb_ HO104.out))) (below_size (gb_ HB.out))); have n2_ := a2_ BK101 hb; have n3_ := b1_ HB hb; clear HO104 BK101 HB; have HO104 := n0_; have HO107 := n1_; have BK101 := n2_; have HB := n3_; clear n0_ n1_ n2_ n3_ hb ho9; obtain ⟨Ao10, co10, eo10⟩ := Kd.R_slice HO104.out; subst eo10))
 go_loopg [8, 17] k (fun kq v8 v17 w' => ∃ (x8_1 : List Int) (x17_1 : Int), v17 = .int .i64 x17_1 ∧ Aside0 (spec_l02Uncovered.l0 kq t102 x8_1 (t102.length : Int) x17_1 = some r) ∧ Aside0 (kq ≤ k) ∧ Aside0 (Kd.R (Kd.int .i64) 2 w' w.heap.size (fun k_ => OB_ k_ v8) (.slice Ao10 t102.length co10) t102) ∧ Aside0 (Kd.R (Kd.int .i64) 2 w' w.heap.size (fun k_ => OB_ k_ (.slice Ao10 t102.length co10)) v8 x8_1) ∧ Aside0 (w'.heap[gb101]? = some (.cells #[(.slice A0_0 l0_0.length c0_0)] 26 (0, 0))) ∧ Aside0 (Below w.heap.size w w'))
 case atStart => exact ⟨(y105), (0), t2_, H', ⟨Nat.le_refl _⟩, ⟨by (with_reducible repeat (first | apply Kd.R_alloc | apply Kd.R_drewN | apply Kd.R_drew)); exact Kd.R_mono HO104.out (fun _ hk => hk.2)⟩, ⟨by (with_reducible repeat (first | apply Kd.R_alloc | apply Kd.R_drewN | apply Kd.R_drew)); exact Kd.R_mono HO107.out (fun _ hk => hk.2)⟩, ⟨bb_ BK101.out⟩, ⟨gb_ HB.out⟩⟩
 clear H'
 try clear c1
 try clear p2
 try clear c10
 try clear hcz6_0
 try clear hfz6_0
 obtain ⟨x8_1, x17_1, rfl, HA, HK1, HO_7, HO_8, BK101, HB⟩ := hrel
 obtain _ | k1 := gk
 ·exact absurd HA.out (by simp [spec_l02Uncovered.l0])
 have H := HA.out
 clear HA
 simp only [spec_l02Uncovered.l0] at H
 by_cases c11 : x17_1 < (t102.length : Int)
 rotate_left
 ·rw [if_neg c11] at H
  have c11b0 : decide (x17_1 < (t102.length : Int)) = false := decide_eq_false c11
  clear c11
  obtain rfl := Option.some.inj H
  go_wp2
  go_ret
  exact ⟨_, t5_, by (with_reducible repeat (first | apply Kd.R_alloc | apply Kd.R_drewN | apply Kd.R_drew)); exact Kd.R_mono HO_8.out (fun _ hk => trivial), gb_ HB.out⟩

 rw [if_pos c11] at H
 have c11b0 : decide (x17_1 < (t102.length : Int)) = true := decide_eq_true c11
 clear c11
 by_cases c12 : 0 ≤ x17_1
 rotate_left
 ·rw [if_neg c12] at H
  exact absurd H (by simp)
 rw [if_pos c12] at H
 have c12b0 : decide (0 ≤ x17_1) = true := decide_eq_true c12
 clear c12
 by_cases c13 : x17_1 < (t102.length : Int)
 rotate_left
 ·rw [if_neg c13] at H
  exact absurd H (by simp)
 rw [if_pos c13] at H
 have c13b0 : decide (x17_1 < (t102.length : Int)) = true := decide_eq_true c13
 clear c13
 by_cases c14 : (rd t102 x17_1) = 0
 rotate_left
 ·rw [if_neg c14] at H
  have c14b0 : ((rd t102 x17_1) == 0) = false := beq_eq_false_iff_ne.mpr c14
  have c14b1 : ((rd t102 x17_1) != 0) = true := bne_iff_ne.mpr c14
  have H' := Aside0.mk H
  clear H
  have p108 : 0 ≤ (x17_1 : Int) := of_decide_eq_true t6_
  have q108 : x17_1 < (t102.length : Int) := of_decide_eq_true t6_
  obtain ⟨ad108, e108, hx108_0⟩ := Kd.at_int (Kd.R_reads' HO_7.out).2.2 x17_1 p108 q108
  cases e108
  replace p108 := eq_true p108
  replace q108 := eq_true q108
  go_wp2
  go_roundg k1
  case measure => have := HK1.out; omega
  case rel => exact ⟨(x8_1), (wrap64 (x17_1 + 1)), t2_, H', ⟨by have := HK1.out; omega⟩, ⟨rb_ HO_7.out⟩, ⟨rb_ HO_8.out⟩, ⟨bb_ BK101.out⟩, ⟨gb_ HB.out⟩⟩
 rw [if_pos c14] at H
 have c14b0 : ((rd t102 x17_1) == 0) = true := beq_iff_eq.mpr c14
 have c14b1 : ((rd t102 x17_1) != 0) = false := bne_eq_false_iff_eq.mpr c14
 clear c14
 by_cases c15 : x8_1.length < 17592186044416
 rotate_left
 ·rw [if_neg c15] at H
  exact absurd H (by simp)
 rw [if_pos c15] at H
 have LMc15 := Aside0.mk c15
 clear c15
 obtain ⟨y109, hy109⟩ : ∃ y_ : List Int, y_ = (x8_1 ++ [x17_1]) := ⟨_, rfl⟩
 replace H : (spec_l02Uncovered.l0 k1 t102 y109 (t102.length : Int) (wrap64 (x17_1 + 1))) = some r := y_ H
 have Ny109 := Aside0.mk hy109
 clear hy109
 have H' := Aside0.mk H
 clear H
 have p108 : 0 ≤ (x17_1 : Int) := of_decide_eq_true t6_
 have q108 : x17_1 < (t102.length : Int) := of_decide_eq_true t6_
 obtain ⟨ad108, e108, hx108_0⟩ := Kd.at_int (Kd.R_reads' HO_7.out).2.2 x17_1 p108 q108
 cases e108
 replace p108 := eq_true p108
 replace q108 := eq_true q108
 go_wp2_with (first | ((with_reducible refine gate_builtin (b := .append) (xs := #[.tmp 25, .tmp 27]) rfl ?_); at_builtin; refine Kd.R_append (Kd.int .i64) (w0 := w) w.heap.size rfl (.tmp 25) (.tmp 27) 24 2 (.int .i64 0) 8 rfl Try.underlying24 info2 rfl (by decide) (by omega) u8 x8_1 x17_1 [.int .i64 x17_1] (fun k_ => OB_ k_ (.slice (some ad108) t102.length co10)) (fun _ => False) rfl rfl ?aP (fun _ hk => hk.elim) ?aF ?aO ?aB ?aS ?aL ?_; (case aP => exact rfl); (case aB => exact (gb_ HB.out)); (case aF => exact (fun k_ hk => Kd.fresh' (Kd.R_lt (rb_ HO_7.out)) k_ hk)); (case aO => exact (rb_ HO_8.out)); (case aS => exact (below_size (gb_ HB.out))); (case aL => have := LMc15.out; omega); intro v110 w16 ho hb hg hat; rw [← Ny109.out] at ho; have n0_ := Aside0.mk (Kd.R_after (ok := (fun _ => True)) (rb_ (Kd.R_mono HO_7.out (fun _ hk => ⟨trivial, hk⟩))) hg hat); have n1_ := Aside0.mk (blk_grown (g := gb101) (o := .cells #[.slice A0_0 l0_0.length c0_0] 26 (0, 0)) (bb_ BK101.out) hg (Kd.R_ne HO_8.out BK101.out (by decide))); have n2_ := Aside0.mk (hb); have n3_ := Aside0.mk (ho); clear HO_7 BK101 HB HO_8; have HO_7 := n0_; have BK101 := n1_; have HB := n2_; have HO111 := n3_; clear n0_ n1_ n2_ n3_ ho hb hg hat))
 go_roundg k1
 case measure => have := HK1.out; omega
 case rel => exact ⟨(y109), (wrap64 (x17_1 + 1)), t2_, H', ⟨by have := HK1.out; omega⟩, ⟨by (with_reducible repeat (first | apply Kd.R_alloc | apply Kd.R_drewN | apply Kd.R_drew)); exact Kd.R_mono HO_7.out (fun _ hk => hk.2)⟩, ⟨rb_ HO111.out⟩, ⟨bb_ BK101.out⟩, ⟨gb_ HB.out⟩⟩
def spec_l01Small.f (k : Nat) (s0_0 : List Int) (s0_1 : Int) (s0_2 : Int) : Option (List Int × Int × Int) := (spec_l01Pick.f s0_0 s0_1 s0_2 (([8, 27, 81] : List Int))).bind fun bt105 => ((spec_l01DrawOf.f k s0_0 bt105.2.1 bt105.2.2 bt105.1).bind fun bt108 => (some (bt108.1, bt108.2.1, bt108.2.2)))
set_option maxHeartbeats 8000000 in
set_option maxRecDepth 100000 in
theorem spec_l01Small.calls (k : Nat) (g : Nat) (s0_0 : List Int) (s0_1 : Int) (s0_2 : Int) (r1 : List Int) (r2 : Int) (r3 : Int) (w0 w : World) (hI : IsS91 w0 w g s0_0 s0_1 s0_2) (hB : Below w0.heap.size w0 w) (h : spec_l01Small.f k s0_0 s0_1 s0_2 = some (r1, r2, r3)) :
  Calls Try.prog 120 #[.pointer (some ⟨g, 0, none⟩)] w fun e w' => ∃ v0_ : Value, e = .returned (.agg #[v0_]) ∧ Kd.R (Kd.int .i64) 2 w' w.heap.size (fun _ => True) v0_ r1 ∧ IsS91 w0 w' g s0_0 r2 r3 ∧ Below w0.heap.size w0 w' ∧ KeepBut w w' g none := by
 have hu26 := Try.underlying26
 have HI0 := Aside0.mk hI
 have HK := Aside0.mk (KeepBut.refl w g none)
 have HL := Aside0.mk hB.size
 clear hI
 have HW0 := Aside0.mk hB.size
 have HB := Aside0.mk hB
 clear hB
 have H : ((spec_l01Pick.f s0_0 s0_1 s0_2 (([8, 27, 81] : List Int))).bind fun bt105 => ((spec_l01DrawOf.f k s0_0 bt105.2.1 bt105.2.2 bt105.1).bind fun bt108 => (some (bt108.1, bt108.2.1, bt108.2.2)))) = some (r1, r2, r3) := h
 clear h
 obtain ⟨y102, hy102⟩ : ∃ y_ : List Int, y_ = (([8, 27, 81] : List Int)) := ⟨_, rfl⟩
 replace H : ((spec_l01Pick.f s0_0 s0_1 s0_2 y102).bind fun bt105 => ((spec_l01DrawOf.f k s0_0 bt105.2.1 bt105.2.2 bt105.1).bind fun bt108 => (some (bt108.1, bt108.2.1, bt108.2.2)))) = some (r1, r2, r3) := y_ H
 have Ny102 := Aside0.mk hy102
 clear hy102
 replace H := Option.bind_eq_some_iff.mp H
 obtain ⟨⟨t105, t106, t107⟩, A20, H⟩ := H
 replace H : ((spec_l01DrawOf.f k s0_0 t106 t107 t105).bind fun bt108 => (some (bt108.1, bt108.2.1, bt108.2.2))) = some (r1, r2, r3) := H
 have A2 := Aside0.mk A20
 clear A20
 replace H := Option.bind_eq_some_iff.mp H
 obtain ⟨⟨t108, t111, t112⟩, A30, H⟩ := H
 replace H : (some (t108, t111, t112)) = some (r1, r2, r3) := H
 have A3 := Aside0.mk A30
 clear A30
 simp only [Option.some.injEq, Prod.mk.injEq] at H
 obtain ⟨rfl, rfl, rfl⟩ := H
 go_enter Try.func120, Try.ntmps120
 go_wp2_with (first | ((with_reducible refine gate_dst (N := 2) rfl ?_); refine bx_ (N := 2) (cs := #[.slice none 0 0]) (t := 26) rfl rfl ?_; intro gb101 hg w4 hbox hb; have n0_ := i1_ HI0 hb; have n1_ := k1_ HK hb; have n2_ := b1_ HB hb; have n3_ := Aside0.mk (hbox); have n4_ := gk_ hg HK; have n5_ := Aside0.mk ((Nat.le_trans HW0.out (by rw [hg]; exact (keep_size (w := w) (g := g) (row := none) (kb_ HK)) : w.heap.size ≤ gb101) : w0.heap.size ≤ gb101)); have n6_ := il_ hg HI0; have n7_ := ir_ hg HI0; clear HI0 HK HB; have HI0 := n0_; have HK := n1_; have HB := n2_; have BK101 := n3_; have GW101 := n4_; have GE101 := n5_; have NB0_101 := n6_; have NB101_0 := n7_; clear n0_ n1_ n2_ n3_ n4_ n5_ n6_ n7_ hb hbox hg) | ((with_reducible refine gate_dst (N := 5) rfl ?_); refine Kd.R_lit (Kd.int .i64) _ 2 ?hg (N := 5) ?hd (xs := ([8, 27, 81] : List Int)) (inner := [.int .i64 8, .int .i64 27, .int .i64 81]) (ok := fun _ => True) (okp := fun _ => True) ?hr ?hp (fun _ hk => hk) trivial (Below.refl _ _) (Nat.le_refl _) (by simp) ?_; (case hd => rfl); (case hg => rfl); (case hr => exact t3_); (case hp => exact (Reps.one (show Kd.M (Kd.int .i64) _ _ _ 8 [.int .i64 8] from rfl) (Reps.one (show Kd.M (Kd.int .i64) _ _ _ 27 [.int .i64 27] from rfl) (Reps.one (show Kd.M (Kd.int .i64) _ _ _ 81 [.int .i64 81] from rfl) (Reps.none _ _))))); intro v103 w5 ho6 hb hg_ hnew_; clear hg_ hnew_; (first | rw [← Ny102.out] at ho6 | (simp only [Int.reduceToNat] at ho6; rw [← Ny102.out] at ho6)); have n0_ := Aside0.mk (Kd.R_lower ho6 (keep_size (w := w) (g := g) (row := none) (kb_ HK))); have n1_ := i1_ HI0 hb; have n2_ := a2_ BK101 hb; have n3_ := k1_ HK hb; have n4_ := b1_ HB hb; clear HI0 BK101 HK HB; have HO104 := n0_; have HI0 := n1_; have BK101 := n2_; have HK := n3_; have HB := n4_; clear n0_ n1_ n2_ n3_ n4_ hb ho6; obtain ⟨Ao7, co7, eo7⟩ := Kd.R_slice HO104.out; subst eo7) | ((with_reducible refine gate_callee (f := 82) rfl ?_); refine gl_ (some 6) rfl rfl Try.func82 #[.pointer (some ⟨g, 0, none⟩), .slice Ao7 y102.length co7] rfl ?_; (with_reducible refine (spec_l01Pick.calls g s0_0 s0_1 s0_2 _ _ y102 t105 t106 t107 w0 _ ?side1 ?side2 ?side3 ?side4 ?side5 A2.out).mono ?_); (case side1 => exact i_ HI0); (case side2 => exact gb_ HB.out); (case side3 => exact c1_ HO104); (case side4 => exact (Kd.R_reads' HO104.out).2.1); (case side5 => exact far_slice (IsS91.own_ne HI0.out HO104.out (by decide))); rintro e w8 ⟨rfl, hi, hb, hk⟩; refine ⟨_, rfl, ?_⟩; replace BK101 := kx_ BK101 NB101_0 hk; replace HO104 := kr_ HI0 HO104 hk; replace HK := Aside0.mk (KeepBut.trans (kb_ HK) hk (.inl rfl)); replace HB := Aside0.mk (hb); replace HI0 := Aside0.mk (hi); (try clear hb); (try clear hb2); (try clear hk); (try clear hi)) | ((with_reducible refine gate_callee (f := 114) rfl ?_); refine gl_ (some 7) rfl rfl Try.func114 #[.pointer (some ⟨g, 0, none⟩), .int .i64 t105] rfl ?_; (with_reducible refine (spec_l01DrawOf.calls k g s0_0 t106 t107 t105 t108 t111 t112 w0 _ ?side1 ?side2 A3.out).mono ?_); (case side1 => exact i_ HI0); (case side2 => exact gb_ HB.out); rintro e w9 ⟨v109, rfl, ho0, hi, hb, hk⟩; refine ⟨_, rfl, ?_⟩; replace BK101 := kx_ BK101 NB101_0 hk; have HO110 := Aside0.mk (Kd.R_lower (Kd.R_new' ho0 (Kd.R_lt (rb_ HO104.out))) (keep_size (w := w) (g := g) (row := none) (kb_ HK))); replace HO104 := Aside0.mk (Kd.R_mono (Kd.R_told (Kd.R_oldK (IsS91.apart (show IsS91 w0 _ g s0_0 t106 t107 from i_ HI0) (rb_ HO104.out) (by decide)) hk) (Kd.R_base ho0)) (fun _ h_ => h_.1)); replace HK := Aside0.mk (KeepBut.trans (kb_ HK) hk (.inl rfl)); replace HB := Aside0.mk (hb); replace HI0 := Aside0.mk (hi); (try clear hb); (try clear hb2); (try clear hk); (try clear hi); (try clear ho0); obtain ⟨Ao10, co10, eo10⟩ := Kd.R_slice HO110.out; subst eo10; have hnb11 := NB101_0.out; have hnc11 := NB0_101.out; have hcz12_0 := hz_ BK101; have hfz12_0 := blk_frozen BK101.out 0))
 refine bodyPost_ret (results_cell_row rfl _ _ gb101 26 #[.slice Ao10 t108.length co10] (0, 0) _ rfl (by (with_reducible repeat (first | refine blk_drewN ?_ _ | refine blk_drew ?_ | refine blk_alloc ?_ _)); refine blk_put (cs := #[.slice none 0 0]) ?_ 0 _ rfl; (with_reducible repeat (first | refine blk_drewN ?_ _ | refine blk_drew ?_ | refine blk_alloc ?_ _)); exact BK101.out) Try.underlying26 rfl (by kernel_rfl)) rfl ?_
 exact ⟨_, t5_, by (with_reducible repeat (first | apply Kd.R_alloc | apply Kd.R_drewN | apply Kd.R_drew)); exact Kd.R_mono (Kd.R_far (p := ⟨gb101, 0, none⟩) (Kd.R_types HO110.out BK101.out (by decide)) (fun _ hk => hk.2) (.slice Ao10 t108.length co10)) (fun _ hk => trivial), i_ HI0, gb_ HB.out, kb_ HK⟩
def spec_UncoveredWords.f (k : Nat) (l0_0 : List Int) (l1 : List Int) (a2 : Int) : Option (List Int × Int) := (spec_l02Code.f k l0_0 l1 a2).bind fun t102 => (if t102 = 0 then ((spec_l02Uncovered.f k l0_0 l1 a2).bind fun t103 => (some (t103, 0))) else (some (([] : List Int), t102)))
set_option maxHeartbeats 8000000 in
set_option maxRecDepth 100000 in
theorem spec_UncoveredWords.calls (k : Nat) (A0_0 : Option Addr) (c0_0 : Nat) (l0_0 : List Int) (A1 : Option Addr) (c1 : Nat) (l1 : List Int) (a2 : Int) (r1 : List Int) (r2 : Int) (w : World) (hr0_0 : Kd.C (Kd.int .i64) w A0_0 l0_0.length l0_0) (hc0_0 : l0_0.length ≤ c0_0) (hr1 : Kd.C (Kd.int .i64) w A1 l1.length l1) (hc1 : l1.length ≤ c1) (h : spec_UncoveredWords.f k l0_0 l1 a2 = some (r1, r2)) :
  Calls Try.prog 48 #[.agg #[.slice A0_0 l0_0.length c0_0], .slice A1 l1.length c1, .int .i64 a2] w fun e w' => ∃ v0_ : Value, e = .returned (.tuple #[v0_, .int .i64 r2]) ∧ Kd.R (Kd.int .i64) 2 w' w.heap.size (fun _ => True) v0_ r1 ∧ Below w.heap.size w w' := by
 have hu26 := Try.underlying26
 have HR0_0 := Aside0.mk hr0_0
 have HC0_0 := Aside0.mk hc0_0
 clear hr0_0 hc0_0
 have HR1 := Aside0.mk hr1
 have HC1 := Aside0.mk hc1
 clear hr1 hc1
 have HB := Aside0.mk (Below.refl w.heap.size w)
 have H : ((spec_l02Code.f k l0_0 l1 a2).bind fun t102 => (if t102 = 0 then ((spec_l02Uncovered.f k l0_0 l1 a2).bind fun t103 => (some (t103, 0))) else (some (([] : List Int), t102)))) = some (r1, r2) := h
 clear h
 replace H := Option.bind_eq_some_iff.mp H
 obtain ⟨t102, A40, H⟩ := H
 replace H : (if t102 = 0 then ((spec_l02Uncovered.f k l0_0 l1 a2).bind fun t103 => (some (t103, 0))) else (some (([] : List Int), t102))) = some (r1, r2) := H
 have A4 := Aside0.mk A40
 clear A40
 by_cases c5 : t102 = 0
 rotate_left
 ·rw [if_neg c5] at H
  have c5b0 : (t102 == 0) = false := beq_eq_false_iff_ne.mpr c5
  have c5b1 : (t102 != 0) = true := bne_iff_ne.mpr c5
  simp only [Option.some.injEq, Prod.mk.injEq] at H
  obtain ⟨rfl, rfl⟩ := H
  go_enter Try.func48, Try.ntmps48
  go_wp2_with (first | ((with_reducible refine gate_dst (N := 3) rfl ?_); refine bx_ (N := 3) (cs := #[.slice A0_0 l0_0.length c0_0]) (t := 26) rfl rfl ?_; intro gb101 hg w12 hbox hb; have n0_ := b1_ HB hb; have n1_ := Aside0.mk (hbox); have n2_ := ge_ hg HB; have n3_ := ge_ hg HB; clear HB; have HB := n0_; have BK101 := n1_; have GW101 := n2_; have GE101 := n3_; clear n0_ n1_ n2_ n3_ hb hbox hg; have hcz13_0 := hz_ BK101; have hfz13_0 := blk_frozen BK101.out 0) | ((with_reducible refine gate_callee (f := 102) rfl ?_); refine gl_ (some 12) rfl rfl Try.func102 #[.agg #[.slice A0_0 l0_0.length c0_0], .slice A1 l1.length c1, .int .i64 a2] rfl ?_; (with_reducible refine (spec_l02Code.calls k _ _ l0_0 _ _ l1 a2 t102 _ ?side1 ?side2 ?side3 ?side4 A4.out).mono ?_); (case side1 => exact c2_ HR0_0 HB); (case side2 => exact HC0_0.out); (case side3 => exact c2_ HR1 HB); (case side4 => exact HC1.out); rintro e w14 ⟨rfl, hb⟩; refine ⟨_, rfl, ?_⟩; replace BK101 := a2_ BK101 hb; replace HB := b1_ HB hb; (try clear hb); (try clear hb2); (try clear hk); (try clear hi)))
  go_ret2
  exact ⟨_, t5_, by first | exact Kd.R_nil _ _ _ _ _ | exact Kd.N_nil _ _ _ _ _ | exact Kd.V_nil _ _ _ _ _ | exact Kd.Q_nil _ _ _ _ _ | exact Kd.S_nil _ _ _ _ _, gb_ HB.out⟩

 rw [if_pos c5] at H
 have c5b0 : (t102 == 0) = true := beq_iff_eq.mpr c5
 have c5b1 : (t102 != 0) = false := bne_eq_false_iff_eq.mpr c5
 clear c5
 replace H := Option.bind_eq_some_iff.mp H
 obtain ⟨t103, A60, H⟩ := H
 replace H : (some (t103, 0)) = some (r1, r2) := H
 have A6 := Aside0.mk A60
 clear A60
 simp only [Option.some.injEq, Prod.mk.injEq] at H
 obtain ⟨rfl, rfl⟩ := H
 go_enter Try.func48, Try.ntmps48
 go_wp2_with (first | ((with_reducible refine gate_dst (N := 3) rfl ?_); refine bx_ (N := 3) (cs := #[.slice A0_0 l0_0.length c0_0]) (t := 26) rfl rfl ?_; intro gb101 hg w7 hbox hb; have n0_ := b1_ HB hb; have n1_ := Aside0.mk (hbox); have n2_ := ge_ hg HB; have n3_ := ge_ hg HB; clear HB; have HB := n0_; have BK101 := n1_; have GW101 := n2_; have GE101 := n3_; clear n0_ n1_ n2_ n3_ hb hbox hg; have hcz8_0 := hz_ BK101; have hfz8_0 := blk_frozen BK101.out 0) | ((with_reducible refine gate_callee (f := 102) rfl ?_); refine gl_ (some 12) rfl rfl Try.func102 #[.agg #[.slice A0_0 l0_0.length c0_0], .slice A1 l1.length c1, .int .i64 a2] rfl ?_; (with_reducible refine (spec_l02Code.calls k _ _ l0_0 _ _ l1 a2 t102 _ ?side1 ?side2 ?side3 ?side4 A4.out).mono ?_); (case side1 => exact c2_ HR0_0 HB); (case side2 => exact HC0_0.out); (case side3 => exact c2_ HR1 HB); (case side4 => exact HC1.out); rintro e w9 ⟨rfl, hb⟩; refine ⟨_, rfl, ?_⟩; replace BK101 := a2_ BK101 hb; replace HB := b1_ HB hb; (try clear hb); (try clear hb2); (try clear hk); (try clear hi); have hcz10_0 := hz_ BK101; have hfz10_0 := blk_frozen BK101.out 0) | ((with_reducible refine gate_callee (f := 105) rfl ?_); refine gl_ (some 19) rfl rfl Try.func105 #[.agg #[.slice A0_0 l0_0.length c0_0], .slice A1 l1.length c1, .int .i64 a2] rfl ?_; (with_reducible refine (spec_l02Uncovered.calls k _ _ l0_0 _ _ l1 a2 t103 _ ?side1 ?side2 ?side3 ?side4 A6.out).mono ?_); (case side1 => exact c2_ HR0_0 HB); (case side2 => exact HC0_0.out); (case side3 => exact c2_ HR1 HB); (case side4 => exact HC1.out); rintro e w11 ⟨v104, rfl, ho0, hb⟩; refine ⟨_, rfl, ?_⟩; have HO105 := Aside0.mk (Kd.R_lower ho0 (below_size (gb_ HB.out))); replace BK101 := a2_ BK101 hb; replace HB := b1_ HB hb; (try clear hb); (try clear hb2); (try clear hk); (try clear hi); (try clear ho0)))
 go_ret2
 exact ⟨_, t5_, rb_ HO105.out, gb_ HB.out⟩
def spec_CoversSpace.f (k : Nat) (l0_0 : List Int) (l1 : List Int) (a2 : Int) : Option (Bool × Int) := (spec_l02Code.f k l0_0 l1 a2).bind fun t102 => (if t102 = 0 then ((spec_l02Uncovered.f k l0_0 l1 a2).bind fun t103 => (some (((t103.length : Int) == 0), 0))) else (some (false, t102)))
set_option maxHeartbeats 8000000 in
set_option maxRecDepth 100000 in
theorem spec_CoversSpace.calls (k : Nat) (A0_0 : Option Addr) (c0_0 : Nat) (l0_0 : List Int) (A1 : Option Addr) (c1 : Nat) (l1 : List Int) (a2 : Int) (r1 : Bool) (r2 : Int) (w : World) (hr0_0 : Kd.C (Kd.int .i64) w A0_0 l0_0.length l0_0) (hc0_0 : l0_0.length ≤ c0_0) (hr1 : Kd.C (Kd.int .i64) w A1 l1.length l1) (hc1 : l1.length ≤ c1) (h : spec_CoversSpace.f k l0_0 l1 a2 = some (r1, r2)) :
  Calls Try.prog 52 #[.agg #[.slice A0_0 l0_0.length c0_0], .slice A1 l1.length c1, .int .i64 a2] w fun e w' => e = .returned (.tuple #[.bool r1, .int .i64 r2]) ∧ Below w.heap.size w w' := by
 have hu26 := Try.underlying26
 have HR0_0 := Aside0.mk hr0_0
 have HC0_0 := Aside0.mk hc0_0
 clear hr0_0 hc0_0
 have HR1 := Aside0.mk hr1
 have HC1 := Aside0.mk hc1
 clear hr1 hc1
 have HB := Aside0.mk (Below.refl w.heap.size w)
 have H : ((spec_l02Code.f k l0_0 l1 a2).bind fun t102 => (if t102 = 0 then ((spec_l02Uncovered.f k l0_0 l1 a2).bind fun t103 => (some (((t103.length : Int) == 0), 0))) else (some (false, t102)))) = some (r1, r2) := h
 clear h
 replace H := Option.bind_eq_some_iff.mp H
 obtain ⟨t102, A40, H⟩ := H
 replace H : (if t102 = 0 then ((spec_l02Uncovered.f k l0_0 l1 a2).bind fun t103 => (some (((t103.length : Int) == 0), 0))) else (some (false, t102))) = some (r1, r2) := H
 have A4 := Aside0.mk A40
 clear A40
 by_cases c5 : t102 = 0
 rotate_left
 ·rw [if_neg c5] at H
  have c5b0 : (t102 == 0) = false := beq_eq_false_iff_ne.mpr c5
  have c5b1 : (t102 != 0) = true := bne_iff_ne.mpr c5
  simp only [Option.some.injEq, Prod.mk.injEq] at H
  obtain ⟨rfl, rfl⟩ := H
  go_enter Try.func52, Try.ntmps52
  go_wp2_with (first | ((with_reducible refine gate_dst (N := 3) rfl ?_); refine bx_ (N := 3) (cs := #[.slice A0_0 l0_0.length c0_0]) (t := 26) rfl rfl ?_; intro gb101 hg w13 hbox hb; have n0_ := b1_ HB hb; have n1_ := Aside0.mk (hbox); have n2_ := ge_ hg HB; have n3_ := ge_ hg HB; clear HB; have HB := n0_; have BK101 := n1_; have GW101 := n2_; have GE101 := n3_; clear n0_ n1_ n2_ n3_ hb hbox hg; have hcz14_0 := hz_ BK101; have hfz14_0 := blk_frozen BK101.out 0) | ((with_reducible refine gate_callee (f := 102) rfl ?_); refine gl_ (some 12) rfl rfl Try.func102 #[.agg #[.slice A0_0 l0_0.length c0_0], .slice A1 l1.length c1, .int .i64 a2] rfl ?_; (with_reducible refine (spec_l02Code.calls k _ _ l0_0 _ _ l1 a2 t102 _ ?side1 ?side2 ?side3 ?side4 A4.out).mono ?_); (case side1 => exact c2_ HR0_0 HB); (case side2 => exact HC0_0.out); (case side3 => exact c2_ HR1 HB); (case side4 => exact HC1.out); rintro e w15 ⟨rfl, hb⟩; refine ⟨_, rfl, ?_⟩; replace BK101 := a2_ BK101 hb; replace HB := b1_ HB hb; (try clear hb); (try clear hb2); (try clear hk); (try clear hi)))
  go_ret2
  exact ⟨t5_, gb_ HB.out⟩

 rw [if_pos c5] at H
 have c5b0 : (t102 == 0) = true := beq_iff_eq.mpr c5
 have c5b1 : (t102 != 0) = false := bne_eq_false_iff_eq.mpr c5
 clear c5
 replace H := Option.bind_eq_some_iff.mp H
 obtain ⟨t103, A60, H⟩ := H
 replace H : (some (((t103.length : Int) == 0), 0)) = some (r1, r2) := H
 have A6 := Aside0.mk A60
 clear A60
 simp only [Option.some.injEq, Prod.mk.injEq] at H
 obtain ⟨rfl, rfl⟩ := H
 go_enter Try.func52, Try.ntmps52
 go_wp2_with (first | ((with_reducible refine gate_dst (N := 3) rfl ?_); refine bx_ (N := 3) (cs := #[.slice A0_0 l0_0.length c0_0]) (t := 26) rfl rfl ?_; intro gb101 hg w7 hbox hb; have n0_ := b1_ HB hb; have n1_ := Aside0.mk (hbox); have n2_ := ge_ hg HB; have n3_ := ge_ hg HB; clear HB; have HB := n0_; have BK101 := n1_; have GW101 := n2_; have GE101 := n3_; clear n0_ n1_ n2_ n3_ hb hbox hg; have hcz8_0 := hz_ BK101; have hfz8_0 := blk_frozen BK101.out 0) | ((with_reducible refine gate_callee (f := 102) rfl ?_); refine gl_ (some 12) rfl rfl Try.func102 #[.agg #[.slice A0_0 l0_0.length c0_0], .slice A1 l1.length c1, .int .i64 a2] rfl ?_; (with_reducible refine (spec_l02Code.calls k _ _ l0_0 _ _ l1 a2 t102 _ ?side1 ?side2 ?side3 ?side4 A4.out).mono ?_); (case side1 => exact c2_ HR0_0 HB); (case side2 => exact HC0_0.out); (case side3 => exact c2_ HR1 HB); (case side4 => exact HC1.out); rintro e w9 ⟨rfl, hb⟩; refine ⟨_, rfl, ?_⟩; replace BK101 := a2_ BK101 hb; replace HB := b1_ HB hb; (try clear hb); (try clear hb2); (try clear hk); (try clear hi); have hcz10_0 := hz_ BK101; have hfz10_0 := blk_frozen BK101.out 0) | ((with_reducible refine gate_callee (f := 105) rfl ?_); refine gl_ (some 19) rfl rfl Try.func105 #[.agg #[.slice A0_0 l0_0.length c0_0], .slice A1 l1.length c1, .int .i64 a2] rfl ?_; (with_reducible refine (spec_l02Uncovered.calls k _ _ l0_0 _ _ l1 a2 t103 _ ?side1 ?side2 ?side3 ?side4 A6.out).mono ?_); (case side1 => exact c2_ HR0_0 HB); (case side2 => exact HC0_0.out); (case side3 => exact c2_ HR1 HB); (case side4 => exact HC1.out); rintro e w11 ⟨v104, rfl, ho0, hb⟩; refine ⟨_, rfl, ?_⟩; have HO105 := Aside0.mk (Kd.R_lower ho0 (below_size (gb_ HB.out))); replace BK101 := a2_ BK101 hb; replace HB := b1_ HB hb; (try clear hb); (try clear hb2); (try clear hk); (try clear hi); (try clear ho0); obtain ⟨Ao12, co12, eo12⟩ := Kd.R_slice HO105.out; subst eo12))
 go_ret2
 exact ⟨t5_, gb_ HB.out⟩
def spec_l02With.f (k : Nat) (l0 : List Int) : Option (List Int × List Int × Int) := (spec_l01From.f k l0).bind fun bt102 => ((spec_l01Small.f k bt102.1 bt102.2.1 bt102.2.2).bind fun bt106 => ((spec_l01DrawCode.f k bt102.1 bt106.2.1 bt106.2.2 bt106.1).bind fun bt112 => ((spec_l01Near.f bt102.1 bt112.2.1 bt112.2.2 8).bind fun bt117 => ((spec_l01Pick.f bt102.1 bt117.2.1 bt117.2.2 (([0, 1, 1, 1, 2, bt117.1] : List Int))).bind fun bt123 => ((spec_l01Next.f bt102.1 bt123.2.1 bt123.2.2 4).bind fun bt126 => (if bt126.1 = 0 then ((spec_GreedyCode.f k bt106.1 (mx (mn bt123.1 8) 1)).bind fun bt129 => ((spec_l01Bad.f k bt102.1 bt126.2.1 bt126.2.2 bt106.1).bind fun bt133 => ((spec_l01BadCode.f k bt102.1 bt133.2.1 bt133.2.2 bt106.1 bt129.1).bind fun bt138 => (some (bt133.1, bt138.1, bt123.1))))) else ((spec_l01Bad.f k bt102.1 bt126.2.1 bt126.2.2 bt106.1).bind fun bt143 => ((spec_l01BadCode.f k bt102.1 bt143.2.1 bt143.2.2 bt106.1 bt112.1).bind fun bt148 => (some (bt143.1, bt148.1, bt123.1))))))))))
def spec_l02With.T7 : Bool × List (List Nat × List Nat) := (true, [([], []), ([], []), ([0, 1], [0, 1]), ([], []), ([], []), ([], []), ([3, 4, 5, 2], [3, 4, 5]), ([], []), ([2, 6, 0, 1, 2], [2]), ([6, 8, 0, 1, 2, 3, 4, 5, 6, 8], [6]), ([7, 9, 0, 1, 2, 3, 4, 5, 6, 7, 8, 9], [7])])
def spec_l02With.B7 : List Nat := [0, 0, 3, 0, 0, 0, 63, 0, 127, 383, 1023]
theorem spec_l02With.tab7 : rtab .any (opsOf Try.f97 7) = spec_l02With.T7 := by kernel_rfl
theorem spec_l02With.bits7 : waitsOk spec_l02With.T7.2 spec_l02With.B7 = true := by kernel_rfl
set_option maxHeartbeats 8000000 in
set_option maxRecDepth 100000 in
theorem spec_l02With.calls (k : Nat) (A0 : Option Addr) (c0 : Nat) (l0 : List Int) (r1 : List Int) (r2 : List Int) (r3 : Int) (w : World) (hr0 : Kd.C (Kd.int .u8) w A0 l0.length l0) (hc0 : l0.length ≤ c0) (h : spec_l02With.f k l0 = some (r1, r2, r3)) :
  Calls Try.prog 97 #[.slice A0 l0.length c0] w fun e w' => ∃ v0_ v1_ : Value, e = .returned (.tuple #[.agg #[v0_], v1_, .int .i64 r3]) ∧ Kd.R (Kd.int .i64) 2 w' w.heap.size (fun k_ => OB_ k_ v1_) v0_ r1 ∧ Kd.R (Kd.int .i64) 2 w' w.heap.size (fun k_ => OB_ k_ v0_) v1_ r2 ∧ Below w.heap.size w w' := by
 have hu26 := Try.underlying26
 have HR0 := Aside0.mk hr0
 have HC0 := Aside0.mk hc0
 clear hr0 hc0
 have HB := Aside0.mk (Below.refl w.heap.size w)
 have H : ((spec_l01From.f k l0).bind fun bt102 => ((spec_l01Small.f k bt102.1 bt102.2.1 bt102.2.2).bind fun bt106 => ((spec_l01DrawCode.f k bt102.1 bt106.2.1 bt106.2.2 bt106.1).bind fun bt112 => ((spec_l01Near.f bt102.1 bt112.2.1 bt112.2.2 8).bind fun bt117 => ((spec_l01Pick.f bt102.1 bt117.2.1 bt117.2.2 (([0, 1, 1, 1, 2, bt117.1] : List Int))).bind fun bt123 => ((spec_l01Next.f bt102.1 bt123.2.1 bt123.2.2 4).bind fun bt126 => (if bt126.1 = 0 then ((spec_GreedyCode.f k bt106.1 (mx (mn bt123.1 8) 1)).bind fun bt129 => ((spec_l01Bad.f k bt102.1 bt126.2.1 bt126.2.2 bt106.1).bind fun bt133 => ((spec_l01BadCode.f k bt102.1 bt133.2.1 bt133.2.2 bt106.1 bt129.1).bind fun bt138 => (some (bt133.1, bt138.1, bt123.1))))) else ((spec_l01Bad.f k bt102.1 bt126.2.1 bt126.2.2 bt106.1).bind fun bt143 => ((spec_l01BadCode.f k bt102.1 bt143.2.1 bt143.2.2 bt106.1 bt112.1).bind fun bt148 => (some (bt143.1, bt148.1, bt123.1))))))))))) = some (r1, r2, r3) := h
 clear h
 replace H := Option.bind_eq_some_iff.mp H
 obtain ⟨⟨t102, t103, t104⟩, A20, H⟩ := H
 replace H : ((spec_l01Small.f k t102 t103 t104).bind fun bt106 => ((spec_l01DrawCode.f k t102 bt106.2.1 bt106.2.2 bt106.1).bind fun bt112 => ((spec_l01Near.f t102 bt112.2.1 bt112.2.2 8).bind fun bt117 => ((spec_l01Pick.f t102 bt117.2.1 bt117.2.2 (([0, 1, 1, 1, 2, bt117.1] : List Int))).bind fun bt123 => ((spec_l01Next.f t102 bt123.2.1 bt123.2.2 4).bind fun bt126 => (if bt126.1 = 0 then ((spec_GreedyCode.f k bt106.1 (mx (mn bt123.1 8) 1)).bind fun bt129 => ((spec_l01Bad.f k t102 bt126.2.1 bt126.2.2 bt106.1).bind fun bt133 => ((spec_l01BadCode.f k t102 bt133.2.1 bt133.2.2 bt106.1 bt129.1).bind fun bt138 => (some (bt133.1, bt138.1, bt123.1))))) else ((spec_l01Bad.f k t102 bt126.2.1 bt126.2.2 bt106.1).bind fun bt143 => ((spec_l01BadCode.f k t102 bt143.2.1 bt143.2.2 bt106.1 bt112.1).bind fun bt148 => (some (bt143.1, bt148.1, bt123.1)))))))))) = some (r1, r2, r3) := H
 have A2 := Aside0.mk A20
 clear A20
 replace H := Option.bind_eq_some_iff.mp H
 obtain ⟨⟨t106, t109, t110⟩, A30, H⟩ := H
 replace H : ((spec_l01DrawCode.f k t102 t109 t110 t106).bind fun bt112 => ((spec_l01Near.f t102 bt112.2.1 bt112.2.2 8).bind fun bt117 => ((spec_l01Pick.f t102 bt117.2.1 bt117.2.2 (([0, 1, 1, 1, 2, bt117.1] : List Int))).bind fun bt123 => ((spec_l01Next.f t102 bt123.2.1 bt123.2.2 4).bind fun bt126 => (if bt126.1 = 0 then ((spec_GreedyCode.f k t106 (mx (mn bt123.1 8) 1)).bind fun bt129 => ((spec_l01Bad.f k t102 bt126.2.1 bt126.2.2 t106).bind fun bt133 => ((spec_l01BadCode.f k t102 bt133.2.1 bt133.2.2 t106 bt129.1).bind fun bt138 => (some (bt133.1, bt138.1, bt123.1))))) else ((spec_l01Bad.f k t102 bt126.2.1 bt126.2.2 t106).bind fun bt143 => ((spec_l01BadCode.f k t102 bt143.2.1 bt143.2.2 t106 bt112.1).bind fun bt148 => (some (bt143.1, bt148.1, bt123.1))))))))) = some (r1, r2, r3) := H
 have A3 := Aside0.mk A30
 clear A30
 replace H := Option.bind_eq_some_iff.mp H
 obtain ⟨⟨t112, t115, t116⟩, A40, H⟩ := H
 replace H : ((spec_l01Near.f t102 t115 t116 8).bind fun bt117 => ((spec_l01Pick.f t102 bt117.2.1 bt117.2.2 (([0, 1, 1, 1, 2, bt117.1] : List Int))).bind fun bt123 => ((spec_l01Next.f t102 bt123.2.1 bt123.2.2 4).bind fun bt126 => (if bt126.1 = 0 then ((spec_GreedyCode.f k t106 (mx (mn bt123.1 8) 1)).bind fun bt129 => ((spec_l01Bad.f k t102 bt126.2.1 bt126.2.2 t106).bind fun bt133 => ((spec_l01BadCode.f k t102 bt133.2.1 bt133.2.2 t106 bt129.1).bind fun bt138 => (some (bt133.1, bt138.1, bt123.1))))) else ((spec_l01Bad.f k t102 bt126.2.1 bt126.2.2 t106).bind fun bt143 => ((spec_l01BadCode.f k t102 bt143.2.1 bt143.2.2 t106 t112).bind fun bt148 => (some (bt143.1, bt148.1, bt123.1)))))))) = some (r1, r2, r3) := H
 have A4 := Aside0.mk A40
 clear A40
 replace H := Option.bind_eq_some_iff.mp H
 obtain ⟨⟨t117, t118, t119⟩, A50, H⟩ := H
 replace H : ((spec_l01Pick.f t102 t118 t119 (([0, 1, 1, 1, 2, t117] : List Int))).bind fun bt123 => ((spec_l01Next.f t102 bt123.2.1 bt123.2.2 4).bind fun bt126 => (if bt126.1 = 0 then ((spec_GreedyCode.f k t106 (mx (mn bt123.1 8) 1)).bind fun bt129 => ((spec_l01Bad.f k t102 bt126.2.1 bt126.2.2 t106).bind fun bt133 => ((spec_l01BadCode.f k t102 bt133.2.1 bt133.2.2 t106 bt129.1).bind fun bt138 => (some (bt133.1, bt138.1, bt123.1))))) else ((spec_l01Bad.f k t102 bt126.2.1 bt126.2.2 t106).bind fun bt143 => ((spec_l01BadCode.f k t102 bt143.2.1 bt143.2.2 t106 t112).bind fun bt148 => (some (bt143.1, bt148.1, bt123.1))))))) = some (r1, r2, r3) := H
 have A5 := Aside0.mk A50
 clear A50
 obtain ⟨y120, hy120⟩ : ∃ y_ : List Int, y_ = (([0, 1, 1, 1, 2, t117] : List Int)) := ⟨_, rfl⟩
 replace H : ((spec_l01Pick.f t102 t118 t119 y120).bind fun bt123 => ((spec_l01Next.f t102 bt123.2.1 bt123.2.2 4).bind fun bt126 => (if bt126.1 = 0 then ((spec_GreedyCode.f k t106 (mx (mn bt123.1 8) 1)).bind fun bt129 => ((spec_l01Bad.f k t102 bt126.2.1 bt126.2.2 t106).bind fun bt133 => ((spec_l01BadCode.f k t102 bt133.2.1 bt133.2.2 t106 bt129.1).bind fun bt138 => (some (bt133.1, bt138.1, bt123.1))))) else ((spec_l01Bad.f k t102 bt126.2.1 bt126.2.2 t106).bind fun bt143 => ((spec_l01BadCode.f k t102 bt143.2.1 bt143.2.2 t106 t112).bind fun bt148 => (some (bt143.1, bt148.1, bt123.1))))))) = some (r1, r2, r3) := y_ H
 have Ny120 := Aside0.mk hy120
 clear hy120
 replace H := Option.bind_eq_some_iff.mp H
 obtain ⟨⟨t123, t124, t125⟩, A60, H⟩ := H
 replace H : ((spec_l01Next.f t102 t124 t125 4).bind fun bt126 => (if bt126.1 = 0 then ((spec_GreedyCode.f k t106 (mx (mn t123 8) 1)).bind fun bt129 => ((spec_l01Bad.f k t102 bt126.2.1 bt126.2.2 t106).bind fun bt133 => ((spec_l01BadCode.f k t102 bt133.2.1 bt133.2.2 t106 bt129.1).bind fun bt138 => (some (bt133.1, bt138.1, t123))))) else ((spec_l01Bad.f k t102 bt126.2.1 bt126.2.2 t106).bind fun bt143 => ((spec_l01BadCode.f k t102 bt143.2.1 bt143.2.2 t106 t112).bind fun bt148 => (some (bt143.1, bt148.1, t123)))))) = some (r1, r2, r3) := H
 have A6 := Aside0.mk A60
 clear A60
 replace H := Option.bind_eq_some_iff.mp H
 obtain ⟨⟨t126, t127, t128⟩, A70, H⟩ := H
 replace H : (if t126 = 0 then ((spec_GreedyCode.f k t106 (mx (mn t123 8) 1)).bind fun bt129 => ((spec_l01Bad.f k t102 t127 t128 t106).bind fun bt133 => ((spec_l01BadCode.f k t102 bt133.2.1 bt133.2.2 t106 bt129.1).bind fun bt138 => (some (bt133.1, bt138.1, t123))))) else ((spec_l01Bad.f k t102 t127 t128 t106).bind fun bt143 => ((spec_l01BadCode.f k t102 bt143.2.1 bt143.2.2 t106 t112).bind fun bt148 => (some (bt143.1, bt148.1, t123))))) = some (r1, r2, r3) := H
 have A7 := Aside0.mk A70
 clear A70
 by_cases c8 : t126 = 0
 rotate_left
 ·rw [if_neg c8] at H
  have c8b0 : (t126 == 0) = false := beq_eq_false_iff_ne.mpr c8
  have c8b1 : (t126 != 0) = true := bne_iff_ne.mpr c8
  replace H := Option.bind_eq_some_iff.mp H
  obtain ⟨⟨t143, t146, t147⟩, A370, H⟩ := H
  replace H : ((spec_l01BadCode.f k t102 t146 t147 t106 t112).bind fun bt148 => (some (t143, bt148.1, t123))) = some (r1, r2, r3) := H
  have A37 := Aside0.mk A370
  clear A370
  replace H := Option.bind_eq_some_iff.mp H
  obtain ⟨⟨t148, t151, t152⟩, A380, H⟩ := H
  replace H : (some (t143, t148, t123)) = some (r1, r2, r3) := H
  have A38 := Aside0.mk A380
  clear A380
  simp only [Option.some.injEq, Prod.mk.injEq] at H
  obtain ⟨rfl, rfl, rfl⟩ := H
  go_enter Try.func97, Try.ntmps97
  try go_wp2_with (first | ((with_reducible refine gate_dst (N := 2) rfl ?_); refine bx_ (N := 2) (cs := #[.slice none 0 0]) (t := 26) rfl rfl ?_; intro gb101 hg w39 hbox hb; have n0_ := b1_ HB hb; have n1_ := Aside0.mk (hbox); have n2_ := ge_ hg HB; have n3_ := ge_ hg HB; clear HB; have HB := n0_; have BK101 := n1_; have GW101 := n2_; have GE101 := n3_; clear n0_ n1_ n2_ n3_ hb hbox hg) | ((with_reducible refine gate_callee (f := 78) rfl ?_); refine gl_ (some 10) rfl rfl Try.func78 #[.slice A0 l0.length c0] rfl ?_; (with_reducible refine (spec_l01From.calls k _ _ l0 t102 t103 t104 w _ ?side1 ?side2 ?side3 A2.out).mono ?_); (case side1 => exact gb_ HB.out); (case side2 => exact HR0.out); (case side3 => exact HC0.out); rintro e w40 ⟨g105, rfl, hi, hb, hb2⟩; refine ⟨_, rfl, ?_⟩; replace HB := Aside0.mk (hb); have HI105 := Aside0.mk (hi); have NB105_101 := Aside0.mk (IsS91.ne_blk hi (blk_below (g := gb101) (o := .cells #[.slice none 0 0] 26 (0, 0)) (bb_ BK101.out) hb2) (by decide)); have NB101_105 := Aside0.mk (Ne.symm (IsS91.ne_blk hi (blk_below (g := gb101) (o := .cells #[.slice none 0 0] 26 (0, 0)) (bb_ BK101.out) hb2) (by decide))); replace BK101 := Aside0.mk (blk_below (g := gb101) (o := .cells #[.slice none 0 0] 26 (0, 0)) (bb_ BK101.out) hb2); (try clear hb); (try clear hb2); (try clear hk); (try clear hi)) | ((with_reducible refine gate_callee (f := 120) rfl ?_); refine gl_ (some 12) rfl rfl Try.func120 #[.pointer (some ⟨g105, 0, none⟩)] rfl ?_; (with_reducible refine (spec_l01Small.calls k g105 t102 t103 t104 t106 t109 t110 w _ ?side1 ?side2 A3.out).mono ?_); (case side1 => exact i_ HI105); (case side2 => exact gb_ HB.out); rintro e w41 ⟨v107, rfl, ho0, hi, hb, hk⟩; refine ⟨_, rfl, ?_⟩; replace BK101 := kx_ BK101 NB101_105 hk; have HO108 := Aside0.mk (Kd.R_lower ho0 (below_size (gb_ HB.out))); replace HB := Aside0.mk (hb); replace HI105 := Aside0.mk (hi); (try clear hb); (try clear hb2); (try clear hk); (try clear hi); (try clear ho0)) | ((with_reducible refine gate_dst (N := 6) rfl ?_); refine bx_ (N := 6) (cs := #[.slice none 0 0]) (t := 26) rfl rfl ?_; intro gb111 hg w42 hbox hb; have n0_ := a1_ HO108 hb; have n1_ := a2_ BK101 hb; have n2_ := i1_ HI105 hb; have n3_ := b1_ HB hb; have n4_ := Aside0.mk (hbox); have n5_ := ge_ hg HB; have n6_ := ge_ hg HB; have n7_ := nl_ hg BK101; have n8_ := nr_ hg BK101; have n9_ := il_ hg HI105; have n10_ := ir_ hg HI105; clear HO108 BK101 HI105 HB; have HO108 := n0_; have BK101 := n1_; have HI105 := n2_; have HB := n3_; have BK111 := n4_; have GW111 := n5_; have GE111 := n6_; have NB101_111 := n7_; have NB111_101 := n8_; have NB105_111 := n9_; have NB111_105 := n10_; clear n0_ n1_ n2_ n3_ n4_ n5_ n6_ n7_ n8_ n9_ n10_ hb hbox hg; obtain ⟨Ao43, co43, eo43⟩ := Kd.R_slice HO108.out; subst eo43; have hnb44 := NB111_101.out; have hnc44 := NB101_111.out; have hnb45 := NB111_105.out; have hnc45 := NB105_111.out; have hcz46_0 := hz_ BK111; have hfz46_0 := blk_frozen BK111.out 0) | ((with_reducible refine gate_callee (f := 121) rfl ?_); refine gl_ (some 15) rfl rfl Try.func121 #[.pointer (some ⟨g105, 0, none⟩), .agg #[.slice Ao43 t106.length co43]] rfl ?_; (with_reducible refine (spec_l01DrawCode.calls k g105 t102 t109 t110 _ _ t106 t112 t115 t116 w _ ?side1 ?side2 ?side3 ?side4 ?side5 A4.out).mono ?_); (case side1 => exact i_ HI105); (case side2 => exact gb_ HB.out); (case side3 => refine (Kd.R_reads' (e := 2) (base := w.heap.size) (ok := fun _ => True) (n := t106.length) (c := co43) ?_).2.2; exact (rb_ (Kd.R_mono (Kd.R_far (p := ⟨gb111, 0, none⟩) (Kd.R_types HO108.out BK111.out (by decide)) (fun _ hk => hk.2) (.slice Ao43 t106.length co43)) (fun _ _ => trivial)))); (case side4 => exact (Kd.R_reads' HO108.out).2.1); (case side5 => exact far_slice (IsS91.own_ne HI105.out HO108.out (by decide))); rintro e w47 ⟨v113, rfl, ho0, hi, hb, hk⟩; refine ⟨_, rfl, ?_⟩; replace BK101 := Aside0.mk (KeepBut.blk hk (g' := gb101) (o := .cells #[.slice none 0 0] 26 (0, 0)) (by (with_reducible repeat (first | refine blk_drewN ?_ _ | refine blk_drew ?_ | refine blk_alloc ?_ _)); refine blk_far ?_ NB101_111.out _; (with_reducible repeat (first | refine blk_drewN ?_ _ | refine blk_drew ?_ | refine blk_alloc ?_ _)); exact BK101.out) NB101_105.out (by simp)); have HO114 := Aside0.mk (Kd.R_lower (Kd.R_new' ho0 (Kd.R_lt (rb_ (Kd.R_mono (Kd.R_far (p := ⟨gb111, 0, none⟩) (Kd.R_types HO108.out BK111.out (by decide)) (fun _ hk => hk.2) (.slice Ao43 t106.length co43)) (fun _ h_ => h_.1))))) (below_size (gb_ HB.out))); replace HO108 := Aside0.mk (Kd.R_mono (Kd.R_told (Kd.R_oldK (IsS91.apart (show IsS91 w _ g105 t102 t109 t110 from i_ HI105) (rb_ (Kd.R_mono (Kd.R_far (p := ⟨gb111, 0, none⟩) (Kd.R_types HO108.out BK111.out (by decide)) (fun _ hk => hk.2) (.slice Ao43 t106.length co43)) (fun _ h_ => h_.1))) (by decide)) hk) (Kd.R_base ho0)) (fun _ h_ => h_.1)); replace BK111 := Aside0.mk (KeepBut.blk hk (g' := gb111) (o := .cells #[.slice Ao43 t106.length co43] 26 (0, 0)) (by (with_reducible repeat (first | refine blk_drewN ?_ _ | refine blk_drew ?_ | refine blk_alloc ?_ _)); refine blk_put (cs := #[.slice none 0 0]) ?_ 0 _ rfl; (with_reducible repeat (first | refine blk_drewN ?_ _ | refine blk_drew ?_ | refine blk_alloc ?_ _)); exact BK111.out) NB111_105.out (by simp)); replace HB := Aside0.mk (hb); replace HI105 := Aside0.mk (hi); (try clear hb); (try clear hb2); (try clear hk); (try clear hi); (try clear ho0)) | ((with_reducible refine gate_callee (f := 80) rfl ?_); refine gl_ (some 18) rfl rfl Try.func80 #[.pointer (some ⟨g105, 0, none⟩), .int .i64 8] rfl ?_; (with_reducible refine (spec_l01Near.calls g105 t102 t115 t116 8 t117 t118 t119 w _ ?side1 ?side2 A5.out).mono ?_); (case side1 => exact i_ HI105); (case side2 => exact gb_ HB.out); rintro e w48 ⟨rfl, hi, hb, hk⟩; refine ⟨_, rfl, ?_⟩; replace BK101 := kx_ BK101 NB101_105 hk; replace HO108 := kr_ HI105 HO108 hk; replace BK111 := kx_ BK111 NB111_105 hk; replace HO114 := kr_ HI105 HO114 hk; replace HB := Aside0.mk (hb); replace HI105 := Aside0.mk (hi); (try clear hb); (try clear hb2); (try clear hk); (try clear hi)) | ((with_reducible refine gate_dst (N := 19) rfl ?_); refine Kd.R_lit (Kd.int .i64) _ 2 ?hg (N := 19) ?hd (xs := ([0, 1, 1, 1, 2, t117] : List Int)) (inner := [.int .i64 0, .int .i64 1, .int .i64 1, .int .i64 1, .int .i64 2, .int .i64 t117]) (ok := fun _ => True) (okp := fun _ => True) ?hr ?hp (fun _ hk => hk) trivial (Below.refl _ _) (Nat.le_refl _) (by simp) ?_; (case hd => rfl); (case hg => rfl); (case hr => exact t3_); (case hp => exact (Reps.one (show Kd.M (Kd.int .i64) _ _ _ 0 [.int .i64 0] from rfl) (Reps.one (show Kd.M (Kd.int .i64) _ _ _ 1 [.int .i64 1] from rfl) (Reps.one (show Kd.M (Kd.int .i64) _ _ _ 1 [.int .i64 1] from rfl) (Reps.one (show Kd.M (Kd.int .i64) _ _ _ 1 [.int .i64 1] from rfl) (Reps.one (show Kd.M (Kd.int .i64) _ _ _ 2 [.int .i64 2] from rfl) (Reps.one (show Kd.M (Kd.int .i64) _ _ _ t117 [.int .i64 t117] from rfl) (Reps.none _ _)))))))); intro v121 w49 ho50 hb hg_ hnew_; clear hg_ hnew_; (first | rw [← Ny120.out] at ho50 | (simp only [Int.reduceToNat] at ho50; rw [← Ny120.out] at ho50)); have n0_ := a5_ HO108 ho50 hb; have n1_ := a5_ HO114 ho50 hb; have n2_ := Aside0.mk (Kd.R_lower (Kd.R_new' (Kd.R_new' ho50 (Kd.R_lt (rb_ HO108.out))) (Kd.R_lt (rb_ HO114.out))) (below_size (gb_ HB.out))); have n3_ := a2_ BK101 hb; have n4_ := i1_ HI105 hb; have n5_ := a2_ BK111 hb; have n6_ := b1_ HB hb; clear HO108 HO114 BK101 HI105 BK111 HB; have HO108 := n0_; have HO114 := n1_; have HO122 := n2_; have BK101 := n3_; have HI105 := n4_; have BK111 := n5_; have HB := n6_; clear n0_ n1_ n2_ n3_ n4_ n5_ n6_ hb ho50; obtain ⟨Ao51, co51, eo51⟩ := Kd.R_slice HO122.out; subst eo51) | ((with_reducible refine gate_callee (f := 82) rfl ?_); refine gl_ (some 20) rfl rfl Try.func82 #[.pointer (some ⟨g105, 0, none⟩), .slice Ao51 y120.length co51] rfl ?_; (with_reducible refine (spec_l01Pick.calls g105 t102 t118 t119 _ _ y120 t123 t124 t125 w _ ?side1 ?side2 ?side3 ?side4 ?side5 A6.out).mono ?_); (case side1 => exact i_ HI105); (case side2 => exact gb_ HB.out); (case side3 => exact c1_ HO122); (case side4 => exact (Kd.R_reads' HO122.out).2.1); (case side5 => exact far_slice (IsS91.own_ne HI105.out HO122.out (by decide))); rintro e w52 ⟨rfl, hi, hb, hk⟩; refine ⟨_, rfl, ?_⟩; replace BK101 := kx_ BK101 NB101_105 hk; replace HO108 := kr_ HI105 HO108 hk; replace BK111 := kx_ BK111 NB111_105 hk; replace HO114 := kr_ HI105 HO114 hk; replace HO122 := kr_ HI105 HO122 hk; replace HB := Aside0.mk (hb); replace HI105 := Aside0.mk (hi); (try clear hb); (try clear hb2); (try clear hk); (try clear hi)) | ((with_reducible refine gate_callee (f := 85) rfl ?_); refine gl_ (some 22) rfl rfl Try.func85 #[.pointer (some ⟨g105, 0, none⟩), .int .i64 4] rfl ?_; (with_reducible refine (spec_l01Next.calls g105 t102 t124 t125 4 t126 t127 t128 w _ ?side1 ?side2 A7.out).mono ?_); (case side1 => exact i_ HI105); (case side2 => exact gb_ HB.out); rintro e w53 ⟨rfl, hi, hb, hk⟩; refine ⟨_, rfl, ?_⟩; replace BK101 := kx_ BK101 NB101_105 hk; replace HO108 := kr_ HI105 HO108 hk; replace BK111 := kx_ BK111 NB111_105 hk; replace HO114 := kr_ HI105 HO114 hk; replace HO122 := kr_ HI105 HO122 hk; replace HB := Aside0.mk (hb); replace HI105 := Aside0.mk (hi); (try clear hb); (try clear hb2); (try clear hk); (try clear hi)))
  replace HO108 := Aside0.mk (Kd.R_drew HO108.out)
  replace HO114 := Aside0.mk (Kd.R_drew HO114.out)
  replace HO122 := Aside0.mk (Kd.R_drew HO122.out)
  replace BK101 := Aside0.mk (blk_drew BK101.out)
  replace BK111 := Aside0.mk (blk_drew BK111.out)
  replace HI105 := Aside0.mk (IsS91.drew HI105.out)
  replace HB := Aside0.mk (below_drew1 HB.out)
  refine start_ (n := 11) (S := fun w' => w'.cell? ⟨gb111, 0, none⟩ = some (.slice Ao43 t106.length co43)) (ds := []) #[false, false, false, false, false, false, false, false, false, false, false] (by kernel_rfl) rfl rfl ((blk_cell BK111.out 0).trans rfl) (fun hHeld => ?_); refine with_tabW spec_l02With.tab7 spec_l02With.bits7 (fun HT_ HW_ => ?_)
  generalize w53.drew = w54 at HO108 HO114 HO122 BK101 BK111 HI105 HB hHeld ⊢
  refine pu_ (i := 0) (N := some 32) (v := ?_) (a' := ?_) #[true, false, false, false, false, false, false, false, false, false, false] rfl rfl HT_ (Or.inl ⟨by rfl, ?_⟩) ?_ ?_
  rotate_left
  ·exact t7_
  rotate_left
  ·exact t4_
  refine pu_ (i := 3) (N := some 35) (v := ?_) (a' := ?_) #[true, false, false, true, false, false, false, false, false, false, false] rfl rfl HT_ (Or.inl ⟨by rfl, ?_⟩) ?_ ?_
  rotate_left
  ·exact t7_
  rotate_left
  ·exact t4_
  refine pu_ (i := 5) (N := some 37) (v := ?_) (a' := ?_) #[true, false, false, true, false, true, false, false, false, false, false] rfl rfl HT_ (Or.inl ⟨by rfl, ?_⟩) ?_ ?_
  rotate_left
  ·exact t7_
  rotate_left
  ·exact t4_
  refine pu_ (i := 7) (N := some 39) (v := ?_) (a' := ?_) #[true, false, false, true, false, true, false, true, false, false, false] rfl rfl HT_ (Or.inl ⟨by rfl, ?_⟩) ?_ ?_
  rotate_left
  ·exact t7_
  rotate_left
  ·exact t4_
  refine tk_ (i := 1) (N := some 33) (v := ?_) (a' := ?_) #[true, true, false, true, false, true, false, true, false, false, false] rfl rfl HT_ HW_ (Or.inl ⟨by rfl, ?_⟩) hHeld ?_ ?_
  rotate_left
  ·intro w' s0
   go_simp
   with_reducible rfl
  rotate_left
  ·exact t4_
  refine tk_ (i := 4) (N := some 36) (v := ?_) (a' := ?_) #[true, true, false, true, true, true, false, true, false, false, false] rfl rfl HT_ HW_ (Or.inl ⟨by rfl, ?_⟩) hHeld ?_ ?_
  rotate_left
  ·intro w' s0
   go_simp
   with_reducible rfl
  rotate_left
  ·exact t4_
  refine on_ (i := 2) (N := some 34) #[true, true, true, true, true, true, false, true, false, false, false] rfl rfl HT_ (fun K hK => ?_)
  refine goes_ Try.func81 (by kernel_rfl) rfl #[.pointer (some ⟨g105, 0, none⟩), .agg #[.slice Ao43 t106.length co43]] (by rfl) rfl rfl t1_ ?_
  with_reducible refine (spec_l01Bad.callsK k g105 t102 t127 t128 (fun k_ => some k_ = (.slice Ao43 t106.length co43 : Value).ownBlock) (.slice Ao43 t106.length co43) t106 t143 t146 t147 w _ ?side1 ?side2 ?side3 A37.out).mono ?_
  (case side1 => exact i_ HI105)
  (case side2 => exact gb_ HB.out)
  (case side3 => exact Kd.R_tight rfl HO108.out)
  rintro e w55 ⟨v144, rfl, ho0, hi, hb, hkp, hkq⟩
  have gone := Aside0.mk (Kd.R_keptB (IsS91.apart HI105.out HO108.out (by decide)) hkq (fun k_ hk_ e_ => hk_.2 e_))
  clear hkq
  refine ⟨_, rfl, ?_⟩
  have n0_ := Aside0.mk (blk_kept (bb_ BK101.out) hkp (fun hs_ => Or.elim hs_ (fun hs_ => (fun e_ => (Kd.R_ne HO108.out BK101.out (by decide)) e_) hs_) (fun e_ => NB101_105.out e_)))
  have n1_ := Aside0.mk (hi)
  have n2_ := Aside0.mk (blk_kept (bb_ BK111.out) hkp (fun hs_ => Or.elim hs_ (fun hs_ => (fun e_ => (Kd.R_ne HO108.out BK111.out (by decide)) e_) hs_) (fun e_ => NB111_105.out e_)))
  have n3_ := Aside0.mk (Kd.R_mono (ok' := fun k_ => OB_ k_ (.slice Ao51 y120.length co51) ∧ OB_ k_ v144) (Kd.R_keptB ((IsS91.apart HI105.out HO114.out (by decide))) hkp (fun k_ hk_ hs_ => Or.elim hs_ (fun hs_ => (hk_.1.1.2) hs_) (fun e_ => (hk_.2) e_))) (fun k_ hk_ => ⟨hk_.1.1.2, fun e_ => Or.elim (ho0.1 k_ e_.symm) (fun hs_ => hk_.2.1 (.inl hs_)) (fun hn_ => Nat.not_le.2 hk_.2.2 hn_)⟩))
  have n4_ := Aside0.mk (Kd.R_mono (ok' := fun k_ => OB_ k_ v113 ∧ OB_ k_ v144) (Kd.R_keptB ((IsS91.apart HI105.out HO122.out (by decide))) hkp (fun k_ hk_ hs_ => Or.elim hs_ (fun hs_ => (hk_.1.1.2) hs_) (fun e_ => (hk_.2) e_))) (fun k_ hk_ => ⟨hk_.1.1.2, fun e_ => Or.elim (ho0.1 k_ e_.symm) (fun hs_ => hk_.2.1 (.inl hs_)) (fun hn_ => Nat.not_le.2 hk_.2.2 hn_)⟩))
  have n5_ := Aside0.mk (Kd.R_mono (ok' := fun k_ => OB_ k_ v113 ∧ OB_ k_ (.slice Ao51 y120.length co51)) ho0 (fun k_ hk_ => ⟨Or.elim hk_ (fun hs_ => fun e_ => ((((IsS91.apart HI105.out HO114.out (by decide))).1 k_ e_.symm).1.1.2) hs_) (fun hn_ => (Kd.fresh' (Kd.R_lt (rb_ HO114.out)) k_ hn_)), Or.elim hk_ (fun hs_ => fun e_ => ((((IsS91.apart HI105.out HO122.out (by decide))).1 k_ e_.symm).1.1.2) hs_) (fun hn_ => (Kd.fresh' (Kd.R_lt (rb_ HO122.out)) k_ hn_))⟩))
  have n6_ := Aside0.mk (hb)
  clear BK101 HI105 BK111 HO114 HO122 HB HO108
  have BK101 := n0_
  have HI105 := n1_
  have BK111 := n2_
  have HO114 := n3_
  have HO122 := n4_
  have HO145 := n5_
  have HB := n6_
  clear n0_ n1_ n2_ n3_ n4_ n5_ n6_
  (try clear hb)
  (try clear hkp)
  (try clear ho0)
  obtain ⟨Ao56, co56, eo56⟩ := Kd.R_slice HO114.out
  (first | subst eo56 | (injection eo56 with f1_ f2_ f3_; have f4_ := f1_.symm; have f5_ := f3_.symm; clear f1_ f2_ f3_; subst f4_; subst f5_))
  refine hK.out _ _ ((blk_cell BK111.out 0).trans rfl) (fun hHeld => ?_)
  clear hK K
  refine norm_ (a' := ?_) ?_ ?_
  rotate_left
  ·show Act.put _ (some 34) _ = _
   simp only [Act.put, List.setIfInBounds_toArray, List.set_cons_zero, List.set_cons_succ, i64_w, i32_w]
   rfl
  refine on_ (i := 6) (N := some 38) #[true, true, true, true, true, true, true, true, false, false, false] rfl rfl HT_ (fun K hK => ?_)
  refine goes_ Try.func123 (by kernel_rfl) rfl #[.pointer (some ⟨g105, 0, none⟩), .agg #[.slice Ao43 t106.length co43], .slice Ao56 t112.length co56] (by rfl) rfl rfl t1_ ?_
  with_reducible refine (spec_l01BadCode.calls k g105 t102 t146 t147 _ _ t106 _ _ t112 t148 t151 t152 w _ ?side1 ?side2 ?side3 ?side4 ?side5 ?side6 ?side7 ?side8 A38.out).mono ?_
  (case side1 => exact i_ HI105)
  (case side2 => exact gb_ HB.out)
  (case side3 => exact c1_ gone)
  (case side4 => exact (Kd.R_reads' gone.out).2.1)
  (case side5 => exact far_slice (IsS91.own_ne HI105.out gone.out (by decide)))
  (case side6 => exact c1_ HO114)
  (case side7 => exact (Kd.R_reads' HO114.out).2.1)
  (case side8 => exact far_slice (IsS91.own_ne HI105.out HO114.out (by decide)))
  rintro e w57 ⟨v149, rfl, ho0, hi, hb, hk⟩
  refine ⟨_, rfl, ?_⟩
  replace BK101 := kx_ BK101 NB101_105 hk
  replace BK111 := kx_ BK111 NB111_105 hk
  have HO150 := Aside0.mk (Kd.R_lower (Kd.R_new' (Kd.R_new' (Kd.R_new' ho0 (Kd.R_lt (rb_ HO114.out))) (Kd.R_lt (rb_ HO122.out))) (Kd.R_lt (rb_ HO145.out))) (below_size (gb_ HB.out)))
  replace HO114 := Aside0.mk (Kd.R_mono (Kd.R_told (Kd.R_oldK (IsS91.apart (show IsS91 w _ g105 t102 t146 t147 from i_ HI105) (rb_ HO114.out) (by decide)) hk) (Kd.R_base ho0)) (fun _ h_ => h_.1))
  replace HO122 := Aside0.mk (Kd.R_mono (Kd.R_told (Kd.R_oldK (IsS91.apart (show IsS91 w _ g105 t102 t146 t147 from i_ HI105) (rb_ HO122.out) (by decide)) hk) (Kd.R_base ho0)) (fun _ h_ => h_.1))
  replace HO145 := Aside0.mk (Kd.R_mono (Kd.R_told (Kd.R_oldK (IsS91.apart (show IsS91 w _ g105 t102 t146 t147 from i_ HI105) (rb_ HO145.out) (by decide)) hk) (Kd.R_base ho0)) (fun _ h_ => h_.1))
  replace HB := Aside0.mk (hb)
  replace HI105 := Aside0.mk (hi)
  (try clear hb)
  (try clear hb2)
  (try clear hk)
  (try clear hi)
  (try clear ho0)
  obtain ⟨Ao58, co58, eo58⟩ := Kd.R_slice HO145.out
  (first | subst eo58 | (injection eo58 with f1_ f2_ f3_; have f4_ := f1_.symm; have f5_ := f3_.symm; clear f1_ f2_ f3_; subst f4_; subst f5_))
  refine hK.out _ _ ((blk_cell BK111.out 0).trans rfl) (fun hHeld => ?_)
  clear hK K
  refine norm_ (a' := ?_) ?_ ?_
  rotate_left
  ·show Act.put _ (some 38) _ = _
   simp only [Act.put, List.setIfInBounds_toArray, List.set_cons_zero, List.set_cons_succ, i64_w, i32_w]
   rfl
  refine on_ (i := 8) (N := none) #[true, true, true, true, true, true, true, true, true, false, false] rfl rfl HT_ (fun K hK => ?_)
  have hs59 : w57.cell? ⟨gb101, 0, none⟩ = some (.slice none 0 0) := (blk_cell BK101.out 0).trans rfl
  have hfs59 := blk_frozen BK101.out 0
  have hns59_1 := NB111_101.out
  have hms59_1 := NB101_111.out
  refine skip_ (w1 := ?_) (by rfl) rfl ?_ ?_
  rotate_left
  ·go_simp
   rfl
  refine hK.out _ _ (((cell_far (p := ⟨gb101, _, none⟩) NB111_101.out _).trans (hHeld))) (fun hHeld => ?_)
  clear hK K
  refine pu_ (i := 9) (N := some 3) (v := ?_) (a' := ?_) #[true, true, true, true, true, true, true, true, true, true, false] rfl rfl HT_ (Or.inl ⟨by rfl, ?_⟩) ?_ ?_
  rotate_left
  ·exact t7_
  rotate_left
  ·exact t4_
  refine pu_ (i := 10) (N := some 4) (v := ?_) (a' := ?_) #[true, true, true, true, true, true, true, true, true, true, true] rfl rfl HT_ (Or.inl ⟨by rfl, ?_⟩) ?_ ?_
  rotate_left
  ·exact t7_
  rotate_left
  ·exact t4_
  refine done_ (done_of HT_.out (by kernel_rfl)) ?_
  try go_wp2
  refine bodyPost_ret (results_ctt rfl _ _ gb101 26 #[.slice Ao58 t143.length co58] (0, 0) _ rfl (by (with_reducible repeat (first | refine blk_drewN ?_ _ | refine blk_drew ?_ | refine blk_alloc ?_ _)); refine blk_put (cs := #[.slice none 0 0]) ?_ 0 _ rfl; (with_reducible repeat (first | refine blk_drewN ?_ _ | refine blk_drew ?_ | refine blk_alloc ?_ _)); exact BK101.out) Try.underlying26 rfl (by kernel_rfl)) rfl ?_
  exact ⟨_, _, t5_, by (with_reducible repeat (first | apply Kd.R_alloc | apply Kd.R_drewN | apply Kd.R_drew)); exact Kd.R_mono (Kd.R_far (p := ⟨gb101, 0, none⟩) (Kd.R_types HO145.out BK101.out (by decide)) (fun _ hk => hk.2) (.slice Ao58 t143.length co58)) (fun _ hk => hk.1.2), by (with_reducible repeat (first | apply Kd.R_alloc | apply Kd.R_drewN | apply Kd.R_drew)); exact Kd.R_mono (Kd.R_far (p := ⟨gb101, 0, none⟩) (Kd.R_types HO150.out BK101.out (by decide)) (fun _ hk => hk.2) (.slice Ao58 t143.length co58)) (fun _ hk => hk.1.2), gb_ HB.out⟩

 rw [if_pos c8] at H
 have c8b0 : (t126 == 0) = true := beq_iff_eq.mpr c8
 have c8b1 : (t126 != 0) = false := bne_eq_false_iff_eq.mpr c8
 clear c8
 obtain ⟨ji9, hji9⟩ : ∃ j_ : Int, (mn t123 8) = j_ := ⟨_, rfl⟩
 replace H : ((spec_GreedyCode.f k t106 (mx (ji9) 1)).bind fun bt129 => ((spec_l01Bad.f k t102 t127 t128 t106).bind fun bt133 => ((spec_l01BadCode.f k t102 bt133.2.1 bt133.2.2 t106 bt129.1).bind fun bt138 => (some (bt133.1, bt138.1, t123))))) = some (r1, r2, r3) := by first | (rw [hji9] at H; exact H) | (simp only [hji9] at H ⊢; exact H)
 (try rw [hji9] at A2)
 (try rw [hji9] at A3)
 (try rw [hji9] at A4)
 (try rw [hji9] at A5)
 (try rw [hji9] at A6)
 (try rw [hji9] at A7)
 (try (have hji9h : ji9 ≤ 8 := by (rw [← hji9]; unfold mn; (repeat' split) <;> omega)))
 (try (have hji9g : ji9 ≤ 64 := by omega))
 have hji9_ : (if 8 < t123 then 8 else t123) = ji9 := hji9
 obtain ⟨ji10, hji10⟩ : ∃ j_ : Int, (mx (ji9) 1) = j_ := ⟨_, rfl⟩
 replace H : ((spec_GreedyCode.f k t106 (ji10)).bind fun bt129 => ((spec_l01Bad.f k t102 t127 t128 t106).bind fun bt133 => ((spec_l01BadCode.f k t102 bt133.2.1 bt133.2.2 t106 bt129.1).bind fun bt138 => (some (bt133.1, bt138.1, t123))))) = some (r1, r2, r3) := by first | (rw [hji10] at H; exact H) | (simp only [hji10] at H ⊢; exact H)
 (try rw [hji10] at A2)
 (try rw [hji10] at A3)
 (try rw [hji10] at A4)
 (try rw [hji10] at A5)
 (try rw [hji10] at A6)
 (try rw [hji10] at A7)
 have hji10_ : (if (ji9) < 1 then 1 else (ji9)) = ji10 := hji10
 replace H := Option.bind_eq_some_iff.mp H
 obtain ⟨⟨t129, t132⟩, A110, H⟩ := H
 replace H : ((spec_l01Bad.f k t102 t127 t128 t106).bind fun bt133 => ((spec_l01BadCode.f k t102 bt133.2.1 bt133.2.2 t106 t129).bind fun bt138 => (some (bt133.1, bt138.1, t123)))) = some (r1, r2, r3) := H
 have A11 := Aside0.mk A110
 clear A110
 replace H := Option.bind_eq_some_iff.mp H
 obtain ⟨⟨t133, t136, t137⟩, A120, H⟩ := H
 replace H : ((spec_l01BadCode.f k t102 t136 t137 t106 t129).bind fun bt138 => (some (t133, bt138.1, t123))) = some (r1, r2, r3) := H
 have A12 := Aside0.mk A120
 clear A120
 replace H := Option.bind_eq_some_iff.mp H
 obtain ⟨⟨t138, t141, t142⟩, A130, H⟩ := H
 replace H : (some (t133, t138, t123)) = some (r1, r2, r3) := H
 have A13 := Aside0.mk A130
 clear A130
 simp only [Option.some.injEq, Prod.mk.injEq] at H
 obtain ⟨rfl, rfl, rfl⟩ := H
 go_enter Try.func97, Try.ntmps97
 try go_wp2_with (first | ((with_reducible refine gate_dst (N := 2) rfl ?_); refine bx_ (N := 2) (cs := #[.slice none 0 0]) (t := 26) rfl rfl ?_; intro gb101 hg w14 hbox hb; have n0_ := b1_ HB hb; have n1_ := Aside0.mk (hbox); have n2_ := ge_ hg HB; have n3_ := ge_ hg HB; clear HB; have HB := n0_; have BK101 := n1_; have GW101 := n2_; have GE101 := n3_; clear n0_ n1_ n2_ n3_ hb hbox hg) | ((with_reducible refine gate_callee (f := 78) rfl ?_); refine gl_ (some 10) rfl rfl Try.func78 #[.slice A0 l0.length c0] rfl ?_; (with_reducible refine (spec_l01From.calls k _ _ l0 t102 t103 t104 w _ ?side1 ?side2 ?side3 A2.out).mono ?_); (case side1 => exact gb_ HB.out); (case side2 => exact HR0.out); (case side3 => exact HC0.out); rintro e w15 ⟨g105, rfl, hi, hb, hb2⟩; refine ⟨_, rfl, ?_⟩; replace HB := Aside0.mk (hb); have HI105 := Aside0.mk (hi); have NB105_101 := Aside0.mk (IsS91.ne_blk hi (blk_below (g := gb101) (o := .cells #[.slice none 0 0] 26 (0, 0)) (bb_ BK101.out) hb2) (by decide)); have NB101_105 := Aside0.mk (Ne.symm (IsS91.ne_blk hi (blk_below (g := gb101) (o := .cells #[.slice none 0 0] 26 (0, 0)) (bb_ BK101.out) hb2) (by decide))); replace BK101 := Aside0.mk (blk_below (g := gb101) (o := .cells #[.slice none 0 0] 26 (0, 0)) (bb_ BK101.out) hb2); (try clear hb); (try clear hb2); (try clear hk); (try clear hi)) | ((with_reducible refine gate_callee (f := 120) rfl ?_); refine gl_ (some 12) rfl rfl Try.func120 #[.pointer (some ⟨g105, 0, none⟩)] rfl ?_; (with_reducible refine (spec_l01Small.calls k g105 t102 t103 t104 t106 t109 t110 w _ ?side1 ?side2 A3.out).mono ?_); (case side1 => exact i_ HI105); (case side2 => exact gb_ HB.out); rintro e w16 ⟨v107, rfl, ho0, hi, hb, hk⟩; refine ⟨_, rfl, ?_⟩; replace BK101 := kx_ BK101 NB101_105 hk; have HO108 := Aside0.mk (Kd.R_lower ho0 (below_size (gb_ HB.out))); replace HB := Aside0.mk (hb); replace HI105 := Aside0.mk (hi); (try clear hb); (try clear hb2); (try clear hk); (try clear hi); (try clear ho0)) | ((with_reducible refine gate_dst (N := 6) rfl ?_); refine bx_ (N := 6) (cs := #[.slice none 0 0]) (t := 26) rfl rfl ?_; intro gb111 hg w17 hbox hb; have n0_ := a1_ HO108 hb; have n1_ := a2_ BK101 hb; have n2_ := i1_ HI105 hb; have n3_ := b1_ HB hb; have n4_ := Aside0.mk (hbox); have n5_ := ge_ hg HB; have n6_ := ge_ hg HB; have n7_ := nl_ hg BK101; have n8_ := nr_ hg BK101; have n9_ := il_ hg HI105; have n10_ := ir_ hg HI105; clear HO108 BK101 HI105 HB; have HO108 := n0_; have BK101 := n1_; have HI105 := n2_; have HB := n3_; have BK111 := n4_; have GW111 := n5_; have GE111 := n6_; have NB101_111 := n7_; have NB111_101 := n8_; have NB105_111 := n9_; have NB111_105 := n10_; clear n0_ n1_ n2_ n3_ n4_ n5_ n6_ n7_ n8_ n9_ n10_ hb hbox hg; obtain ⟨Ao18, co18, eo18⟩ := Kd.R_slice HO108.out; subst eo18; have hnb19 := NB111_101.out; have hnc19 := NB101_111.out; have hnb20 := NB111_105.out; have hnc20 := NB105_111.out; have hcz21_0 := hz_ BK111; have hfz21_0 := blk_frozen BK111.out 0) | ((with_reducible refine gate_callee (f := 121) rfl ?_); refine gl_ (some 15) rfl rfl Try.func121 #[.pointer (some ⟨g105, 0, none⟩), .agg #[.slice Ao18 t106.length co18]] rfl ?_; (with_reducible refine (spec_l01DrawCode.calls k g105 t102 t109 t110 _ _ t106 t112 t115 t116 w _ ?side1 ?side2 ?side3 ?side4 ?side5 A4.out).mono ?_); (case side1 => exact i_ HI105); (case side2 => exact gb_ HB.out); (case side3 => refine (Kd.R_reads' (e := 2) (base := w.heap.size) (ok := fun _ => True) (n := t106.length) (c := co18) ?_).2.2; exact (rb_ (Kd.R_mono (Kd.R_far (p := ⟨gb111, 0, none⟩) (Kd.R_types HO108.out BK111.out (by decide)) (fun _ hk => hk.2) (.slice Ao18 t106.length co18)) (fun _ _ => trivial)))); (case side4 => exact (Kd.R_reads' HO108.out).2.1); (case side5 => exact far_slice (IsS91.own_ne HI105.out HO108.out (by decide))); rintro e w22 ⟨v113, rfl, ho0, hi, hb, hk⟩; refine ⟨_, rfl, ?_⟩; replace BK101 := Aside0.mk (KeepBut.blk hk (g' := gb101) (o := .cells #[.slice none 0 0] 26 (0, 0)) (by (with_reducible repeat (first | refine blk_drewN ?_ _ | refine blk_drew ?_ | refine blk_alloc ?_ _)); refine blk_far ?_ NB101_111.out _; (with_reducible repeat (first | refine blk_drewN ?_ _ | refine blk_drew ?_ | refine blk_alloc ?_ _)); exact BK101.out) NB101_105.out (by simp)); have HO114 := Aside0.mk (Kd.R_lower (Kd.R_new' ho0 (Kd.R_lt (rb_ (Kd.R_mono (Kd.R_far (p := ⟨gb111, 0, none⟩) (Kd.R_types HO108.out BK111.out (by decide)) (fun _ hk => hk.2) (.slice Ao18 t106.length co18)) (fun _ h_ => h_.1))))) (below_size (gb_ HB.out))); replace HO108 := Aside0.mk (Kd.R_mono (Kd.R_told (Kd.R_oldK (IsS91.apart (show IsS91 w _ g105 t102 t109 t110 from i_ HI105) (rb_ (Kd.R_mono (Kd.R_far (p := ⟨gb111, 0, none⟩) (Kd.R_types HO108.out BK111.out (by decide)) (fun _ hk => hk.2) (.slice Ao18 t106.length co18)) (fun _ h_ => h_.1))) (by decide)) hk) (Kd.R_base ho0)) (fun _ h_ => h_.1)); replace BK111 := Aside0.mk (KeepBut.blk hk (g' := gb111) (o := .cells #[.slice Ao18 t106.length co18] 26 (0, 0)) (by (with_reducible repeat (first | refine blk_drewN ?_ _ | refine blk_drew ?_ | refine blk_alloc ?_ _)); refine blk_put (cs := #[.slice none 0 0]) ?_ 0 _ rfl; (with_reducible repeat (first | refine blk_drewN ?_ _ | refine blk_drew ?_ | refine blk_alloc ?_ _)); exact BK111.out) NB111_105.out (by simp)); replace HB := Aside0.mk (hb); replace HI105 := Aside0.mk (hi); (try clear hb); (try clear hb2); (try clear hk); (try clear hi); (try clear ho0)) | ((with_reducible refine gate_callee (f := 80) rfl ?_); refine gl_ (some 18) rfl rfl Try.func80 #[.pointer (some ⟨g105, 0, none⟩), .int .i64 8] rfl ?_; (with_reducible refine (spec_l01Near.calls g105 t102 t115 t116 8 t117 t118 t119 w _ ?side1 ?side2 A5.out).mono ?_); (case side1 => exact i_ HI105); (case side2 => exact gb_ HB.out); rintro e w23 ⟨rfl, hi, hb, hk⟩; refine ⟨_, rfl, ?_⟩; replace BK101 := kx_ BK101 NB101_105 hk; replace HO108 := kr_ HI105 HO108 hk; replace BK111 := kx_ BK111 NB111_105 hk; replace HO114 := kr_ HI105 HO114 hk; replace HB := Aside0.mk (hb); replace HI105 := Aside0.mk (hi); (try clear hb); (try clear hb2); (try clear hk); (try clear hi)) | ((with_reducible refine gate_dst (N := 19) rfl ?_); refine Kd.R_lit (Kd.int .i64) _ 2 ?hg (N := 19) ?hd (xs := ([0, 1, 1, 1, 2, t117] : List Int)) (inner := [.int .i64 0, .int .i64 1, .int .i64 1, .int .i64 1, .int .i64 2, .int .i64 t117]) (ok := fun _ => True) (okp := fun _ => True) ?hr ?hp (fun _ hk => hk) trivial (Below.refl _ _) (Nat.le_refl _) (by simp) ?_; (case hd => rfl); (case hg => rfl); (case hr => exact t3_); (case hp => exact (Reps.one (show Kd.M (Kd.int .i64) _ _ _ 0 [.int .i64 0] from rfl) (Reps.one (show Kd.M (Kd.int .i64) _ _ _ 1 [.int .i64 1] from rfl) (Reps.one (show Kd.M (Kd.int .i64) _ _ _ 1 [.int .i64 1] from rfl) (Reps.one (show Kd.M (Kd.int .i64) _ _ _ 1 [.int .i64 1] from rfl) (Reps.one (show Kd.M (Kd.int .i64) _ _ _ 2 [.int .i64 2] from rfl) (Reps.one (show Kd.M (Kd.int .i64) _ _ _ t117 [.int .i64 t117] from rfl) (Reps.none _ _)))))))); intro v121 w24 ho25 hb hg_ hnew_; clear hg_ hnew_; (first | rw [← Ny120.out] at ho25 | (simp only [Int.reduceToNat] at ho25; rw [← Ny120.out] at ho25)); have n0_ := a5_ HO108 ho25 hb; have n1_ := a5_ HO114 ho25 hb; have n2_ := Aside0.mk (Kd.R_lower (Kd.R_new' (Kd.R_new' ho25 (Kd.R_lt (rb_ HO108.out))) (Kd.R_lt (rb_ HO114.out))) (below_size (gb_ HB.out))); have n3_ := a2_ BK101 hb; have n4_ := i1_ HI105 hb; have n5_ := a2_ BK111 hb; have n6_ := b1_ HB hb; clear HO108 HO114 BK101 HI105 BK111 HB; have HO108 := n0_; have HO114 := n1_; have HO122 := n2_; have BK101 := n3_; have HI105 := n4_; have BK111 := n5_; have HB := n6_; clear n0_ n1_ n2_ n3_ n4_ n5_ n6_ hb ho25; obtain ⟨Ao26, co26, eo26⟩ := Kd.R_slice HO122.out; subst eo26) | ((with_reducible refine gate_callee (f := 82) rfl ?_); refine gl_ (some 20) rfl rfl Try.func82 #[.pointer (some ⟨g105, 0, none⟩), .slice Ao26 y120.length co26] rfl ?_; (with_reducible refine (spec_l01Pick.calls g105 t102 t118 t119 _ _ y120 t123 t124 t125 w _ ?side1 ?side2 ?side3 ?side4 ?side5 A6.out).mono ?_); (case side1 => exact i_ HI105); (case side2 => exact gb_ HB.out); (case side3 => exact c1_ HO122); (case side4 => exact (Kd.R_reads' HO122.out).2.1); (case side5 => exact far_slice (IsS91.own_ne HI105.out HO122.out (by decide))); rintro e w27 ⟨rfl, hi, hb, hk⟩; refine ⟨_, rfl, ?_⟩; replace BK101 := kx_ BK101 NB101_105 hk; replace HO108 := kr_ HI105 HO108 hk; replace BK111 := kx_ BK111 NB111_105 hk; replace HO114 := kr_ HI105 HO114 hk; replace HO122 := kr_ HI105 HO122 hk; replace HB := Aside0.mk (hb); replace HI105 := Aside0.mk (hi); (try clear hb); (try clear hb2); (try clear hk); (try clear hi)) | ((with_reducible refine gate_callee (f := 85) rfl ?_); refine gl_ (some 22) rfl rfl Try.func85 #[.pointer (some ⟨g105, 0, none⟩), .int .i64 4] rfl ?_; (with_reducible refine (spec_l01Next.calls g105 t102 t124 t125 4 t126 t127 t128 w _ ?side1 ?side2 A7.out).mono ?_); (case side1 => exact i_ HI105); (case side2 => exact gb_ HB.out); rintro e w28 ⟨rfl, hi, hb, hk⟩; refine ⟨_, rfl, ?_⟩; replace BK101 := kx_ BK101 NB101_105 hk; replace HO108 := kr_ HI105 HO108 hk; replace BK111 := kx_ BK111 NB111_105 hk; replace HO114 := kr_ HI105 HO114 hk; replace HO122 := kr_ HI105 HO122 hk; replace HB := Aside0.mk (hb); replace HI105 := Aside0.mk (hi); (try clear hb); (try clear hb2); (try clear hk); (try clear hi); have hcz29_0 := hz_ BK111; have hfz29_0 := blk_frozen BK111.out 0) | ((with_reducible refine gate_callee (f := 122) rfl ?_); refine goesL_ (some 29) rfl rfl Try.func122 (by kernel_rfl) rfl #[.agg #[.slice Ao18 t106.length co18], .int .i64 ji10] rfl (by (try simp only [List.map_toArray, List.map_cons, List.map_nil]); first | done | (simp only [hji10]; rfl) | rfl | (simp only [List.length_drop, List.length_take]; rfl)) ?_; (with_reducible refine (spec_GreedyCode.calls k _ _ t106 ji10 t129 t132 _ ?side1 ?side2 A11.out).mono ?_); (case side1 => exact c1_ HO108); (case side2 => exact (Kd.R_reads' HO108.out).2.1); rintro e w30 ⟨v130, rfl, ho0, hb⟩; refine ⟨_, rfl, ?_⟩; have HO131 := Aside0.mk (Kd.R_lower (Kd.R_new' (Kd.R_new' (Kd.R_new' ho0 (Kd.R_lt (rb_ HO108.out))) (Kd.R_lt (rb_ HO114.out))) (Kd.R_lt (rb_ HO122.out))) (below_size (gb_ HB.out))); replace HO108 := a5_ HO108 ho0 hb; replace HO114 := a5_ HO114 ho0 hb; replace HO122 := a5_ HO122 ho0 hb; replace BK101 := a2_ BK101 hb; replace HI105 := i1_ HI105 hb; replace BK111 := a2_ BK111 hb; replace HB := b1_ HB hb; (try clear hb); (try clear hb2); (try clear hk); (try clear hi); (try clear ho0)))
 replace HO108 := Aside0.mk (Kd.R_drew HO108.out)
 replace HO114 := Aside0.mk (Kd.R_drew HO114.out)
 replace HO122 := Aside0.mk (Kd.R_drew HO122.out)
 replace HO131 := Aside0.mk (Kd.R_drew HO131.out)
 replace BK101 := Aside0.mk (blk_drew BK101.out)
 replace BK111 := Aside0.mk (blk_drew BK111.out)
 replace HI105 := Aside0.mk (IsS91.drew HI105.out)
 replace HB := Aside0.mk (below_drew1 HB.out)
 refine start_ (n := 11) (S := fun w' => w'.cell? ⟨gb111, 0, none⟩ = some (.slice Ao18 t106.length co18)) (ds := []) #[false, false, false, false, false, false, false, false, false, false, false] (by kernel_rfl) rfl rfl ((blk_cell BK111.out 0).trans rfl) (fun hHeld => ?_); refine with_tabW spec_l02With.tab7 spec_l02With.bits7 (fun HT_ HW_ => ?_)
 generalize w30.drew = w31 at HO108 HO114 HO122 HO131 BK101 BK111 HI105 HB hHeld ⊢
 refine pu_ (i := 0) (N := some 32) (v := ?_) (a' := ?_) #[true, false, false, false, false, false, false, false, false, false, false] rfl rfl HT_ (Or.inl ⟨by rfl, ?_⟩) ?_ ?_
 rotate_left
 ·exact t7_
 rotate_left
 ·exact t4_
 refine pu_ (i := 3) (N := some 35) (v := ?_) (a' := ?_) #[true, false, false, true, false, false, false, false, false, false, false] rfl rfl HT_ (Or.inl ⟨by rfl, ?_⟩) ?_ ?_
 rotate_left
 ·exact t7_
 rotate_left
 ·exact t4_
 refine pu_ (i := 5) (N := some 37) (v := ?_) (a' := ?_) #[true, false, false, true, false, true, false, false, false, false, false] rfl rfl HT_ (Or.inl ⟨by rfl, ?_⟩) ?_ ?_
 rotate_left
 ·exact t7_
 rotate_left
 ·exact t4_
 refine pu_ (i := 7) (N := some 39) (v := ?_) (a' := ?_) #[true, false, false, true, false, true, false, true, false, false, false] rfl rfl HT_ (Or.inl ⟨by rfl, ?_⟩) ?_ ?_
 rotate_left
 ·exact t7_
 rotate_left
 ·exact t4_
 refine tk_ (i := 1) (N := some 33) (v := ?_) (a' := ?_) #[true, true, false, true, false, true, false, true, false, false, false] rfl rfl HT_ HW_ (Or.inl ⟨by rfl, ?_⟩) hHeld ?_ ?_
 rotate_left
 ·intro w' s0
  go_simp
  with_reducible rfl
 rotate_left
 ·exact t4_
 refine tk_ (i := 4) (N := some 36) (v := ?_) (a' := ?_) #[true, true, false, true, true, true, false, true, false, false, false] rfl rfl HT_ HW_ (Or.inl ⟨by rfl, ?_⟩) hHeld ?_ ?_
 rotate_left
 ·intro w' s0
  go_simp
  with_reducible rfl
 rotate_left
 ·exact t4_
 refine on_ (i := 2) (N := some 34) #[true, true, true, true, true, true, false, true, false, false, false] rfl rfl HT_ (fun K hK => ?_)
 refine goes_ Try.func81 (by kernel_rfl) rfl #[.pointer (some ⟨g105, 0, none⟩), .agg #[.slice Ao18 t106.length co18]] (by rfl) rfl rfl t1_ ?_
 with_reducible refine (spec_l01Bad.callsK k g105 t102 t127 t128 (fun k_ => some k_ = (.slice Ao18 t106.length co18 : Value).ownBlock) (.slice Ao18 t106.length co18) t106 t133 t136 t137 w _ ?side1 ?side2 ?side3 A12.out).mono ?_
 (case side1 => exact i_ HI105)
 (case side2 => exact gb_ HB.out)
 (case side3 => exact Kd.R_tight rfl HO108.out)
 rintro e w32 ⟨v134, rfl, ho0, hi, hb, hkp, hkq⟩
 have gone := Aside0.mk (Kd.R_keptB (IsS91.apart HI105.out HO108.out (by decide)) hkq (fun k_ hk_ e_ => hk_.2 e_))
 clear hkq
 refine ⟨_, rfl, ?_⟩
 have n0_ := Aside0.mk (blk_kept (bb_ BK101.out) hkp (fun hs_ => Or.elim hs_ (fun hs_ => (fun e_ => (Kd.R_ne HO108.out BK101.out (by decide)) e_) hs_) (fun e_ => NB101_105.out e_)))
 have n1_ := Aside0.mk (hi)
 have n2_ := Aside0.mk (blk_kept (bb_ BK111.out) hkp (fun hs_ => Or.elim hs_ (fun hs_ => (fun e_ => (Kd.R_ne HO108.out BK111.out (by decide)) e_) hs_) (fun e_ => NB111_105.out e_)))
 have n3_ := Aside0.mk (Kd.R_mono (ok' := fun k_ => OB_ k_ (.slice Ao26 y120.length co26) ∧ OB_ k_ v130 ∧ OB_ k_ v134) (Kd.R_keptB ((IsS91.apart HI105.out HO114.out (by decide))) hkp (fun k_ hk_ hs_ => Or.elim hs_ (fun hs_ => (hk_.1.1.1.2) hs_) (fun e_ => (hk_.2) e_))) (fun k_ hk_ => ⟨hk_.1.1.1.2, hk_.1.1.2, fun e_ => Or.elim (ho0.1 k_ e_.symm) (fun hs_ => hk_.2.1 (.inl hs_)) (fun hn_ => Nat.not_le.2 hk_.2.2 hn_)⟩))
 have n4_ := Aside0.mk (Kd.R_mono (ok' := fun k_ => OB_ k_ v113 ∧ OB_ k_ v130 ∧ OB_ k_ v134) (Kd.R_keptB ((IsS91.apart HI105.out HO122.out (by decide))) hkp (fun k_ hk_ hs_ => Or.elim hs_ (fun hs_ => (hk_.1.1.1.2) hs_) (fun e_ => (hk_.2) e_))) (fun k_ hk_ => ⟨hk_.1.1.1.2, hk_.1.1.2, fun e_ => Or.elim (ho0.1 k_ e_.symm) (fun hs_ => hk_.2.1 (.inl hs_)) (fun hn_ => Nat.not_le.2 hk_.2.2 hn_)⟩))
 have n5_ := Aside0.mk (Kd.R_mono (ok' := fun k_ => OB_ k_ v113 ∧ OB_ k_ (.slice Ao26 y120.length co26) ∧ OB_ k_ v134) (Kd.R_keptB ((IsS91.apart HI105.out HO131.out (by decide))) hkp (fun k_ hk_ hs_ => Or.elim hs_ (fun hs_ => (hk_.1.1.1.2) hs_) (fun e_ => (hk_.2) e_))) (fun k_ hk_ => ⟨hk_.1.1.1.2, hk_.1.1.2, fun e_ => Or.elim (ho0.1 k_ e_.symm) (fun hs_ => hk_.2.1 (.inl hs_)) (fun hn_ => Nat.not_le.2 hk_.2.2 hn_)⟩))
 have n6_ := Aside0.mk (Kd.R_mono (ok' := fun k_ => OB_ k_ v113 ∧ OB_ k_ (.slice Ao26 y120.length co26) ∧ OB_ k_ v130) ho0 (fun k_ hk_ => ⟨Or.elim hk_ (fun hs_ => fun e_ => ((((IsS91.apart HI105.out HO114.out (by decide))).1 k_ e_.symm).1.1.1.2) hs_) (fun hn_ => (Kd.fresh' (Kd.R_lt (rb_ HO114.out)) k_ hn_)), Or.elim hk_ (fun hs_ => fun e_ => ((((IsS91.apart HI105.out HO122.out (by decide))).1 k_ e_.symm).1.1.1.2) hs_) (fun hn_ => (Kd.fresh' (Kd.R_lt (rb_ HO122.out)) k_ hn_)), Or.elim hk_ (fun hs_ => fun e_ => ((((IsS91.apart HI105.out HO131.out (by decide))).1 k_ e_.symm).1.1.1.2) hs_) (fun hn_ => (Kd.fresh' (Kd.R_lt (rb_ HO131.out)) k_ hn_))⟩))
 have n7_ := Aside0.mk (hb)
 clear BK101 HI105 BK111 HO114 HO122 HO131 HB HO108
 have BK101 := n0_
 have HI105 := n1_
 have BK111 := n2_
 have HO114 := n3_
 have HO122 := n4_
 have HO131 := n5_
 have HO135 := n6_
 have HB := n7_
 clear n0_ n1_ n2_ n3_ n4_ n5_ n6_ n7_
 (try clear hb)
 (try clear hkp)
 (try clear ho0)
 obtain ⟨Ao33, co33, eo33⟩ := Kd.R_slice HO131.out
 (first | subst eo33 | (injection eo33 with f1_ f2_ f3_; have f4_ := f1_.symm; have f5_ := f3_.symm; clear f1_ f2_ f3_; subst f4_; subst f5_))
 refine hK.out _ _ ((blk_cell BK111.out 0).trans rfl) (fun hHeld => ?_)
 clear hK K
 refine norm_ (a' := ?_) ?_ ?_
 rotate_left
 ·show Act.put _ (some 34) _ = _
  simp only [Act.put, List.setIfInBounds_toArray, List.set_cons_zero, List.set_cons_succ, i64_w, i32_w]
  rfl
 refine on_ (i := 6) (N := some 38) #[true, true, true, true, true, true, true, true, false, false, false] rfl rfl HT_ (fun K hK => ?_)
 refine goes_ Try.func123 (by kernel_rfl) rfl #[.pointer (some ⟨g105, 0, none⟩), .agg #[.slice Ao18 t106.length co18], .slice Ao33 t129.length co33] (by rfl) rfl rfl t1_ ?_
 with_reducible refine (spec_l01BadCode.calls k g105 t102 t136 t137 _ _ t106 _ _ t129 t138 t141 t142 w _ ?side1 ?side2 ?side3 ?side4 ?side5 ?side6 ?side7 ?side8 A13.out).mono ?_
 (case side1 => exact i_ HI105)
 (case side2 => exact gb_ HB.out)
 (case side3 => exact c1_ gone)
 (case side4 => exact (Kd.R_reads' gone.out).2.1)
 (case side5 => exact far_slice (IsS91.own_ne HI105.out gone.out (by decide)))
 (case side6 => exact c1_ HO131)
 (case side7 => exact (Kd.R_reads' HO131.out).2.1)
 (case side8 => exact far_slice (IsS91.own_ne HI105.out HO131.out (by decide)))
 rintro e w34 ⟨v139, rfl, ho0, hi, hb, hk⟩
 refine ⟨_, rfl, ?_⟩
 replace BK101 := kx_ BK101 NB101_105 hk
 replace BK111 := kx_ BK111 NB111_105 hk
 have HO140 := Aside0.mk (Kd.R_lower (Kd.R_new' (Kd.R_new' (Kd.R_new' (Kd.R_new' ho0 (Kd.R_lt (rb_ HO114.out))) (Kd.R_lt (rb_ HO122.out))) (Kd.R_lt (rb_ HO131.out))) (Kd.R_lt (rb_ HO135.out))) (below_size (gb_ HB.out)))
 replace HO114 := Aside0.mk (Kd.R_mono (Kd.R_told (Kd.R_oldK (IsS91.apart (show IsS91 w _ g105 t102 t136 t137 from i_ HI105) (rb_ HO114.out) (by decide)) hk) (Kd.R_base ho0)) (fun _ h_ => h_.1))
 replace HO122 := Aside0.mk (Kd.R_mono (Kd.R_told (Kd.R_oldK (IsS91.apart (show IsS91 w _ g105 t102 t136 t137 from i_ HI105) (rb_ HO122.out) (by decide)) hk) (Kd.R_base ho0)) (fun _ h_ => h_.1))
 replace HO131 := Aside0.mk (Kd.R_mono (Kd.R_told (Kd.R_oldK (IsS91.apart (show IsS91 w _ g105 t102 t136 t137 from i_ HI105) (rb_ HO131.out) (by decide)) hk) (Kd.R_base ho0)) (fun _ h_ => h_.1))
 replace HO135 := Aside0.mk (Kd.R_mono (Kd.R_told (Kd.R_oldK (IsS91.apart (show IsS91 w _ g105 t102 t136 t137 from i_ HI105) (rb_ HO135.out) (by decide)) hk) (Kd.R_base ho0)) (fun _ h_ => h_.1))
 replace HB := Aside0.mk (hb)
 replace HI105 := Aside0.mk (hi)
 (try clear hb)
 (try clear hb2)
 (try clear hk)
 (try clear hi)
 (try clear ho0)
 obtain ⟨Ao35, co35, eo35⟩ := Kd.R_slice HO135.out
 (first | subst eo35 | (injection eo35 with f1_ f2_ f3_; have f4_ := f1_.symm; have f5_ := f3_.symm; clear f1_ f2_ f3_; subst f4_; subst f5_))
 refine hK.out _ _ ((blk_cell BK111.out 0).trans rfl) (fun hHeld => ?_)
 clear hK K
 refine norm_ (a' := ?_) ?_ ?_
 rotate_left
 ·show Act.put _ (some 38) _ = _
  simp only [Act.put, List.setIfInBounds_toArray, List.set_cons_zero, List.set_cons_succ, i64_w, i32_w]
  rfl
 refine on_ (i := 8) (N := none) #[true, true, true, true, true, true, true, true, true, false, false] rfl rfl HT_ (fun K hK => ?_)
 have hs36 : w34.cell? ⟨gb101, 0, none⟩ = some (.slice none 0 0) := (blk_cell BK101.out 0).trans rfl
 have hfs36 := blk_frozen BK101.out 0
 have hns36_1 := NB111_101.out
 have hms36_1 := NB101_111.out
 refine skip_ (w1 := ?_) (by rfl) rfl ?_ ?_
 rotate_left
 ·go_simp
  rfl
 refine hK.out _ _ (((cell_far (p := ⟨gb101, _, none⟩) NB111_101.out _).trans (hHeld))) (fun hHeld => ?_)
 clear hK K
 refine pu_ (i := 9) (N := some 3) (v := ?_) (a' := ?_) #[true, true, true, true, true, true, true, true, true, true, false] rfl rfl HT_ (Or.inl ⟨by rfl, ?_⟩) ?_ ?_
 rotate_left
 ·exact t7_
 rotate_left
 ·exact t4_
 refine pu_ (i := 10) (N := some 4) (v := ?_) (a' := ?_) #[true, true, true, true, true, true, true, true, true, true, true] rfl rfl HT_ (Or.inl ⟨by rfl, ?_⟩) ?_ ?_
 rotate_left
 ·exact t7_
 rotate_left
 ·exact t4_
 refine done_ (done_of HT_.out (by kernel_rfl)) ?_
 try go_wp2
 refine bodyPost_ret (results_ctt rfl _ _ gb101 26 #[.slice Ao35 t133.length co35] (0, 0) _ rfl (by (with_reducible repeat (first | refine blk_drewN ?_ _ | refine blk_drew ?_ | refine blk_alloc ?_ _)); refine blk_put (cs := #[.slice none 0 0]) ?_ 0 _ rfl; (with_reducible repeat (first | refine blk_drewN ?_ _ | refine blk_drew ?_ | refine blk_alloc ?_ _)); exact BK101.out) Try.underlying26 rfl (by kernel_rfl)) rfl ?_
 exact ⟨_, _, by first | rfl | (simp [errW_none, errW_some] <;> rfl) | (simp only [← hji9, ← hji10]; first | rfl | (simp [errW_none, errW_some] <;> rfl)) | (simp [*, errW_none, errW_some] <;> rfl), by (with_reducible repeat (first | apply Kd.R_alloc | apply Kd.R_drewN | apply Kd.R_drew)); exact Kd.R_mono (Kd.R_far (p := ⟨gb101, 0, none⟩) (Kd.R_types HO135.out BK101.out (by decide)) (fun _ hk => hk.2) (.slice Ao35 t133.length co35)) (fun _ hk => hk.1.2), by (with_reducible repeat (first | apply Kd.R_alloc | apply Kd.R_drewN | apply Kd.R_drew)); exact Kd.R_mono (Kd.R_far (p := ⟨gb101, 0, none⟩) (Kd.R_types HO140.out BK101.out (by decide)) (fun _ hk => hk.2) (.slice Ao35 t133.length co35)) (fun _ hk => hk.1.2), gb_ HB.out⟩

def spec_DrawLeanCode.f (k : Nat) (l0 : List Int) : Option (List Int × List Int × Int) := (spec_l02With.f k l0).bind fun bt102 => (some (bt102.1, bt102.2.1, bt102.2.2))
set_option maxHeartbeats 8000000 in
set_option maxRecDepth 100000 in
theorem spec_DrawLeanCode.calls (k : Nat) (A0 : Option Addr) (c0 : Nat) (l0 : List Int) (r1 : List Int) (r2 : List Int) (r3 : Int) (w : World) (hr0 : Kd.C (Kd.int .u8) w A0 l0.length l0) (hc0 : l0.length ≤ c0) (h : spec_DrawLeanCode.f k l0 = some (r1, r2, r3)) :
  Calls Try.prog 44 #[.slice A0 l0.length c0] w fun e w' => ∃ v0_ v1_ : Value, e = .returned (.tuple #[.agg #[v0_], v1_, .int .i64 r3]) ∧ Kd.R (Kd.int .i64) 2 w' w.heap.size (fun k_ => OB_ k_ v1_) v0_ r1 ∧ Kd.R (Kd.int .i64) 2 w' w.heap.size (fun k_ => OB_ k_ v0_) v1_ r2 ∧ Below w.heap.size w w' := by
 have hu26 := Try.underlying26
 have HR0 := Aside0.mk hr0
 have HC0 := Aside0.mk hc0
 clear hr0 hc0
 have HB := Aside0.mk (Below.refl w.heap.size w)
 have H : ((spec_l02With.f k l0).bind fun bt102 => (some (bt102.1, bt102.2.1, bt102.2.2))) = some (r1, r2, r3) := h
 clear h
 replace H := Option.bind_eq_some_iff.mp H
 obtain ⟨⟨t102, t105, t108⟩, A20, H⟩ := H
 replace H : (some (t102, t105, t108)) = some (r1, r2, r3) := H
 have A2 := Aside0.mk A20
 clear A20
 simp only [Option.some.injEq, Prod.mk.injEq] at H
 obtain ⟨rfl, rfl, rfl⟩ := H
 go_enter Try.func44, Try.ntmps44
 go_wp2_with (first | ((with_reducible refine gate_dst (N := 2) rfl ?_); refine bx_ (N := 2) (cs := #[.slice none 0 0]) (t := 26) rfl rfl ?_; intro gb101 hg w3 hbox hb; have n0_ := b1_ HB hb; have n1_ := Aside0.mk (hbox); have n2_ := ge_ hg HB; have n3_ := ge_ hg HB; clear HB; have HB := n0_; have BK101 := n1_; have GW101 := n2_; have GE101 := n3_; clear n0_ n1_ n2_ n3_ hb hbox hg) | ((with_reducible refine gate_callee (f := 97) rfl ?_); refine gl_ (some 6) rfl rfl Try.func97 #[.slice A0 l0.length c0] rfl ?_; (with_reducible refine (spec_l02With.calls k _ _ l0 t102 t105 t108 _ ?side1 ?side2 A2.out).mono ?_); (case side1 => exact c2_ HR0 HB); (case side2 => exact HC0.out); rintro e w4 ⟨v103, v106, rfl, ho0, ho1, hb⟩; refine ⟨_, rfl, ?_⟩; have HO104 := Aside0.mk (Kd.R_lower ho0 (below_size (gb_ HB.out))); have HO107 := Aside0.mk (Kd.R_lower ho1 (below_size (gb_ HB.out))); replace BK101 := a2_ BK101 hb; replace HB := b1_ HB hb; (try clear hb); (try clear hb2); (try clear hk); (try clear hi); (try clear ho0); (try clear ho1); obtain ⟨Ao5, co5, eo5⟩ := Kd.R_slice HO104.out; subst eo5; have hcz6_0 := hz_ BK101; have hfz6_0 := blk_frozen BK101.out 0))
 refine bodyPost_ret (results_ctt rfl _ _ gb101 26 #[.slice Ao5 t102.length co5] (0, 0) _ rfl (by (with_reducible repeat (first | refine blk_drewN ?_ _ | refine blk_drew ?_ | refine blk_alloc ?_ _)); refine blk_put (cs := #[.slice none 0 0]) ?_ 0 _ rfl; (with_reducible repeat (first | refine blk_drewN ?_ _ | refine blk_drew ?_ | refine blk_alloc ?_ _)); exact BK101.out) Try.underlying26 rfl (by kernel_rfl)) rfl ?_
 exact ⟨_, _, t5_, by (with_reducible repeat (first | apply Kd.R_alloc | apply Kd.R_drewN | apply Kd.R_drew)); exact Kd.R_mono (Kd.R_far (p := ⟨gb101, 0, none⟩) (Kd.R_types HO104.out BK101.out (by decide)) (fun _ hk => hk.2) (.slice Ao5 t102.length co5)) (fun _ hk => hk.1), by (with_reducible repeat (first | apply Kd.R_alloc | apply Kd.R_drewN | apply Kd.R_drew)); exact Kd.R_mono (Kd.R_far (p := ⟨gb101, 0, none⟩) (Kd.R_types HO107.out BK101.out (by decide)) (fun _ hk => hk.2) (.slice Ao5 t102.length co5)) (fun _ hk => hk.1), gb_ HB.out⟩
def spec_DrawRadiusOf.f (k : Nat) (l0 : List Int) : Option (List Int × List Int) := (spec_l02With.f k l0).bind fun bt102 => (some (bt102.1, bt102.2.1))
set_option maxHeartbeats 8000000 in
set_option maxRecDepth 100000 in
theorem spec_DrawRadiusOf.calls (k : Nat) (A0 : Option Addr) (c0 : Nat) (l0 : List Int) (r1 : List Int) (r2 : List Int) (w : World) (hr0 : Kd.C (Kd.int .u8) w A0 l0.length l0) (hc0 : l0.length ≤ c0) (h : spec_DrawRadiusOf.f k l0 = some (r1, r2)) :
  Calls Try.prog 53 #[.slice A0 l0.length c0] w fun e w' => ∃ v0_ v1_ : Value, e = .returned (.tuple #[.agg #[v0_], v1_]) ∧ Kd.R (Kd.int .i64) 2 w' w.heap.size (fun k_ => OB_ k_ v1_) v0_ r1 ∧ Kd.R (Kd.int .i64) 2 w' w.heap.size (fun k_ => OB_ k_ v0_) v1_ r2 ∧ Below w.heap.size w w' := by
 have hu26 := Try.underlying26
 have HR0 := Aside0.mk hr0
 have HC0 := Aside0.mk hc0
 clear hr0 hc0
 have HB := Aside0.mk (Below.refl w.heap.size w)
 have H : ((spec_l02With.f k l0).bind fun bt102 => (some (bt102.1, bt102.2.1))) = some (r1, r2) := h
 clear h
 replace H := Option.bind_eq_some_iff.mp H
 obtain ⟨⟨t102, t105, t108⟩, A20, H⟩ := H
 replace H : (some (t102, t105)) = some (r1, r2) := H
 have A2 := Aside0.mk A20
 clear A20
 simp only [Option.some.injEq, Prod.mk.injEq] at H
 obtain ⟨rfl, rfl⟩ := H
 go_enter Try.func53, Try.ntmps53
 go_wp2_with (first | ((with_reducible refine gate_dst (N := 2) rfl ?_); refine bx_ (N := 2) (cs := #[.slice none 0 0]) (t := 26) rfl rfl ?_; intro gb101 hg w3 hbox hb; have n0_ := b1_ HB hb; have n1_ := Aside0.mk (hbox); have n2_ := ge_ hg HB; have n3_ := ge_ hg HB; clear HB; have HB := n0_; have BK101 := n1_; have GW101 := n2_; have GE101 := n3_; clear n0_ n1_ n2_ n3_ hb hbox hg) | ((with_reducible refine gate_callee (f := 97) rfl ?_); refine gl_ (some 9) rfl rfl Try.func97 #[.slice A0 l0.length c0] rfl ?_; (with_reducible refine (spec_l02With.calls k _ _ l0 t102 t105 t108 _ ?side1 ?side2 A2.out).mono ?_); (case side1 => exact c2_ HR0 HB); (case side2 => exact HC0.out); rintro e w4 ⟨v103, v106, rfl, ho0, ho1, hb⟩; refine ⟨_, rfl, ?_⟩; have HO104 := Aside0.mk (Kd.R_lower ho0 (below_size (gb_ HB.out))); have HO107 := Aside0.mk (Kd.R_lower ho1 (below_size (gb_ HB.out))); replace BK101 := a2_ BK101 hb; replace HB := b1_ HB hb; (try clear hb); (try clear hb2); (try clear hk); (try clear hi); (try clear ho0); (try clear ho1)) | ((with_reducible refine gate_dst (N := 4) rfl ?_); refine bx_ (N := 4) (cs := #[.slice none 0 0]) (t := 26) rfl rfl ?_; intro gb109 hg w5 hbox hb; have n0_ := a1_ HO104 hb; have n1_ := a1_ HO107 hb; have n2_ := a2_ BK101 hb; have n3_ := b1_ HB hb; have n4_ := Aside0.mk (hbox); have n5_ := ge_ hg HB; have n6_ := ge_ hg HB; have n7_ := nl_ hg BK101; have n8_ := nr_ hg BK101; clear HO104 HO107 BK101 HB; have HO104 := n0_; have HO107 := n1_; have BK101 := n2_; have HB := n3_; have BK109 := n4_; have GW109 := n5_; have GE109 := n6_; have NB101_109 := n7_; have NB109_101 := n8_; clear n0_ n1_ n2_ n3_ n4_ n5_ n6_ n7_ n8_ hb hbox hg; obtain ⟨Ao6, co6, eo6⟩ := Kd.R_slice HO104.out; subst eo6; have hnb7 := NB109_101.out; have hnc7 := NB101_109.out; have hcz8_0 := hz_ BK109; have hfz8_0 := blk_frozen BK109.out 0; have hcz9_0 := hz_ BK101; have hfz9_0 := blk_frozen BK101.out 0))
 refine bodyPost_ret (results_ct rfl _ _ gb101 26 #[.slice Ao6 t102.length co6] (0, 0) _ rfl (by (with_reducible repeat (first | refine blk_drewN ?_ _ | refine blk_drew ?_ | refine blk_alloc ?_ _)); refine blk_put (cs := #[.slice none 0 0]) ?_ 0 _ rfl; (with_reducible repeat (first | refine blk_drewN ?_ _ | refine blk_drew ?_ | refine blk_alloc ?_ _)); refine blk_far ?_ NB101_109.out _; (with_reducible repeat (first | refine blk_drewN ?_ _ | refine blk_drew ?_ | refine blk_alloc ?_ _)); exact BK101.out) Try.underlying26 rfl (by kernel_rfl)) rfl ?_
 exact ⟨_, _, t5_, by (with_reducible repeat (first | apply Kd.R_alloc | apply Kd.R_drewN | apply Kd.R_drew)); exact Kd.R_mono (Kd.R_far (p := ⟨gb101, 0, none⟩) (Kd.R_far (p := ⟨gb109, 0, none⟩) (Kd.R_types (Kd.R_types HO104.out BK109.out (by decide)) BK101.out (by decide)) (fun _ hk => hk.1.2) (.slice Ao6 t102.length co6)) (fun _ hk => hk.2) (.slice Ao6 t102.length co6)) (fun _ hk => hk.1.1), by (with_reducible repeat (first | apply Kd.R_alloc | apply Kd.R_drewN | apply Kd.R_drew)); exact Kd.R_mono (Kd.R_far (p := ⟨gb101, 0, none⟩) (Kd.R_far (p := ⟨gb109, 0, none⟩) (Kd.R_types (Kd.R_types HO107.out BK109.out (by decide)) BK101.out (by decide)) (fun _ hk => hk.1.2) (.slice Ao6 t102.length co6)) (fun _ hk => hk.2) (.slice Ao6 t102.length co6)) (fun _ hk => hk.1.1), gb_ HB.out⟩
end Go.Proofs.Ytlfipjdjmpdblaa.P
