/- What the law FnWords needs, part 8: words, walks of functions (each says that a call returns what the plain Lean function beside it says), plain lemmas. -/
import Derived.Test.YtlfipjdjmpdblaaKFnWordsG
set_option linter.unusedVariables false
set_option linter.unusedSimpArgs false
namespace Go.Proofs.Ytlfipjdjmpdblaa.P
open Go.RowKit Go.Proofs.YtlfipjdjmpdblaaW.PrintWords Go.Proofs.YtlfipjdjmpdblaaW.PrintLast Go.Proofs.YtlfipjdjmpdblaaW.PrintMore CC
def opp8 (s a : List Int) : List Int := upd8 (fun k => (-rd a (k : Int)) % rd s (k : Int)) s.length
set_option maxHeartbeats 4000000 in
set_option maxRecDepth 100000 in
theorem oppositeOf_calls (A : Option Addr) (c : Nat) (s d : List Int) (w : World) (hr : Kd.C (Kd.int .i64) w A s.length s) (hc : s.length ≤ c) (hs : isSp s = true) (hd : d.length = 8) (hin : inR s d = true) :
    Calls Try.prog 63 #[.agg #[.slice A s.length c], arr8 d] w
      fun e w' => e = .returned (arr8 (opp8 s d)) ∧ Below w.heap.size w w' := by
  have huS := Try.underlying26
  have huD := Try.underlying54
  have HR := Aside0.mk hr
  have HS := Aside0.mk (isSp_all hs)
  have hl := isSp_len hs
  have HD := Aside0.mk hd
  have HI := Aside0.mk hin
  clear hr hs hd hin
  have HX : Aside0 (opp8 s d = upd8 (fun k => (-rd d (k : Int)) % rd s (k : Int)) s.length) := ⟨rfl⟩
  generalize opp8 s d = R at *
  unfold arr8
  go_enter Try.func63, Try.ntmps63
  go_wp2
  have HB : Aside0 (Below w.heap.size w ((((w.alloc (.cells #[.slice A s.length c] 26)).alloc (.cells (nums .u8 d).toArray 54)).alloc (.cells #[.int .u8 0, .int .u8 0, .int .u8 0, .int .u8 0, .int .u8 0, .int .u8 0, .int .u8 0, .int .u8 0] 54)).alloc (.cells #[.int .u8 0, .int .u8 0, .int .u8 0, .int .u8 0, .int .u8 0, .int .u8 0, .int .u8 0, .int .u8 0] 54))) := ⟨below_alloc (below3 _ _ _ _) _⟩
  have b1 : ((((w.alloc (.cells #[.slice A s.length c] 26)).alloc (.cells (nums .u8 d).toArray 54)).alloc (.cells #[.int .u8 0, .int .u8 0, .int .u8 0, .int .u8 0, .int .u8 0, .int .u8 0, .int .u8 0, .int .u8 0] 54)).alloc (.cells #[.int .u8 0, .int .u8 0, .int .u8 0, .int .u8 0, .int .u8 0, .int .u8 0, .int .u8 0, .int .u8 0] 54)).heap[w.heap.size + 1]? = some (.cells (nums .u8 d).toArray 54 (0, 0)) :=
    blk_alloc (blk_alloc (by simpa using blk_new (w.alloc (.cells #[.slice A s.length c] 26)) (.cells (nums .u8 d).toArray 54)) _) _
  have b2 : ((((w.alloc (.cells #[.slice A s.length c] 26)).alloc (.cells (nums .u8 d).toArray 54)).alloc (.cells #[.int .u8 0, .int .u8 0, .int .u8 0, .int .u8 0, .int .u8 0, .int .u8 0, .int .u8 0, .int .u8 0] 54)).alloc (.cells #[.int .u8 0, .int .u8 0, .int .u8 0, .int .u8 0, .int .u8 0, .int .u8 0, .int .u8 0, .int .u8 0] 54)).heap[w.heap.size + 1 + 1]? = some (.cells (nums .u8 (List.replicate 8 0)).toArray 54 (0, 0)) := by
    rw [z8]
    exact blk_alloc (by simpa using blk_new ((w.alloc (.cells #[.slice A s.length c] 26)).alloc (.cells (nums .u8 d).toArray 54)) (.cells #[.int .u8 0, .int .u8 0, .int .u8 0, .int .u8 0, .int .u8 0, .int .u8 0, .int .u8 0, .int .u8 0] 54)) _
  have b3 : ((((w.alloc (.cells #[.slice A s.length c] 26)).alloc (.cells (nums .u8 d).toArray 54)).alloc (.cells #[.int .u8 0, .int .u8 0, .int .u8 0, .int .u8 0, .int .u8 0, .int .u8 0, .int .u8 0, .int .u8 0] 54)).alloc (.cells #[.int .u8 0, .int .u8 0, .int .u8 0, .int .u8 0, .int .u8 0, .int .u8 0, .int .u8 0, .int .u8 0] 54)).heap[w.heap.size + 1 + 1 + 1]? = some (.cells (nums .u8 (List.replicate 8 0)).toArray 54 (0, 0)) := by
    rw [z8]
    simpa using blk_new (((w.alloc (.cells #[.slice A s.length c] 26)).alloc (.cells (nums .u8 d).toArray 54)).alloc (.cells #[.int .u8 0, .int .u8 0, .int .u8 0, .int .u8 0, .int .u8 0, .int .u8 0, .int .u8 0, .int .u8 0] 54)) (.cells #[.int .u8 0, .int .u8 0, .int .u8 0, .int .u8 0, .int .u8 0, .int .u8 0, .int .u8 0, .int .u8 0] 54)
  have B1 := Aside0.mk b1
  have B2 := Aside0.mk b2
  have B3 := Aside0.mk b3
  clear b1 b2 b3
  generalize (((w.alloc (.cells #[.slice A s.length c] 26)).alloc (.cells (nums .u8 d).toArray 54)).alloc (.cells #[.int .u8 0, .int .u8 0, .int .u8 0, .int .u8 0, .int .u8 0, .int .u8 0, .int .u8 0, .int .u8 0] 54)).alloc (.cells #[.int .u8 0, .int .u8 0, .int .u8 0, .int .u8 0, .int .u8 0, .int .u8 0, .int .u8 0, .int .u8 0] 54) = W0 at *
  go_loopw [12] (fun i W => ∃ (n : Nat), n ≤ s.length ∧ i = .int .i64 n ∧ Aside0 (W.heap[w.heap.size + 1]? = some (.cells (nums .u8 d).toArray 54 (0, 0))) ∧ Aside0 (W.heap[w.heap.size + 1 + 1]? = some (.cells (nums .u8 (List.replicate 8 0)).toArray 54 (0, 0))) ∧
      Aside0 (W.heap[w.heap.size + 1 + 1 + 1]? = some (.cells (nums .u8 (upd8 (fun k => (-rd d (k : Int)) % rd s (k : Int)) n)).toArray 54 (0, 0))) ∧ Aside0 (Below w.heap.size w W)) (fun i _ => s.length - (intOf i).toNat)
  case atStart => exact ⟨0, by omega, rfl, B1, B2, ⟨by rw [upd8_zero]; exact B3.out⟩, HB⟩
  case round =>
    clear B1 B2 B3 HB
    obtain ⟨n, hn, rfl, B1, B2, B3, HB⟩ := hrel
    by_cases hlt : n < s.length
    · obtain ⟨ad, e, _⟩ := Kd.at_int HR.out (n : Int) (by omega) (by omega)
      subst e
      have hx := rd_cell HR.out HB.out n (by omega)
      have hy := cell8 B1.out (i := n) (by have := HD.out; omega)
      have hz := cell8 B3.out (i := n) (by rw [upd8_length]; omega)
      have hfz := blk_frozen B3.out n
      obtain ⟨r0, r1⟩ := inR_rd s d n HI.out hlt (by have := HD.out; omega)
      obtain ⟨q0, q1⟩ := size_rd HS.out hlt
      have HU := Aside0.mk (upd8_succ (fun k => (-rd d (k : Int)) % rd s (k : Int)) n)
      obtain ⟨m0, m1⟩ := mod_small (x := -rd d (n : Int)) q0 q1
      have hq : ∃ q, q = rd s (n : Int) := ⟨_, rfl⟩
      obtain ⟨q, hq⟩ := hq
      obtain ⟨x, hx2⟩ : ∃ x, x = rd d (n : Int) := ⟨_, rfl⟩
      have HQ := Aside0.mk (And.intro hq hx2)
      rw [← hq] at hx m0 m1 q0 q1 r1
      rw [← hx2] at hy m0 m1 r0 r1
      clear hq hx2
      go_wp2
      go_roundw
      case rel =>
        refine ⟨n + 1, by omega, by go_num, ⟨blk_far B1.out (by simp) _⟩, ⟨blk_far B2.out (by simp) _⟩, ⟨?_⟩, ⟨below_set HB.out (by omega)⟩⟩
        have h8 := blk_set8 B3.out n ((-x) % q)
        rw [HQ.out.1, HQ.out.2] at h8
        rw [HU.out] at h8
        rw [HQ.out.1, HQ.out.2]
        exact h8
      case measure => simp [intOf]; omega
    · have hn : n = s.length := by omega
      subst hn
      have B3 := Aside0.mk B3.out
      rw [← HX.out] at B3
      obtain ⟨y0, y1, y2, y3, y4, y5, y6, y7, rfl⟩ := eight (l := R) (by rw [HX.out, upd8_length])
      have k0 : wr.cell? ⟨w.heap.size + 1 + 1 + 1, 0, none⟩ = some (.int .u8 y0) := blk_cell B3.out 0
      have k1 : wr.cell? ⟨w.heap.size + 1 + 1 + 1, 1, none⟩ = some (.int .u8 y1) := blk_cell B3.out 1
      have k2 : wr.cell? ⟨w.heap.size + 1 + 1 + 1, 2, none⟩ = some (.int .u8 y2) := blk_cell B3.out 2
      have k3 : wr.cell? ⟨w.heap.size + 1 + 1 + 1, 3, none⟩ = some (.int .u8 y3) := blk_cell B3.out 3
      have k4 : wr.cell? ⟨w.heap.size + 1 + 1 + 1, 4, none⟩ = some (.int .u8 y4) := blk_cell B3.out 4
      have k5 : wr.cell? ⟨w.heap.size + 1 + 1 + 1, 5, none⟩ = some (.int .u8 y5) := blk_cell B3.out 5
      have k6 : wr.cell? ⟨w.heap.size + 1 + 1 + 1, 6, none⟩ = some (.int .u8 y6) := blk_cell B3.out 6
      have k7 : wr.cell? ⟨w.heap.size + 1 + 1 + 1, 7, none⟩ = some (.int .u8 y7) := blk_cell B3.out 7
      have q0 : wr.cell? ⟨w.heap.size + 1 + 1, 0, none⟩ = some (.int .u8 0) := blk_cell B2.out 0
      have q1 : wr.cell? ⟨w.heap.size + 1 + 1, 1, none⟩ = some (.int .u8 0) := blk_cell B2.out 1
      have q2 : wr.cell? ⟨w.heap.size + 1 + 1, 2, none⟩ = some (.int .u8 0) := blk_cell B2.out 2
      have q3 : wr.cell? ⟨w.heap.size + 1 + 1, 3, none⟩ = some (.int .u8 0) := blk_cell B2.out 3
      have q4 : wr.cell? ⟨w.heap.size + 1 + 1, 4, none⟩ = some (.int .u8 0) := blk_cell B2.out 4
      have q5 : wr.cell? ⟨w.heap.size + 1 + 1, 5, none⟩ = some (.int .u8 0) := blk_cell B2.out 5
      have q6 : wr.cell? ⟨w.heap.size + 1 + 1, 6, none⟩ = some (.int .u8 0) := blk_cell B2.out 6
      have q7 : wr.cell? ⟨w.heap.size + 1 + 1, 7, none⟩ = some (.int .u8 0) := blk_cell B2.out 7
      have hf := fun i => blk_frozen B2.out i
      go_wp2
      refine bodyPost_ret (v := .agg #[.int .u8 y0, .int .u8 y1, .int .u8 y2, .int .u8 y3, .int .u8 y4, .int .u8 y5, .int .u8 y6, .int .u8 y7]) (by simp [results, Try.results63, go_sem, q0, q1, q2, q3, q4, q5, q6, q7]) rfl ⟨rfl, ?_⟩
      repeat (refine below_set ?_ (by omega))
      exact HB.out
theorem opp8_inR {s : List Int} (hs : isSp s = true) (d : List Int) : inR s (opp8 s d) = true := by
  refine inR_of _ _ fun k h1 h2 => ?_
  have hl := isSp_len hs
  obtain ⟨q0, q1⟩ := size_rd (isSp_all hs) h1
  rw [opp8, upd8_rd _ _ h1 (by omega)]
  have a := Int.emod_nonneg (-rd d (k : Int)) (show rd s (k : Int) ≠ 0 by omega)
  have b := Int.emod_lt_of_pos (-rd d (k : Int)) (show 0 < rd s (k : Int) by omega)
  exact ⟨a, b⟩
end Go.Proofs.Ytlfipjdjmpdblaa.P
namespace Go.Proofs.Ytlfipjdjmpdblaa.P
open Go.RowKit Go.Proofs.YtlfipjdjmpdblaaW.PrintWords Go.Proofs.YtlfipjdjmpdblaaW.PrintLast Go.Proofs.YtlfipjdjmpdblaaW.PrintMore
attribute [local go_sem] max2_int min2_int max_two min_two max_three min_three max_four min_four
set_option linter.unusedVariables false
set_option linter.unusedSimpArgs false
def impl_WeightOf.f (k : Nat) (l0_0 : List Int) (a1 : Int) : Option (Int × Int) := (impl_DistanceOf.f k l0_0 a1 0).bind fun bt102 => (some (bt102.1, bt102.2))
set_option maxHeartbeats 8000000 in
set_option maxRecDepth 100000 in
theorem impl_WeightOf.calls (k : Nat) (A0_0 : Option Addr) (c0_0 : Nat) (l0_0 : List Int) (a1 : Int) (r1 : Int) (r2 : Int) (w : World) (hr0_0 : Kd.C (Kd.int .i64) w A0_0 l0_0.length l0_0) (hc0_0 : l0_0.length ≤ c0_0) (h : impl_WeightOf.f k l0_0 a1 = some (r1, r2)) :
  Calls Try.prog 14 #[.agg #[.slice A0_0 l0_0.length c0_0], .int .i64 a1] w fun e w' => e = .returned (.tuple #[.int .i64 r1, .int .i64 r2]) ∧ Below w.heap.size w w' := by
 have hu26 := Try.underlying26
 have HR0_0 := Aside0.mk hr0_0
 have HC0_0 := Aside0.mk hc0_0
 clear hr0_0 hc0_0
 have HB := Aside0.mk (Below.refl w.heap.size w)
 have H : ((impl_DistanceOf.f k l0_0 a1 0).bind fun bt102 => (some (bt102.1, bt102.2))) = some (r1, r2) := h
 clear h
 replace H := Option.bind_eq_some_iff.mp H
 obtain ⟨⟨t102, t103⟩, A30, H⟩ := H
 replace H : (some (t102, t103)) = some (r1, r2) := H
 have A3 := Aside0.mk A30
 clear A30
 simp only [Option.some.injEq, Prod.mk.injEq] at H
 obtain ⟨rfl, rfl⟩ := H
 go_enter Try.func14, Try.ntmps14
 go_wp2_with (first | ((with_reducible refine gate_dst (N := 2) rfl ?_); refine bx_ (N := 2) (cs := #[.slice A0_0 l0_0.length c0_0]) (t := 26) rfl rfl ?_; intro gb101 hg w4 hbox hb; have n0_ := b1_ HB hb; have n1_ := Aside0.mk (hbox); have n2_ := ge_ hg HB; have n3_ := ge_ hg HB; clear HB; have HB := n0_; have BK101 := n1_; have GW101 := n2_; have GE101 := n3_; clear n0_ n1_ n2_ n3_ hb hbox hg; have hcz5_0 := hz_ BK101; have hfz5_0 := blk_frozen BK101.out 0) | ((with_reducible refine gate_callee (f := 10) rfl ?_); refine gl_ (some 8) rfl rfl Try.func10 #[.agg #[.slice A0_0 l0_0.length c0_0], .int .i64 a1, .int .i64 0] rfl ?_; (with_reducible refine (impl_DistanceOf.calls k _ _ l0_0 a1 0 t102 t103 _ ?side1 ?side2 A3.out).mono ?_); (case side1 => exact c2_ HR0_0 HB); (case side2 => exact HC0_0.out); rintro e w6 ⟨rfl, hb⟩; refine ⟨_, rfl, ?_⟩; replace BK101 := a2_ BK101 hb; replace HB := b1_ HB hb; (try clear hb); (try clear hb2); (try clear hk); (try clear hi)))
 go_ret2
 exact ⟨t5_, gb_ HB.out⟩
def spec_BallOf.f (k : Nat) (l0_0 : List Int) (a1 : Int) (a2 : Int) : Option (List Int × Int) := (spec_l01Radius.f k l0_0 a1 a2).bind fun t102 => (if t102 = 0 then ((spec_l01Ball.f k l0_0 a1 a2).bind fun t103 => (some (t103, 0))) else (some (([] : List Int), t102)))
set_option maxHeartbeats 8000000 in
set_option maxRecDepth 100000 in
theorem spec_BallOf.calls (k : Nat) (A0_0 : Option Addr) (c0_0 : Nat) (l0_0 : List Int) (a1 : Int) (a2 : Int) (r1 : List Int) (r2 : Int) (w : World) (hr0_0 : Kd.C (Kd.int .i64) w A0_0 l0_0.length l0_0) (hc0_0 : l0_0.length ≤ c0_0) (h : spec_BallOf.f k l0_0 a1 a2 = some (r1, r2)) :
  Calls Try.prog 24 #[.agg #[.slice A0_0 l0_0.length c0_0], .int .i64 a1, .int .i64 a2] w fun e w' => ∃ v0_ : Value, e = .returned (.tuple #[v0_, .int .i64 r2]) ∧ Kd.R (Kd.int .i64) 2 w' w.heap.size (fun _ => True) v0_ r1 ∧ Below w.heap.size w w' := by
 have hu26 := Try.underlying26
 have HR0_0 := Aside0.mk hr0_0
 have HC0_0 := Aside0.mk hc0_0
 clear hr0_0 hc0_0
 have HB := Aside0.mk (Below.refl w.heap.size w)
 have H : ((spec_l01Radius.f k l0_0 a1 a2).bind fun t102 => (if t102 = 0 then ((spec_l01Ball.f k l0_0 a1 a2).bind fun t103 => (some (t103, 0))) else (some (([] : List Int), t102)))) = some (r1, r2) := h
 clear h
 replace H := Option.bind_eq_some_iff.mp H
 obtain ⟨t102, A40, H⟩ := H
 replace H : (if t102 = 0 then ((spec_l01Ball.f k l0_0 a1 a2).bind fun t103 => (some (t103, 0))) else (some (([] : List Int), t102))) = some (r1, r2) := H
 have A4 := Aside0.mk A40
 clear A40
 by_cases c5 : t102 = 0
 rotate_left
 ·rw [if_neg c5] at H
  have c5b0 : (t102 == 0) = false := beq_eq_false_iff_ne.mpr c5
  have c5b1 : (t102 != 0) = true := bne_iff_ne.mpr c5
  simp only [Option.some.injEq, Prod.mk.injEq] at H
  obtain ⟨rfl, rfl⟩ := H
  go_enter Try.func24, Try.ntmps24
  go_wp2_with (first | ((with_reducible refine gate_dst (N := 3) rfl ?_); refine bx_ (N := 3) (cs := #[.slice A0_0 l0_0.length c0_0]) (t := 26) rfl rfl ?_; intro gb101 hg w12 hbox hb; have n0_ := b1_ HB hb; have n1_ := Aside0.mk (hbox); have n2_ := ge_ hg HB; have n3_ := ge_ hg HB; clear HB; have HB := n0_; have BK101 := n1_; have GW101 := n2_; have GE101 := n3_; clear n0_ n1_ n2_ n3_ hb hbox hg; have hcz13_0 := hz_ BK101; have hfz13_0 := blk_frozen BK101.out 0) | ((with_reducible refine gate_callee (f := 71) rfl ?_); refine gl_ (some 12) rfl rfl Try.func71 #[.agg #[.slice A0_0 l0_0.length c0_0], .int .i64 a1, .int .i64 a2] rfl ?_; (with_reducible refine (spec_l01Radius.calls k _ _ l0_0 a1 a2 t102 _ ?side1 ?side2 A4.out).mono ?_); (case side1 => exact c2_ HR0_0 HB); (case side2 => exact HC0_0.out); rintro e w14 ⟨rfl, hb⟩; refine ⟨_, rfl, ?_⟩; replace BK101 := a2_ BK101 hb; replace HB := b1_ HB hb; (try clear hb); (try clear hb2); (try clear hk); (try clear hi)))
  go_ret2
  exact ⟨_, t5_, by first | exact Kd.R_nil _ _ _ _ _ | exact Kd.N_nil _ _ _ _ _ | exact Kd.V_nil _ _ _ _ _ | exact Kd.Q_nil _ _ _ _ _ | exact Kd.S_nil _ _ _ _ _, gb_ HB.out⟩

 rw [if_pos c5] at H
 have c5b0 : (t102 == 0) = true := beq_iff_eq.mpr c5
 have c5b1 : (t102 != 0) = false := bne_eq_false_iff_eq.mpr c5
 clear c5
 replace H := Option.bind_eq_some_iff.mp H
 obtain ⟨t103, A60, H⟩ := H
 replace H : (some (t103, 0)) = some (r1, r2) := H
 have A6 := Aside0.mk A60
 clear A60
 simp only [Option.some.injEq, Prod.mk.injEq] at H
 obtain ⟨rfl, rfl⟩ := H
 go_enter Try.func24, Try.ntmps24
 go_wp2_with (first | ((with_reducible refine gate_dst (N := 3) rfl ?_); refine bx_ (N := 3) (cs := #[.slice A0_0 l0_0.length c0_0]) (t := 26) rfl rfl ?_; intro gb101 hg w7 hbox hb; have n0_ := b1_ HB hb; have n1_ := Aside0.mk (hbox); have n2_ := ge_ hg HB; have n3_ := ge_ hg HB; clear HB; have HB := n0_; have BK101 := n1_; have GW101 := n2_; have GE101 := n3_; clear n0_ n1_ n2_ n3_ hb hbox hg; have hcz8_0 := hz_ BK101; have hfz8_0 := blk_frozen BK101.out 0) | ((with_reducible refine gate_callee (f := 71) rfl ?_); refine gl_ (some 12) rfl rfl Try.func71 #[.agg #[.slice A0_0 l0_0.length c0_0], .int .i64 a1, .int .i64 a2] rfl ?_; (with_reducible refine (spec_l01Radius.calls k _ _ l0_0 a1 a2 t102 _ ?side1 ?side2 A4.out).mono ?_); (case side1 => exact c2_ HR0_0 HB); (case side2 => exact HC0_0.out); rintro e w9 ⟨rfl, hb⟩; refine ⟨_, rfl, ?_⟩; replace BK101 := a2_ BK101 hb; replace HB := b1_ HB hb; (try clear hb); (try clear hb2); (try clear hk); (try clear hi); have hcz10_0 := hz_ BK101; have hfz10_0 := blk_frozen BK101.out 0) | ((with_reducible refine gate_callee (f := 72) rfl ?_); refine gl_ (some 19) rfl rfl Try.func72 #[.agg #[.slice A0_0 l0_0.length c0_0], .int .i64 a1, .int .i64 a2] rfl ?_; (with_reducible refine (spec_l01Ball.calls k _ _ l0_0 a1 a2 t103 _ ?side1 ?side2 A6.out).mono ?_); (case side1 => exact c2_ HR0_0 HB); (case side2 => exact HC0_0.out); rintro e w11 ⟨v104, rfl, ho0, hb⟩; refine ⟨_, rfl, ?_⟩; have HO105 := Aside0.mk (Kd.R_lower ho0 (below_size (gb_ HB.out))); replace BK101 := a2_ BK101 hb; replace HB := b1_ HB hb; (try clear hb); (try clear hb2); (try clear hk); (try clear hi); (try clear ho0)))
 go_ret2
 exact ⟨_, t5_, rb_ HO105.out, gb_ HB.out⟩
def spec_SphereOf.l0 : Nat → Int → Int → List Int → Int → List Int → Option (List Int × Int)
  | 0, _, _, _, _, _ => none
  | k + 1, x1, x2, x9, x10, x102000 => (spec_l01N.f k x102000).bind fun t106 => (if x10 < t106 then ((spec_l01Distance.f k x102000 x10 x1).bind fun t107 => (if t107 = x2 then (if x9.length < 17592186044416 then (spec_SphereOf.l0 k x1 x2 (x9 ++ [x10]) (wrap64 (x10 + 1)) x102000) else (none)) else (spec_SphereOf.l0 k x1 x2 x9 (wrap64 (x10 + 1)) x102000))) else (some (x9, 0)))
def spec_SphereOf.f (k : Nat) (l0_0 : List Int) (a1 : Int) (a2 : Int) : Option (List Int × Int) := (spec_l01Radius.f k l0_0 a1 a2).bind fun t102 => (if t102 = 0 then (spec_SphereOf.l0 k a1 a2 (([] : List Int)) 0 l0_0) else (some (([] : List Int), t102)))
set_option maxHeartbeats 8000000 in
set_option maxRecDepth 100000 in
theorem spec_SphereOf.calls (k : Nat) (A0_0 : Option Addr) (c0_0 : Nat) (l0_0 : List Int) (a1 : Int) (a2 : Int) (r1 : List Int) (r2 : Int) (w : World) (hr0_0 : Kd.C (Kd.int .i64) w A0_0 l0_0.length l0_0) (hc0_0 : l0_0.length ≤ c0_0) (h : spec_SphereOf.f k l0_0 a1 a2 = some (r1, r2)) :
  Calls Try.prog 26 #[.agg #[.slice A0_0 l0_0.length c0_0], .int .i64 a1, .int .i64 a2] w fun e w' => ∃ v0_ : Value, e = .returned (.tuple #[v0_, .int .i64 r2]) ∧ Kd.R (Kd.int .i64) 2 w' w.heap.size (fun _ => True) v0_ r1 ∧ Below w.heap.size w w' := by
 have hu26 := Try.underlying26
 have HR0_0 := Aside0.mk hr0_0
 have HC0_0 := Aside0.mk hc0_0
 clear hr0_0 hc0_0
 have HB := Aside0.mk (Below.refl w.heap.size w)
 have H : ((spec_l01Radius.f k l0_0 a1 a2).bind fun t102 => (if t102 = 0 then (spec_SphereOf.l0 k a1 a2 (([] : List Int)) 0 l0_0) else (some (([] : List Int), t102)))) = some (r1, r2) := h
 clear h
 replace H := Option.bind_eq_some_iff.mp H
 obtain ⟨t102, A40, H⟩ := H
 replace H : (if t102 = 0 then (spec_SphereOf.l0 k a1 a2 (([] : List Int)) 0 l0_0) else (some (([] : List Int), t102))) = some (r1, r2) := H
 have A4 := Aside0.mk A40
 clear A40
 by_cases c5 : t102 = 0
 rotate_left
 ·rw [if_neg c5] at H
  have c5b0 : (t102 == 0) = false := beq_eq_false_iff_ne.mpr c5
  have c5b1 : (t102 != 0) = true := bne_iff_ne.mpr c5
  simp only [Option.some.injEq, Prod.mk.injEq] at H
  obtain ⟨rfl, rfl⟩ := H
  go_enter Try.func26, Try.ntmps26
  go_wp2_with (first | ((with_reducible refine gate_dst (N := 3) rfl ?_); refine bx_ (N := 3) (cs := #[.slice A0_0 l0_0.length c0_0]) (t := 26) rfl rfl ?_; intro gb101 hg w27 hbox hb; have n0_ := b1_ HB hb; have n1_ := Aside0.mk (hbox); have n2_ := ge_ hg HB; have n3_ := ge_ hg HB; clear HB; have HB := n0_; have BK101 := n1_; have GW101 := n2_; have GE101 := n3_; clear n0_ n1_ n2_ n3_ hb hbox hg; have hcz28_0 := hz_ BK101; have hfz28_0 := blk_frozen BK101.out 0) | ((with_reducible refine gate_callee (f := 71) rfl ?_); refine gl_ (some 14) rfl rfl Try.func71 #[.agg #[.slice A0_0 l0_0.length c0_0], .int .i64 a1, .int .i64 a2] rfl ?_; (with_reducible refine (spec_l01Radius.calls k _ _ l0_0 a1 a2 t102 _ ?side1 ?side2 A4.out).mono ?_); (case side1 => exact c2_ HR0_0 HB); (case side2 => exact HC0_0.out); rintro e w29 ⟨rfl, hb⟩; refine ⟨_, rfl, ?_⟩; replace BK101 := a2_ BK101 hb; replace HB := b1_ HB hb; (try clear hb); (try clear hb2); (try clear hk); (try clear hi)))
  go_ret2
  exact ⟨_, t5_, by first | exact Kd.R_nil _ _ _ _ _ | exact Kd.N_nil _ _ _ _ _ | exact Kd.V_nil _ _ _ _ _ | exact Kd.Q_nil _ _ _ _ _ | exact Kd.S_nil _ _ _ _ _, gb_ HB.out⟩

 rw [if_pos c5] at H
 have c5b0 : (t102 == 0) = true := beq_iff_eq.mpr c5
 have c5b1 : (t102 != 0) = false := bne_eq_false_iff_eq.mpr c5
 clear c5
 obtain ⟨y103, hy103⟩ : ∃ y_ : List Int, y_ = (([] : List Int)) := ⟨_, rfl⟩
 replace H : (spec_SphereOf.l0 k a1 a2 y103 0 l0_0) = some (r1, r2) := y_ H
 have Ny103 := Aside0.mk hy103
 clear hy103
 have H' := Aside0.mk H
 clear H
 go_enter Try.func26, Try.ntmps26
 go_wp2_with (first | ((with_reducible refine gate_dst (N := 3) rfl ?_); refine bx_ (N := 3) (cs := #[.slice A0_0 l0_0.length c0_0]) (t := 26) rfl rfl ?_; intro gb101 hg w6 hbox hb; have n0_ := b1_ HB hb; have n1_ := Aside0.mk (hbox); have n2_ := ge_ hg HB; have n3_ := ge_ hg HB; clear HB; have HB := n0_; have BK101 := n1_; have GW101 := n2_; have GE101 := n3_; clear n0_ n1_ n2_ n3_ hb hbox hg; have hcz7_0 := hz_ BK101; have hfz7_0 := blk_frozen BK101.out 0) | ((with_reducible refine gate_callee (f := 71) rfl ?_); refine gl_ (some 14) rfl rfl Try.func71 #[.agg #[.slice A0_0 l0_0.length c0_0], .int .i64 a1, .int .i64 a2] rfl ?_; (with_reducible refine (spec_l01Radius.calls k _ _ l0_0 a1 a2 t102 _ ?side1 ?side2 A4.out).mono ?_); (case side1 => exact c2_ HR0_0 HB); (case side2 => exact HC0_0.out); rintro e w8 ⟨rfl, hb⟩; refine ⟨_, rfl, ?_⟩; replace BK101 := a2_ BK101 hb; replace HB := b1_ HB hb; (try clear hb); (try clear hb2); (try clear hk); (try clear hi)) | ((with_reducible refine gate_dst (N := 18) rfl ?_); refine Kd.R_lit (Kd.int .i64) _ 2 ?hg (N := 18) ?hd (xs := ([] : List Int)) (inner := []) (ok := fun _ => True) (okp := fun _ => True) ?hr ?hp (fun _ hk => hk) trivial (Below.refl _ _) (Nat.le_refl _) (by simp) ?_; (case hd => rfl); (case hg => rfl); (case hr => exact t3_); (case hp => exact (Reps.none _ _)); intro v104 w9 ho10 hb hg_ hnew_; clear hg_ hnew_; (first | rw [← Ny103.out] at ho10 | (simp only [Int.reduceToNat] at ho10; rw [← Ny103.out] at ho10)); have n0_ := Aside0.mk (Kd.R_lower ho10 (below_size (gb_ HB.out))); have n1_ := a2_ BK101 hb; have n2_ := b1_ HB hb; clear BK101 HB; have HO105 := n0_; have BK101 := n1_; have HB := n2_; clear n0_ n1_ n2_ hb ho10))
 go_loopg [9, 10] k (fun kq v9 v10 w' => ∃ (x9_1 : List Int) (x10_1 : Int), v10 = .int .i64 x10_1 ∧ Aside0 (spec_SphereOf.l0 kq a1 a2 x9_1 x10_1 l0_0 = some (r1, r2)) ∧ Aside0 (kq ≤ k) ∧ Aside0 (Kd.R (Kd.int .i64) 2 w' w.heap.size (fun _ => True) v9 x9_1) ∧ Aside0 (w'.heap[gb101]? = some (.cells #[(.slice A0_0 l0_0.length c0_0)] 26 (0, 0))) ∧ Aside0 (Below w.heap.size w w'))
 case atStart => exact ⟨(y103), (0), t2_, H', ⟨Nat.le_refl _⟩, ⟨rb_ HO105.out⟩, ⟨bb_ BK101.out⟩, ⟨gb_ HB.out⟩⟩
 clear H'
 try clear c2
 try clear p2
 try clear c5
 try clear c5b0
 try clear c5b1
 try clear c7
 try clear hcz7_0
 try clear hfz7_0
 obtain ⟨x9_1, x10_1, rfl, HA, HK1, HO_9, BK101, HB⟩ := hrel
 obtain _ | k1 := gk
 ·exact absurd HA.out (by simp [spec_SphereOf.l0])
 have H := HA.out
 clear HA
 simp only [spec_SphereOf.l0] at H
 replace H := Option.bind_eq_some_iff.mp H
 obtain ⟨t106, A110, H⟩ := H
 replace H : (if x10_1 < t106 then ((spec_l01Distance.f k1 l0_0 x10_1 a1).bind fun t107 => (if t107 = a2 then (if x9_1.length < 17592186044416 then (spec_SphereOf.l0 k1 a1 a2 (x9_1 ++ [x10_1]) (wrap64 (x10_1 + 1)) l0_0) else (none)) else (spec_SphereOf.l0 k1 a1 a2 x9_1 (wrap64 (x10_1 + 1)) l0_0))) else (some (x9_1, 0))) = some (r1, r2) := H
 have A11 := Aside0.mk A110
 clear A110
 by_cases c12 : x10_1 < t106
 rotate_left
 ·rw [if_neg c12] at H
  have c12b0 : decide (x10_1 < t106) = false := decide_eq_false c12
  clear c12
  simp only [Option.some.injEq, Prod.mk.injEq] at H
  obtain ⟨rfl, rfl⟩ := H
  have hcz25_0 := hz_ BK101
  have hfz25_0 := blk_frozen BK101.out 0
  go_wp2_with (first | ((with_reducible refine gate_callee (f := 76) rfl ?_); refine gl_ (some 21) rfl rfl Try.func76 #[.agg #[.slice A0_0 l0_0.length c0_0]] rfl ?_; (with_reducible refine (spec_l01N.calls k1 _ _ l0_0 t106 _ ?side1 ?side2 A11.out).mono ?_); (case side1 => exact c2_ HR0_0 HB); (case side2 => exact HC0_0.out); rintro e w26 ⟨rfl, hb⟩; refine ⟨_, rfl, ?_⟩; replace HO_9 := a1_ HO_9 hb; replace BK101 := a2_ BK101 hb; replace HB := b1_ HB hb; (try clear hb); (try clear hb2); (try clear hk); (try clear hi)))
  go_ret2
  exact ⟨_, t5_, rb_ HO_9.out, gb_ HB.out⟩
 rw [if_pos c12] at H
 have c12b0 : decide (x10_1 < t106) = true := decide_eq_true c12
 clear c12
 replace H := Option.bind_eq_some_iff.mp H
 obtain ⟨t107, A130, H⟩ := H
 replace H : (if t107 = a2 then (if x9_1.length < 17592186044416 then (spec_SphereOf.l0 k1 a1 a2 (x9_1 ++ [x10_1]) (wrap64 (x10_1 + 1)) l0_0) else (none)) else (spec_SphereOf.l0 k1 a1 a2 x9_1 (wrap64 (x10_1 + 1)) l0_0)) = some (r1, r2) := H
 have A13 := Aside0.mk A130
 clear A130
 by_cases c14 : t107 = a2
 rotate_left
 ·rw [if_neg c14] at H
  have c14b0 : (t107 == a2) = false := beq_eq_false_iff_ne.mpr c14
  have c14b1 : (t107 != a2) = true := bne_iff_ne.mpr c14
  have H' := Aside0.mk H
  clear H
  have hcz21_0 := hz_ BK101
  have hfz21_0 := blk_frozen BK101.out 0
  go_wp2_with (first | ((with_reducible refine gate_callee (f := 76) rfl ?_); refine gl_ (some 21) rfl rfl Try.func76 #[.agg #[.slice A0_0 l0_0.length c0_0]] rfl ?_; (with_reducible refine (spec_l01N.calls k1 _ _ l0_0 t106 _ ?side1 ?side2 A11.out).mono ?_); (case side1 => exact c2_ HR0_0 HB); (case side2 => exact HC0_0.out); rintro e w22 ⟨rfl, hb⟩; refine ⟨_, rfl, ?_⟩; replace HO_9 := a1_ HO_9 hb; replace BK101 := a2_ BK101 hb; replace HB := b1_ HB hb; (try clear hb); (try clear hb2); (try clear hk); (try clear hi); have hcz23_0 := hz_ BK101; have hfz23_0 := blk_frozen BK101.out 0) | ((with_reducible refine gate_callee (f := 61) rfl ?_); refine gl_ (some 28) rfl rfl Try.func61 #[.agg #[.slice A0_0 l0_0.length c0_0], .int .i64 x10_1, .int .i64 a1] rfl ?_; (with_reducible refine (spec_l01Distance.calls k1 _ _ l0_0 x10_1 a1 t107 _ ?side1 ?side2 A13.out).mono ?_); (case side1 => exact c2_ HR0_0 HB); (case side2 => exact HC0_0.out); rintro e w24 ⟨rfl, hb⟩; refine ⟨_, rfl, ?_⟩; replace HO_9 := a1_ HO_9 hb; replace BK101 := a2_ BK101 hb; replace HB := b1_ HB hb; (try clear hb); (try clear hb2); (try clear hk); (try clear hi)))
  go_roundg k1
  case measure => have := HK1.out; omega
  case rel => exact ⟨(x9_1), (wrap64 (x10_1 + 1)), t2_, H', ⟨by have := HK1.out; omega⟩, ⟨rb_ HO_9.out⟩, ⟨bb_ BK101.out⟩, ⟨gb_ HB.out⟩⟩
 rw [if_pos c14] at H
 have c14b0 : (t107 == a2) = true := beq_iff_eq.mpr c14
 have c14b1 : (t107 != a2) = false := bne_eq_false_iff_eq.mpr c14
 clear c14
 by_cases c15 : x9_1.length < 17592186044416
 rotate_left
 ·rw [if_neg c15] at H
  exact absurd H (by simp)
 rw [if_pos c15] at H
 have LMc15 := Aside0.mk c15
 clear c15
 obtain ⟨y108, hy108⟩ : ∃ y_ : List Int, y_ = (x9_1 ++ [x10_1]) := ⟨_, rfl⟩
 replace H : (spec_SphereOf.l0 k1 a1 a2 y108 (wrap64 (x10_1 + 1)) l0_0) = some (r1, r2) := y_ H
 have Ny108 := Aside0.mk hy108
 clear hy108
 have H' := Aside0.mk H
 clear H
 have hcz16_0 := hz_ BK101
 have hfz16_0 := blk_frozen BK101.out 0
 go_wp2_with (first | ((with_reducible refine gate_callee (f := 76) rfl ?_); refine gl_ (some 21) rfl rfl Try.func76 #[.agg #[.slice A0_0 l0_0.length c0_0]] rfl ?_; (with_reducible refine (spec_l01N.calls k1 _ _ l0_0 t106 _ ?side1 ?side2 A11.out).mono ?_); (case side1 => exact c2_ HR0_0 HB); (case side2 => exact HC0_0.out); rintro e w17 ⟨rfl, hb⟩; refine ⟨_, rfl, ?_⟩; replace HO_9 := a1_ HO_9 hb; replace BK101 := a2_ BK101 hb; replace HB := b1_ HB hb; (try clear hb); (try clear hb2); (try clear hk); (try clear hi); have hcz18_0 := hz_ BK101; have hfz18_0 := blk_frozen BK101.out 0) | ((with_reducible refine gate_callee (f := 61) rfl ?_); refine gl_ (some 28) rfl rfl Try.func61 #[.agg #[.slice A0_0 l0_0.length c0_0], .int .i64 x10_1, .int .i64 a1] rfl ?_; (with_reducible refine (spec_l01Distance.calls k1 _ _ l0_0 x10_1 a1 t107 _ ?side1 ?side2 A13.out).mono ?_); (case side1 => exact c2_ HR0_0 HB); (case side2 => exact HC0_0.out); rintro e w19 ⟨rfl, hb⟩; refine ⟨_, rfl, ?_⟩; replace HO_9 := a1_ HO_9 hb; replace BK101 := a2_ BK101 hb; replace HB := b1_ HB hb; (try clear hb); (try clear hb2); (try clear hk); (try clear hi)) | ((with_reducible refine gate_builtin (b := .append) (xs := #[.tmp 31, .tmp 33]) rfl ?_); at_builtin; refine Kd.R_append (Kd.int .i64) (w0 := w) w.heap.size rfl (.tmp 31) (.tmp 33) 24 2 (.int .i64 0) 8 rfl Try.underlying24 info2 rfl (by decide) (by omega) u9 x9_1 x10_1 [.int .i64 x10_1] (fun _ => True) (fun _ => False) rfl rfl ?aP (fun _ hk => hk.elim) ?aF ?aO ?aB ?aS ?aL ?_; (case aP => exact rfl); (case aB => exact (gb_ HB.out)); (case aF => exact (fun _ _ => trivial)); (case aO => exact (rb_ HO_9.out)); (case aS => exact (below_size (gb_ HB.out))); (case aL => have := LMc15.out; omega); intro v109 w20 ho hb hg hat; rw [← Ny108.out] at ho; have n0_ := Aside0.mk (blk_grown (g := gb101) (o := .cells #[.slice A0_0 l0_0.length c0_0] 26 (0, 0)) (bb_ BK101.out) hg (Kd.R_ne HO_9.out BK101.out (by decide))); have n1_ := Aside0.mk (hb); have n2_ := Aside0.mk (ho); clear BK101 HB HO_9; have BK101 := n0_; have HB := n1_; have HO110 := n2_; clear n0_ n1_ n2_ ho hb hg hat))
 go_roundg k1
 case measure => have := HK1.out; omega
 case rel => exact ⟨(y108), (wrap64 (x10_1 + 1)), t2_, H', ⟨by have := HK1.out; omega⟩, ⟨rb_ HO110.out⟩, ⟨bb_ BK101.out⟩, ⟨gb_ HB.out⟩⟩
def spec_BallSize.f (k : Nat) (l0_0 : List Int) (a1 : Int) : Option (Int × Int) := (spec_l01Radius.f k l0_0 0 a1).bind fun t102 => (if t102 = 0 then ((spec_l01Size.f k l0_0 a1).bind fun t103 => (some (t103, 0))) else (some (0, t102)))
set_option maxHeartbeats 8000000 in
set_option maxRecDepth 100000 in
theorem spec_BallSize.calls (k : Nat) (A0_0 : Option Addr) (c0_0 : Nat) (l0_0 : List Int) (a1 : Int) (r1 : Int) (r2 : Int) (w : World) (hr0_0 : Kd.C (Kd.int .i64) w A0_0 l0_0.length l0_0) (hc0_0 : l0_0.length ≤ c0_0) (h : spec_BallSize.f k l0_0 a1 = some (r1, r2)) :
  Calls Try.prog 28 #[.agg #[.slice A0_0 l0_0.length c0_0], .int .i64 a1] w fun e w' => e = .returned (.tuple #[.int .i64 r1, .int .i64 r2]) ∧ Below w.heap.size w w' := by
 have hu26 := Try.underlying26
 have HR0_0 := Aside0.mk hr0_0
 have HC0_0 := Aside0.mk hc0_0
 clear hr0_0 hc0_0
 have HB := Aside0.mk (Below.refl w.heap.size w)
 have H : ((spec_l01Radius.f k l0_0 0 a1).bind fun t102 => (if t102 = 0 then ((spec_l01Size.f k l0_0 a1).bind fun t103 => (some (t103, 0))) else (some (0, t102)))) = some (r1, r2) := h
 clear h
 replace H := Option.bind_eq_some_iff.mp H
 obtain ⟨t102, A30, H⟩ := H
 replace H : (if t102 = 0 then ((spec_l01Size.f k l0_0 a1).bind fun t103 => (some (t103, 0))) else (some (0, t102))) = some (r1, r2) := H
 have A3 := Aside0.mk A30
 clear A30
 by_cases c4 : t102 = 0
 rotate_left
 ·rw [if_neg c4] at H
  have c4b0 : (t102 == 0) = false := beq_eq_false_iff_ne.mpr c4
  have c4b1 : (t102 != 0) = true := bne_iff_ne.mpr c4
  simp only [Option.some.injEq, Prod.mk.injEq] at H
  obtain ⟨rfl, rfl⟩ := H
  go_enter Try.func28, Try.ntmps28
  go_wp2_with (first | ((with_reducible refine gate_dst (N := 2) rfl ?_); refine bx_ (N := 2) (cs := #[.slice A0_0 l0_0.length c0_0]) (t := 26) rfl rfl ?_; intro gb101 hg w11 hbox hb; have n0_ := b1_ HB hb; have n1_ := Aside0.mk (hbox); have n2_ := ge_ hg HB; have n3_ := ge_ hg HB; clear HB; have HB := n0_; have BK101 := n1_; have GW101 := n2_; have GE101 := n3_; clear n0_ n1_ n2_ n3_ hb hbox hg; have hcz12_0 := hz_ BK101; have hfz12_0 := blk_frozen BK101.out 0) | ((with_reducible refine gate_callee (f := 71) rfl ?_); refine gl_ (some 9) rfl rfl Try.func71 #[.agg #[.slice A0_0 l0_0.length c0_0], .int .i64 0, .int .i64 a1] rfl ?_; (with_reducible refine (spec_l01Radius.calls k _ _ l0_0 0 a1 t102 _ ?side1 ?side2 A3.out).mono ?_); (case side1 => exact c2_ HR0_0 HB); (case side2 => exact HC0_0.out); rintro e w13 ⟨rfl, hb⟩; refine ⟨_, rfl, ?_⟩; replace BK101 := a2_ BK101 hb; replace HB := b1_ HB hb; (try clear hb); (try clear hb2); (try clear hk); (try clear hi)))
  go_ret2
  exact ⟨t5_, gb_ HB.out⟩

 rw [if_pos c4] at H
 have c4b0 : (t102 == 0) = true := beq_iff_eq.mpr c4
 have c4b1 : (t102 != 0) = false := bne_eq_false_iff_eq.mpr c4
 clear c4
 replace H := Option.bind_eq_some_iff.mp H
 obtain ⟨t103, A50, H⟩ := H
 replace H : (some (t103, 0)) = some (r1, r2) := H
 have A5 := Aside0.mk A50
 clear A50
 simp only [Option.some.injEq, Prod.mk.injEq] at H
 obtain ⟨rfl, rfl⟩ := H
 go_enter Try.func28, Try.ntmps28
 go_wp2_with (first | ((with_reducible refine gate_dst (N := 2) rfl ?_); refine bx_ (N := 2) (cs := #[.slice A0_0 l0_0.length c0_0]) (t := 26) rfl rfl ?_; intro gb101 hg w6 hbox hb; have n0_ := b1_ HB hb; have n1_ := Aside0.mk (hbox); have n2_ := ge_ hg HB; have n3_ := ge_ hg HB; clear HB; have HB := n0_; have BK101 := n1_; have GW101 := n2_; have GE101 := n3_; clear n0_ n1_ n2_ n3_ hb hbox hg; have hcz7_0 := hz_ BK101; have hfz7_0 := blk_frozen BK101.out 0) | ((with_reducible refine gate_callee (f := 71) rfl ?_); refine gl_ (some 9) rfl rfl Try.func71 #[.agg #[.slice A0_0 l0_0.length c0_0], .int .i64 0, .int .i64 a1] rfl ?_; (with_reducible refine (spec_l01Radius.calls k _ _ l0_0 0 a1 t102 _ ?side1 ?side2 A3.out).mono ?_); (case side1 => exact c2_ HR0_0 HB); (case side2 => exact HC0_0.out); rintro e w8 ⟨rfl, hb⟩; refine ⟨_, rfl, ?_⟩; replace BK101 := a2_ BK101 hb; replace HB := b1_ HB hb; (try clear hb); (try clear hb2); (try clear hk); (try clear hi); have hcz9_0 := hz_ BK101; have hfz9_0 := blk_frozen BK101.out 0) | ((with_reducible refine gate_callee (f := 77) rfl ?_); refine gl_ (some 15) rfl rfl Try.func77 #[.agg #[.slice A0_0 l0_0.length c0_0], .int .i64 a1] rfl ?_; (with_reducible refine (spec_l01Size.calls k _ _ l0_0 a1 t103 _ ?side1 ?side2 A5.out).mono ?_); (case side1 => exact c2_ HR0_0 HB); (case side2 => exact HC0_0.out); rintro e w10 ⟨rfl, hb⟩; refine ⟨_, rfl, ?_⟩; replace BK101 := a2_ BK101 hb; replace HB := b1_ HB hb; (try clear hb); (try clear hb2); (try clear hk); (try clear hi)))
 go_ret2
 exact ⟨t5_, gb_ HB.out⟩

def spec_l01Draw.f (k : Nat) (s0_0 : List Int) (s0_1 : Int) (s0_2 : Int) : Option (List Int × Int × Int) := (spec_l01Pick.f s0_0 s0_1 s0_2 (([16, 81, 256, 256] : List Int))).bind fun bt105 => ((spec_l01DrawOf.f k s0_0 bt105.2.1 bt105.2.2 bt105.1).bind fun bt108 => (some (bt108.1, bt108.2.1, bt108.2.2)))
set_option maxHeartbeats 8000000 in
set_option maxRecDepth 100000 in
theorem spec_l01Draw.calls (k : Nat) (g : Nat) (s0_0 : List Int) (s0_1 : Int) (s0_2 : Int) (r1 : List Int) (r2 : Int) (r3 : Int) (w0 w : World) (hI : IsS91 w0 w g s0_0 s0_1 s0_2) (hB : Below w0.heap.size w0 w) (h : spec_l01Draw.f k s0_0 s0_1 s0_2 = some (r1, r2, r3)) :
  Calls Try.prog 79 #[.pointer (some ⟨g, 0, none⟩)] w fun e w' => ∃ v0_ : Value, e = .returned (.agg #[v0_]) ∧ Kd.R (Kd.int .i64) 2 w' w.heap.size (fun _ => True) v0_ r1 ∧ IsS91 w0 w' g s0_0 r2 r3 ∧ Below w0.heap.size w0 w' ∧ KeepBut w w' g none := by
 have hu26 := Try.underlying26
 have HI0 := Aside0.mk hI
 have HK := Aside0.mk (KeepBut.refl w g none)
 have HL := Aside0.mk hB.size
 clear hI
 have HW0 := Aside0.mk hB.size
 have HB := Aside0.mk hB
 clear hB
 have H : ((spec_l01Pick.f s0_0 s0_1 s0_2 (([16, 81, 256, 256] : List Int))).bind fun bt105 => ((spec_l01DrawOf.f k s0_0 bt105.2.1 bt105.2.2 bt105.1).bind fun bt108 => (some (bt108.1, bt108.2.1, bt108.2.2)))) = some (r1, r2, r3) := h
 clear h
 obtain ⟨y102, hy102⟩ : ∃ y_ : List Int, y_ = (([16, 81, 256, 256] : List Int)) := ⟨_, rfl⟩
 replace H : ((spec_l01Pick.f s0_0 s0_1 s0_2 y102).bind fun bt105 => ((spec_l01DrawOf.f k s0_0 bt105.2.1 bt105.2.2 bt105.1).bind fun bt108 => (some (bt108.1, bt108.2.1, bt108.2.2)))) = some (r1, r2, r3) := y_ H
 have Ny102 := Aside0.mk hy102
 clear hy102
 replace H := Option.bind_eq_some_iff.mp H
 obtain ⟨⟨t105, t106, t107⟩, A20, H⟩ := H
 replace H : ((spec_l01DrawOf.f k s0_0 t106 t107 t105).bind fun bt108 => (some (bt108.1, bt108.2.1, bt108.2.2))) = some (r1, r2, r3) := H
 have A2 := Aside0.mk A20
 clear A20
 replace H := Option.bind_eq_some_iff.mp H
 obtain ⟨⟨t108, t111, t112⟩, A30, H⟩ := H
 replace H : (some (t108, t111, t112)) = some (r1, r2, r3) := H
 have A3 := Aside0.mk A30
 clear A30
 simp only [Option.some.injEq, Prod.mk.injEq] at H
 obtain ⟨rfl, rfl, rfl⟩ := H
 go_enter Try.func79, Try.ntmps79
 go_wp2_with (first | ((with_reducible refine gate_dst (N := 2) rfl ?_); refine bx_ (N := 2) (cs := #[.slice none 0 0]) (t := 26) rfl rfl ?_; intro gb101 hg w4 hbox hb; have n0_ := i1_ HI0 hb; have n1_ := k1_ HK hb; have n2_ := b1_ HB hb; have n3_ := Aside0.mk (hbox); have n4_ := gk_ hg HK; have n5_ := Aside0.mk ((Nat.le_trans HW0.out (by rw [hg]; exact (keep_size (w := w) (g := g) (row := none) (kb_ HK)) : w.heap.size ≤ gb101) : w0.heap.size ≤ gb101)); have n6_ := il_ hg HI0; have n7_ := ir_ hg HI0; clear HI0 HK HB; have HI0 := n0_; have HK := n1_; have HB := n2_; have BK101 := n3_; have GW101 := n4_; have GE101 := n5_; have NB0_101 := n6_; have NB101_0 := n7_; clear n0_ n1_ n2_ n3_ n4_ n5_ n6_ n7_ hb hbox hg) | ((with_reducible refine gate_dst (N := 5) rfl ?_); refine Kd.R_lit (Kd.int .i64) _ 2 ?hg (N := 5) ?hd (xs := ([16, 81, 256, 256] : List Int)) (inner := [.int .i64 16, .int .i64 81, .int .i64 256, .int .i64 256]) (ok := fun _ => True) (okp := fun _ => True) ?hr ?hp (fun _ hk => hk) trivial (Below.refl _ _) (Nat.le_refl _) (by simp) ?_; (case hd => rfl); (case hg => rfl); (case hr => exact t3_); (case hp => exact (Reps.one (show Kd.M (Kd.int .i64) _ _ _ 16 [.int .i64 16] from rfl) (Reps.one (show Kd.M (Kd.int .i64) _ _ _ 81 [.int .i64 81] from rfl) (Reps.one (show Kd.M (Kd.int .i64) _ _ _ 256 [.int .i64 256] from rfl) (Reps.one (show Kd.M (Kd.int .i64) _ _ _ 256 [.int .i64 256] from rfl) (Reps.none _ _)))))); intro v103 w5 ho6 hb hg_ hnew_; clear hg_ hnew_; (first | rw [← Ny102.out] at ho6 | (simp only [Int.reduceToNat] at ho6; rw [← Ny102.out] at ho6)); have n0_ := Aside0.mk (Kd.R_lower ho6 (keep_size (w := w) (g := g) (row := none) (kb_ HK))); have n1_ := i1_ HI0 hb; have n2_ := a2_ BK101 hb; have n3_ := k1_ HK hb; have n4_ := b1_ HB hb; clear HI0 BK101 HK HB; have HO104 := n0_; have HI0 := n1_; have BK101 := n2_; have HK := n3_; have HB := n4_; clear n0_ n1_ n2_ n3_ n4_ hb ho6; obtain ⟨Ao7, co7, eo7⟩ := Kd.R_slice HO104.out; subst eo7) | ((with_reducible refine gate_callee (f := 82) rfl ?_); refine gl_ (some 6) rfl rfl Try.func82 #[.pointer (some ⟨g, 0, none⟩), .slice Ao7 y102.length co7] rfl ?_; (with_reducible refine (spec_l01Pick.calls g s0_0 s0_1 s0_2 _ _ y102 t105 t106 t107 w0 _ ?side1 ?side2 ?side3 ?side4 ?side5 A2.out).mono ?_); (case side1 => exact i_ HI0); (case side2 => exact gb_ HB.out); (case side3 => exact c1_ HO104); (case side4 => exact (Kd.R_reads' HO104.out).2.1); (case side5 => exact far_slice (IsS91.own_ne HI0.out HO104.out (by decide))); rintro e w8 ⟨rfl, hi, hb, hk⟩; refine ⟨_, rfl, ?_⟩; replace BK101 := kx_ BK101 NB101_0 hk; replace HO104 := kr_ HI0 HO104 hk; replace HK := Aside0.mk (KeepBut.trans (kb_ HK) hk (.inl rfl)); replace HB := Aside0.mk (hb); replace HI0 := Aside0.mk (hi); (try clear hb); (try clear hb2); (try clear hk); (try clear hi)) | ((with_reducible refine gate_callee (f := 114) rfl ?_); refine gl_ (some 7) rfl rfl Try.func114 #[.pointer (some ⟨g, 0, none⟩), .int .i64 t105] rfl ?_; (with_reducible refine (spec_l01DrawOf.calls k g s0_0 t106 t107 t105 t108 t111 t112 w0 _ ?side1 ?side2 A3.out).mono ?_); (case side1 => exact i_ HI0); (case side2 => exact gb_ HB.out); rintro e w9 ⟨v109, rfl, ho0, hi, hb, hk⟩; refine ⟨_, rfl, ?_⟩; replace BK101 := kx_ BK101 NB101_0 hk; have HO110 := Aside0.mk (Kd.R_lower (Kd.R_new' ho0 (Kd.R_lt (rb_ HO104.out))) (keep_size (w := w) (g := g) (row := none) (kb_ HK))); replace HO104 := Aside0.mk (Kd.R_mono (Kd.R_told (Kd.R_oldK (IsS91.apart (show IsS91 w0 _ g s0_0 t106 t107 from i_ HI0) (rb_ HO104.out) (by decide)) hk) (Kd.R_base ho0)) (fun _ h_ => h_.1)); replace HK := Aside0.mk (KeepBut.trans (kb_ HK) hk (.inl rfl)); replace HB := Aside0.mk (hb); replace HI0 := Aside0.mk (hi); (try clear hb); (try clear hb2); (try clear hk); (try clear hi); (try clear ho0); obtain ⟨Ao10, co10, eo10⟩ := Kd.R_slice HO110.out; subst eo10; have hnb11 := NB101_0.out; have hnc11 := NB0_101.out; have hcz12_0 := hz_ BK101; have hfz12_0 := blk_frozen BK101.out 0))
 refine bodyPost_ret (results_cell_row rfl _ _ gb101 26 #[.slice Ao10 t108.length co10] (0, 0) _ rfl (by (with_reducible repeat (first | refine blk_drewN ?_ _ | refine blk_drew ?_ | refine blk_alloc ?_ _)); refine blk_put (cs := #[.slice none 0 0]) ?_ 0 _ rfl; (with_reducible repeat (first | refine blk_drewN ?_ _ | refine blk_drew ?_ | refine blk_alloc ?_ _)); exact BK101.out) Try.underlying26 rfl (by kernel_rfl)) rfl ?_
 exact ⟨_, t5_, by (with_reducible repeat (first | apply Kd.R_alloc | apply Kd.R_drewN | apply Kd.R_drew)); exact Kd.R_mono (Kd.R_far (p := ⟨gb101, 0, none⟩) (Kd.R_types HO110.out BK101.out (by decide)) (fun _ hk => hk.2) (.slice Ao10 t108.length co10)) (fun _ hk => trivial), i_ HI0, gb_ HB.out, kb_ HK⟩
def impl_SumOfWords.f (k : Nat) (l0_0 : List Int) (a1 : Int) (a2 : Int) : Option (Int × Int) := (impl_wordCode.f k l0_0 (([a1, a2] : List Int))).bind fun t105 => (if t105 = 0 then ((impl_sumWords.f l0_0 a1 a2).bind fun t106 => (some (t106, 0))) else (some (0, t105)))
set_option maxHeartbeats 8000000 in
set_option maxRecDepth 100000 in
theorem impl_SumOfWords.calls (k : Nat) (A0_0 : Option Addr) (c0_0 : Nat) (l0_0 : List Int) (a1 : Int) (a2 : Int) (r1 : Int) (r2 : Int) (w : World) (hr0_0 : Kd.C (Kd.int .i64) w A0_0 l0_0.length l0_0) (hc0_0 : l0_0.length ≤ c0_0) (h : impl_SumOfWords.f k l0_0 a1 a2 = some (r1, r2)) :
  Calls Try.prog 8 #[.agg #[.slice A0_0 l0_0.length c0_0], .int .i64 a1, .int .i64 a2] w fun e w' => e = .returned (.tuple #[.int .i64 r1, .int .i64 r2]) ∧ Below w.heap.size w w' := by
 have hu26 := Try.underlying26
 have HR0_0 := Aside0.mk hr0_0
 have HC0_0 := Aside0.mk hc0_0
 clear hr0_0 hc0_0
 have HB := Aside0.mk (Below.refl w.heap.size w)
 have H : ((impl_wordCode.f k l0_0 (([a1, a2] : List Int))).bind fun t105 => (if t105 = 0 then ((impl_sumWords.f l0_0 a1 a2).bind fun t106 => (some (t106, 0))) else (some (0, t105)))) = some (r1, r2) := h
 clear h
 obtain ⟨y102, hy102⟩ : ∃ y_ : List Int, y_ = (([a1, a2] : List Int)) := ⟨_, rfl⟩
 replace H : ((impl_wordCode.f k l0_0 y102).bind fun t105 => (if t105 = 0 then ((impl_sumWords.f l0_0 a1 a2).bind fun t106 => (some (t106, 0))) else (some (0, t105)))) = some (r1, r2) := y_ H
 have Ny102 := Aside0.mk hy102
 clear hy102
 replace H := Option.bind_eq_some_iff.mp H
 obtain ⟨t105, A40, H⟩ := H
 replace H : (if t105 = 0 then ((impl_sumWords.f l0_0 a1 a2).bind fun t106 => (some (t106, 0))) else (some (0, t105))) = some (r1, r2) := H
 have A4 := Aside0.mk A40
 clear A40
 by_cases c5 : t105 = 0
 rotate_left
 ·rw [if_neg c5] at H
  have c5b0 : (t105 == 0) = false := beq_eq_false_iff_ne.mpr c5
  have c5b1 : (t105 != 0) = true := bne_iff_ne.mpr c5
  simp only [Option.some.injEq, Prod.mk.injEq] at H
  obtain ⟨rfl, rfl⟩ := H
  go_enter Try.func8, Try.ntmps8
  go_wp2_with (first | ((with_reducible refine gate_dst (N := 3) rfl ?_); refine bx_ (N := 3) (cs := #[.slice A0_0 l0_0.length c0_0]) (t := 26) rfl rfl ?_; intro gb101 hg w15 hbox hb; have n0_ := b1_ HB hb; have n1_ := Aside0.mk (hbox); have n2_ := ge_ hg HB; have n3_ := ge_ hg HB; clear HB; have HB := n0_; have BK101 := n1_; have GW101 := n2_; have GE101 := n3_; clear n0_ n1_ n2_ n3_ hb hbox hg; have hcz16_0 := hz_ BK101; have hfz16_0 := blk_frozen BK101.out 0) | ((with_reducible refine gate_dst (N := 12) rfl ?_); refine Kd.R_lit (Kd.int .i64) _ 2 ?hg (N := 12) ?hd (xs := ([a1, a2] : List Int)) (inner := [.int .i64 a1, .int .i64 a2]) (ok := fun _ => True) (okp := fun _ => True) ?hr ?hp (fun _ hk => hk) trivial (Below.refl _ _) (Nat.le_refl _) (by simp) ?_; (case hd => rfl); (case hg => rfl); (case hr => exact t3_); (case hp => exact (Reps.one (show Kd.M (Kd.int .i64) _ _ _ a1 [.int .i64 a1] from rfl) (Reps.one (show Kd.M (Kd.int .i64) _ _ _ a2 [.int .i64 a2] from rfl) (Reps.none _ _)))); intro v103 w17 ho18 hb hg_ hnew_; clear hg_ hnew_; (first | rw [← Ny102.out] at ho18 | (simp only [Int.reduceToNat] at ho18; rw [← Ny102.out] at ho18)); have n0_ := Aside0.mk (Kd.R_lower ho18 (below_size (gb_ HB.out))); have n1_ := a2_ BK101 hb; have n2_ := b1_ HB hb; clear BK101 HB; have HO104 := n0_; have BK101 := n1_; have HB := n2_; clear n0_ n1_ n2_ hb ho18; obtain ⟨Ao19, co19, eo19⟩ := Kd.R_slice HO104.out; subst eo19) | ((with_reducible refine gate_callee (f := 56) rfl ?_); refine gl_ (some 13) rfl rfl Try.func56 #[.agg #[.slice A0_0 l0_0.length c0_0], .slice Ao19 y102.length co19] rfl ?_; (with_reducible refine (impl_wordCode.calls k _ _ l0_0 _ _ y102 t105 _ ?side1 ?side2 ?side3 ?side4 A4.out).mono ?_); (case side1 => exact c2_ HR0_0 HB); (case side2 => exact HC0_0.out); (case side3 => exact c1_ HO104); (case side4 => exact (Kd.R_reads' HO104.out).2.1); rintro e w20 ⟨rfl, hb⟩; refine ⟨_, rfl, ?_⟩; replace HO104 := a1_ HO104 hb; replace BK101 := a2_ BK101 hb; replace HB := b1_ HB hb; (try clear hb); (try clear hb2); (try clear hk); (try clear hi)))
  go_ret2
  exact ⟨t5_, gb_ HB.out⟩

 rw [if_pos c5] at H
 have c5b0 : (t105 == 0) = true := beq_iff_eq.mpr c5
 have c5b1 : (t105 != 0) = false := bne_eq_false_iff_eq.mpr c5
 clear c5
 replace H := Option.bind_eq_some_iff.mp H
 obtain ⟨t106, A60, H⟩ := H
 replace H : (some (t106, 0)) = some (r1, r2) := H
 have A6 := Aside0.mk A60
 clear A60
 simp only [Option.some.injEq, Prod.mk.injEq] at H
 obtain ⟨rfl, rfl⟩ := H
 go_enter Try.func8, Try.ntmps8
 go_wp2_with (first | ((with_reducible refine gate_dst (N := 3) rfl ?_); refine bx_ (N := 3) (cs := #[.slice A0_0 l0_0.length c0_0]) (t := 26) rfl rfl ?_; intro gb101 hg w7 hbox hb; have n0_ := b1_ HB hb; have n1_ := Aside0.mk (hbox); have n2_ := ge_ hg HB; have n3_ := ge_ hg HB; clear HB; have HB := n0_; have BK101 := n1_; have GW101 := n2_; have GE101 := n3_; clear n0_ n1_ n2_ n3_ hb hbox hg; have hcz8_0 := hz_ BK101; have hfz8_0 := blk_frozen BK101.out 0) | ((with_reducible refine gate_dst (N := 12) rfl ?_); refine Kd.R_lit (Kd.int .i64) _ 2 ?hg (N := 12) ?hd (xs := ([a1, a2] : List Int)) (inner := [.int .i64 a1, .int .i64 a2]) (ok := fun _ => True) (okp := fun _ => True) ?hr ?hp (fun _ hk => hk) trivial (Below.refl _ _) (Nat.le_refl _) (by simp) ?_; (case hd => rfl); (case hg => rfl); (case hr => exact t3_); (case hp => exact (Reps.one (show Kd.M (Kd.int .i64) _ _ _ a1 [.int .i64 a1] from rfl) (Reps.one (show Kd.M (Kd.int .i64) _ _ _ a2 [.int .i64 a2] from rfl) (Reps.none _ _)))); intro v103 w9 ho10 hb hg_ hnew_; clear hg_ hnew_; (first | rw [← Ny102.out] at ho10 | (simp only [Int.reduceToNat] at ho10; rw [← Ny102.out] at ho10)); have n0_ := Aside0.mk (Kd.R_lower ho10 (below_size (gb_ HB.out))); have n1_ := a2_ BK101 hb; have n2_ := b1_ HB hb; clear BK101 HB; have HO104 := n0_; have BK101 := n1_; have HB := n2_; clear n0_ n1_ n2_ hb ho10; obtain ⟨Ao11, co11, eo11⟩ := Kd.R_slice HO104.out; subst eo11) | ((with_reducible refine gate_callee (f := 56) rfl ?_); refine gl_ (some 13) rfl rfl Try.func56 #[.agg #[.slice A0_0 l0_0.length c0_0], .slice Ao11 y102.length co11] rfl ?_; (with_reducible refine (impl_wordCode.calls k _ _ l0_0 _ _ y102 t105 _ ?side1 ?side2 ?side3 ?side4 A4.out).mono ?_); (case side1 => exact c2_ HR0_0 HB); (case side2 => exact HC0_0.out); (case side3 => exact c1_ HO104); (case side4 => exact (Kd.R_reads' HO104.out).2.1); rintro e w12 ⟨rfl, hb⟩; refine ⟨_, rfl, ?_⟩; replace HO104 := a1_ HO104 hb; replace BK101 := a2_ BK101 hb; replace HB := b1_ HB hb; (try clear hb); (try clear hb2); (try clear hk); (try clear hi); have hcz13_0 := hz_ BK101; have hfz13_0 := blk_frozen BK101.out 0) | ((with_reducible refine gate_callee (f := 57) rfl ?_); refine gl_ (some 20) rfl rfl Try.func57 #[.agg #[.slice A0_0 l0_0.length c0_0], .int .i64 a1, .int .i64 a2] rfl ?_; (with_reducible refine (impl_sumWords.calls _ _ l0_0 a1 a2 t106 _ ?side1 ?side2 A6.out).mono ?_); (case side1 => exact c2_ HR0_0 HB); (case side2 => exact HC0_0.out); rintro e w14 ⟨rfl, hb⟩; refine ⟨_, rfl, ?_⟩; replace HO104 := a1_ HO104 hb; replace BK101 := a2_ BK101 hb; replace HB := b1_ HB hb; (try clear hb); (try clear hb2); (try clear hk); (try clear hi)))
 go_ret2
 exact ⟨t5_, gb_ HB.out⟩
def spec_l01With.f (k : Nat) (l0 : List Int) : Option (List Int × Int × Int) := (spec_l01From.f k l0).bind fun bt102 => ((spec_l01Draw.f k bt102.1 bt102.2.1 bt102.2.2).bind fun bt106 => ((spec_l01N.f k bt106.1).bind fun t112 => ((spec_l01Near.f bt102.1 bt106.2.1 bt106.2.2 (wrap64 (t112 - 1))).bind fun bt113 => ((spec_l01N.f k bt106.1).bind fun t116 => ((spec_l01Near.f bt102.1 bt113.2.1 bt113.2.2 (wrap64 (t116 - 1))).bind fun bt117 => ((spec_l01Bad.f k bt102.1 bt117.2.1 bt117.2.2 bt106.1).bind fun bt120 => (some (bt120.1, bt113.1, bt117.1))))))))
def spec_l01With.T3 : Bool × List (List Nat × List Nat) := (true, [([], []), ([], []), ([1], [1]), ([2], [2]), ([0, 3, 2], [0, 3]), ([], []), ([], []), ([6, 4], [6]), ([7], [7]), ([5, 8, 7], [5, 8]), ([4, 9, 0, 1, 2, 3, 4], [4]), ([9, 10, 0, 1, 2, 3, 4, 5, 6, 7, 8, 9, 10], [9])])
def spec_l01With.B3 : List Nat := [0, 0, 2, 6, 15, 0, 0, 95, 223, 511, 1023, 2047]
theorem spec_l01With.tab3 : rtab .any (opsOf Try.f55 3) = spec_l01With.T3 := by kernel_rfl
theorem spec_l01With.bits3 : waitsOk spec_l01With.T3.2 spec_l01With.B3 = true := by kernel_rfl
set_option maxHeartbeats 8000000 in
set_option maxRecDepth 100000 in
theorem spec_l01With.calls (k : Nat) (A0 : Option Addr) (c0 : Nat) (l0 : List Int) (r1 : List Int) (r2 : Int) (r3 : Int) (w : World) (hr0 : Kd.C (Kd.int .u8) w A0 l0.length l0) (hc0 : l0.length ≤ c0) (h : spec_l01With.f k l0 = some (r1, r2, r3)) :
  Calls Try.prog 55 #[.slice A0 l0.length c0] w fun e w' => ∃ v0_ : Value, e = .returned (.tuple #[.agg #[v0_], .int .i64 r2, .int .i64 r3]) ∧ Kd.R (Kd.int .i64) 2 w' w.heap.size (fun _ => True) v0_ r1 ∧ Below w.heap.size w w' := by
 have hu26 := Try.underlying26
 have HR0 := Aside0.mk hr0
 have HC0 := Aside0.mk hc0
 clear hr0 hc0
 have HB := Aside0.mk (Below.refl w.heap.size w)
 have H : ((spec_l01From.f k l0).bind fun bt102 => ((spec_l01Draw.f k bt102.1 bt102.2.1 bt102.2.2).bind fun bt106 => ((spec_l01N.f k bt106.1).bind fun t112 => ((spec_l01Near.f bt102.1 bt106.2.1 bt106.2.2 (wrap64 (t112 - 1))).bind fun bt113 => ((spec_l01N.f k bt106.1).bind fun t116 => ((spec_l01Near.f bt102.1 bt113.2.1 bt113.2.2 (wrap64 (t116 - 1))).bind fun bt117 => ((spec_l01Bad.f k bt102.1 bt117.2.1 bt117.2.2 bt106.1).bind fun bt120 => (some (bt120.1, bt113.1, bt117.1))))))))) = some (r1, r2, r3) := h
 clear h
 replace H := Option.bind_eq_some_iff.mp H
 obtain ⟨⟨t102, t103, t104⟩, A20, H⟩ := H
 replace H : ((spec_l01Draw.f k t102 t103 t104).bind fun bt106 => ((spec_l01N.f k bt106.1).bind fun t112 => ((spec_l01Near.f t102 bt106.2.1 bt106.2.2 (wrap64 (t112 - 1))).bind fun bt113 => ((spec_l01N.f k bt106.1).bind fun t116 => ((spec_l01Near.f t102 bt113.2.1 bt113.2.2 (wrap64 (t116 - 1))).bind fun bt117 => ((spec_l01Bad.f k t102 bt117.2.1 bt117.2.2 bt106.1).bind fun bt120 => (some (bt120.1, bt113.1, bt117.1)))))))) = some (r1, r2, r3) := H
 have A2 := Aside0.mk A20
 clear A20
 replace H := Option.bind_eq_some_iff.mp H
 obtain ⟨⟨t106, t109, t110⟩, A30, H⟩ := H
 replace H : ((spec_l01N.f k t106).bind fun t112 => ((spec_l01Near.f t102 t109 t110 (wrap64 (t112 - 1))).bind fun bt113 => ((spec_l01N.f k t106).bind fun t116 => ((spec_l01Near.f t102 bt113.2.1 bt113.2.2 (wrap64 (t116 - 1))).bind fun bt117 => ((spec_l01Bad.f k t102 bt117.2.1 bt117.2.2 t106).bind fun bt120 => (some (bt120.1, bt113.1, bt117.1))))))) = some (r1, r2, r3) := H
 have A3 := Aside0.mk A30
 clear A30
 replace H := Option.bind_eq_some_iff.mp H
 obtain ⟨t112, A40, H⟩ := H
 replace H : ((spec_l01Near.f t102 t109 t110 (wrap64 (t112 - 1))).bind fun bt113 => ((spec_l01N.f k t106).bind fun t116 => ((spec_l01Near.f t102 bt113.2.1 bt113.2.2 (wrap64 (t116 - 1))).bind fun bt117 => ((spec_l01Bad.f k t102 bt117.2.1 bt117.2.2 t106).bind fun bt120 => (some (bt120.1, bt113.1, bt117.1)))))) = some (r1, r2, r3) := H
 have A4 := Aside0.mk A40
 clear A40
 replace H := Option.bind_eq_some_iff.mp H
 obtain ⟨⟨t113, t114, t115⟩, A50, H⟩ := H
 replace H : ((spec_l01N.f k t106).bind fun t116 => ((spec_l01Near.f t102 t114 t115 (wrap64 (t116 - 1))).bind fun bt117 => ((spec_l01Bad.f k t102 bt117.2.1 bt117.2.2 t106).bind fun bt120 => (some (bt120.1, t113, bt117.1))))) = some (r1, r2, r3) := H
 have A5 := Aside0.mk A50
 clear A50
 replace H := Option.bind_eq_some_iff.mp H
 obtain ⟨t116, A60, H⟩ := H
 replace H : ((spec_l01Near.f t102 t114 t115 (wrap64 (t116 - 1))).bind fun bt117 => ((spec_l01Bad.f k t102 bt117.2.1 bt117.2.2 t106).bind fun bt120 => (some (bt120.1, t113, bt117.1)))) = some (r1, r2, r3) := H
 have A6 := Aside0.mk A60
 clear A60
 replace H := Option.bind_eq_some_iff.mp H
 obtain ⟨⟨t117, t118, t119⟩, A70, H⟩ := H
 replace H : ((spec_l01Bad.f k t102 t118 t119 t106).bind fun bt120 => (some (bt120.1, t113, t117))) = some (r1, r2, r3) := H
 have A7 := Aside0.mk A70
 clear A70
 replace H := Option.bind_eq_some_iff.mp H
 obtain ⟨⟨t120, t123, t124⟩, A80, H⟩ := H
 replace H : (some (t120, t113, t117)) = some (r1, r2, r3) := H
 have A8 := Aside0.mk A80
 clear A80
 simp only [Option.some.injEq, Prod.mk.injEq] at H
 obtain ⟨rfl, rfl, rfl⟩ := H
 go_enter Try.func55, Try.ntmps55
 try go_wp2_with (first | ((with_reducible refine gate_dst (N := 2) rfl ?_); refine bx_ (N := 2) (cs := #[.slice none 0 0]) (t := 26) rfl rfl ?_; intro gb101 hg w9 hbox hb; have n0_ := b1_ HB hb; have n1_ := Aside0.mk (hbox); have n2_ := ge_ hg HB; have n3_ := ge_ hg HB; clear HB; have HB := n0_; have BK101 := n1_; have GW101 := n2_; have GE101 := n3_; clear n0_ n1_ n2_ n3_ hb hbox hg) | ((with_reducible refine gate_callee (f := 78) rfl ?_); refine gl_ (some 10) rfl rfl Try.func78 #[.slice A0 l0.length c0] rfl ?_; (with_reducible refine (spec_l01From.calls k _ _ l0 t102 t103 t104 w _ ?side1 ?side2 ?side3 A2.out).mono ?_); (case side1 => exact gb_ HB.out); (case side2 => exact HR0.out); (case side3 => exact HC0.out); rintro e w10 ⟨g105, rfl, hi, hb, hb2⟩; refine ⟨_, rfl, ?_⟩; replace HB := Aside0.mk (hb); have HI105 := Aside0.mk (hi); have NB105_101 := Aside0.mk (IsS91.ne_blk hi (blk_below (g := gb101) (o := .cells #[.slice none 0 0] 26 (0, 0)) (bb_ BK101.out) hb2) (by decide)); have NB101_105 := Aside0.mk (Ne.symm (IsS91.ne_blk hi (blk_below (g := gb101) (o := .cells #[.slice none 0 0] 26 (0, 0)) (bb_ BK101.out) hb2) (by decide))); replace BK101 := Aside0.mk (blk_below (g := gb101) (o := .cells #[.slice none 0 0] 26 (0, 0)) (bb_ BK101.out) hb2); (try clear hb); (try clear hb2); (try clear hk); (try clear hi)) | ((with_reducible refine gate_callee (f := 79) rfl ?_); refine gl_ (some 12) rfl rfl Try.func79 #[.pointer (some ⟨g105, 0, none⟩)] rfl ?_; (with_reducible refine (spec_l01Draw.calls k g105 t102 t103 t104 t106 t109 t110 w _ ?side1 ?side2 A3.out).mono ?_); (case side1 => exact i_ HI105); (case side2 => exact gb_ HB.out); rintro e w11 ⟨v107, rfl, ho0, hi, hb, hk⟩; refine ⟨_, rfl, ?_⟩; replace BK101 := kx_ BK101 NB101_105 hk; have HO108 := Aside0.mk (Kd.R_lower ho0 (below_size (gb_ HB.out))); replace HB := Aside0.mk (hb); replace HI105 := Aside0.mk (hi); (try clear hb); (try clear hb2); (try clear hk); (try clear hi); (try clear ho0)) | ((with_reducible refine gate_dst (N := 6) rfl ?_); refine bx_ (N := 6) (cs := #[.slice none 0 0]) (t := 26) rfl rfl ?_; intro gb111 hg w12 hbox hb; have n0_ := a1_ HO108 hb; have n1_ := a2_ BK101 hb; have n2_ := i1_ HI105 hb; have n3_ := b1_ HB hb; have n4_ := Aside0.mk (hbox); have n5_ := ge_ hg HB; have n6_ := ge_ hg HB; have n7_ := nl_ hg BK101; have n8_ := nr_ hg BK101; have n9_ := il_ hg HI105; have n10_ := ir_ hg HI105; clear HO108 BK101 HI105 HB; have HO108 := n0_; have BK101 := n1_; have HI105 := n2_; have HB := n3_; have BK111 := n4_; have GW111 := n5_; have GE111 := n6_; have NB101_111 := n7_; have NB111_101 := n8_; have NB105_111 := n9_; have NB111_105 := n10_; clear n0_ n1_ n2_ n3_ n4_ n5_ n6_ n7_ n8_ n9_ n10_ hb hbox hg; obtain ⟨Ao13, co13, eo13⟩ := Kd.R_slice HO108.out; subst eo13; have hnb14 := NB111_101.out; have hnc14 := NB101_111.out; have hnb15 := NB111_105.out; have hnc15 := NB105_111.out; have hcz16_0 := hz_ BK111; have hfz16_0 := blk_frozen BK111.out 0))
 have n0_ : Aside0 (Kd.R (Kd.int .i64) 2 (w12.setCell ⟨gb111, 0, none⟩ (.slice Ao13 t106.length co13)) w.heap.size (fun _ => True) (.slice Ao13 t106.length co13) t106) := ⟨by (with_reducible repeat (first | apply Kd.R_alloc | apply Kd.R_drewN | apply Kd.R_drew)); exact Kd.R_mono (Kd.R_far (p := ⟨gb111, 0, none⟩) (Kd.R_types HO108.out BK111.out (by decide)) (fun _ hk => hk.2) (.slice Ao13 t106.length co13)) (fun _ hk => trivial)⟩
 have n1_ : Aside0 ((w12.setCell ⟨gb111, 0, none⟩ (.slice Ao13 t106.length co13)).heap[gb101]? = some (.cells #[.slice none 0 0] 26 (0, 0))) := ⟨by (with_reducible repeat (first | refine blk_drewN ?_ _ | refine blk_drew ?_ | refine blk_alloc ?_ _)); refine blk_far ?_ NB101_111.out _; (with_reducible repeat (first | refine blk_drewN ?_ _ | refine blk_drew ?_ | refine blk_alloc ?_ _)); exact BK101.out⟩
 have n2_ : Aside0 ((w12.setCell ⟨gb111, 0, none⟩ (.slice Ao13 t106.length co13)).heap[gb111]? = some (.cells #[.slice Ao13 t106.length co13] 26 (0, 0))) := ⟨by (with_reducible repeat (first | refine blk_drewN ?_ _ | refine blk_drew ?_ | refine blk_alloc ?_ _)); refine blk_put (cs := #[.slice none 0 0]) ?_ 0 _ rfl; (with_reducible repeat (first | refine blk_drewN ?_ _ | refine blk_drew ?_ | refine blk_alloc ?_ _)); exact BK111.out⟩
 have n3_ : Aside0 (IsS91 w (w12.setCell ⟨gb111, 0, none⟩ (.slice Ao13 t106.length co13)) g105 t102 t109 t110) := ⟨i_ HI105⟩
 have n4_ : Aside0 (Below w.heap.size w (w12.setCell ⟨gb111, 0, none⟩ (.slice Ao13 t106.length co13))) := ⟨gb_ HB.out⟩
 (try clear HO108)
 (try clear BK101)
 (try clear BK111)
 (try clear HI105)
 (try clear HB)
 generalize (w12.setCell ⟨gb111, 0, none⟩ (.slice Ao13 t106.length co13)) = w17 at n0_ n1_ n2_ n3_ n4_ ⊢
 have HO108 := n0_
 have BK101 := n1_
 have BK111 := n2_
 have HI105 := n3_
 have HB := n4_
 clear n0_ n1_ n2_ n3_ n4_
 replace HO108 := Aside0.mk (Kd.R_drew HO108.out)
 replace BK101 := Aside0.mk (blk_drew BK101.out)
 replace BK111 := Aside0.mk (blk_drew BK111.out)
 replace HI105 := Aside0.mk (IsS91.drew HI105.out)
 replace HB := Aside0.mk (below_drew1 HB.out)
 refine start_ (n := 12) (S := fun w' => w'.cell? ⟨gb111, 0, none⟩ = some (.slice Ao13 t106.length co13)) (ds := []) #[false, false, false, false, false, false, false, false, false, false, false, false] (by kernel_rfl) rfl rfl ((blk_cell BK111.out 0).trans rfl) (fun hHeld => ?_); refine with_tabW spec_l01With.tab3 spec_l01With.bits3 (fun HT_ HW_ => ?_)
 generalize w17.drew = w18 at HO108 BK101 BK111 HI105 HB hHeld ⊢
 refine pu_ (i := 0) (N := some 13) (v := ?_) (a' := ?_) #[true, false, false, false, false, false, false, false, false, false, false, false] rfl rfl HT_ (Or.inl ⟨by rfl, ?_⟩) ?_ ?_
 rotate_left
 ·exact t7_
 rotate_left
 ·exact t4_
 refine pu_ (i := 5) (N := some 18) (v := ?_) (a' := ?_) #[true, false, false, false, false, true, false, false, false, false, false, false] rfl rfl HT_ (Or.inl ⟨by rfl, ?_⟩) ?_ ?_
 rotate_left
 ·exact t7_
 rotate_left
 ·exact t4_
 refine tk_ (i := 1) (N := some 14) (v := ?_) (a' := ?_) #[true, true, false, false, false, true, false, false, false, false, false, false] rfl rfl HT_ HW_ (Or.inl ⟨by rfl, ?_⟩) hHeld ?_ ?_
 rotate_left
 ·intro w' s0
  go_simp
  with_reducible rfl
 rotate_left
 ·exact t4_
 refine tk_ (i := 6) (N := some 19) (v := ?_) (a' := ?_) #[true, true, false, false, false, true, true, false, false, false, false, false] rfl rfl HT_ HW_ (Or.inl ⟨by rfl, ?_⟩) hHeld ?_ ?_
 rotate_left
 ·intro w' s0
  go_simp
  with_reducible rfl
 rotate_left
 ·exact t4_
 refine on_ (i := 2) (N := some 15) #[true, true, true, false, false, true, true, false, false, false, false, false] rfl rfl HT_ (fun K hK => ?_)
 refine goes_ Try.func76 (by kernel_rfl) rfl #[.agg #[.slice Ao13 t106.length co13]] (by rfl) rfl rfl t1_ ?_
 with_reducible refine (spec_l01N.calls k _ _ t106 t112 _ ?side1 ?side2 A4.out).mono ?_
 (case side1 => exact c1_ HO108)
 (case side2 => exact (Kd.R_reads' HO108.out).2.1)
 rintro e w19 ⟨rfl, hb⟩
 refine ⟨_, rfl, ?_⟩
 replace HO108 := a1_ HO108 hb
 replace BK101 := a2_ BK101 hb
 replace HI105 := i1_ HI105 hb
 replace BK111 := a2_ BK111 hb
 replace HB := b1_ HB hb
 (try clear hb)
 (try clear hb2)
 (try clear hk)
 (try clear hi)
 refine hK.out _ _ ((blk_cell BK111.out 0).trans rfl) (fun hHeld => ?_)
 clear hK K
 refine norm_ (a' := ?_) ?_ ?_
 rotate_left
 ·show Act.put _ (some 15) _ = _
  simp only [Act.put, List.setIfInBounds_toArray, List.set_cons_zero, List.set_cons_succ, i64_w, i32_w]
  rfl
 refine pu_ (i := 3) (N := some 16) (v := ?_) (a' := ?_) #[true, true, true, true, false, true, true, false, false, false, false, false] rfl rfl HT_ (Or.inl ⟨by rfl, ?_⟩) ?_ ?_
 rotate_left
 ·exact t7_
 rotate_left
 ·exact t4_
 refine on_ (i := 4) (N := some 17) #[true, true, true, true, true, true, true, false, false, false, false, false] rfl rfl HT_ (fun K hK => ?_)
 refine goes_ Try.func80 (by kernel_rfl) rfl #[.pointer (some ⟨g105, 0, none⟩), .int .i64 (wrap64 (t112 - 1))] (by rfl) rfl rfl t1_ ?_
 with_reducible refine (spec_l01Near.calls g105 t102 t109 t110 (wrap64 (t112 - 1)) t113 t114 t115 w _ ?side1 ?side2 A5.out).mono ?_
 (case side1 => exact i_ HI105)
 (case side2 => exact gb_ HB.out)
 rintro e w20 ⟨rfl, hi, hb, hk⟩
 refine ⟨_, rfl, ?_⟩
 replace BK101 := kx_ BK101 NB101_105 hk
 replace HO108 := kr_ HI105 HO108 hk
 replace BK111 := kx_ BK111 NB111_105 hk
 replace HB := Aside0.mk (hb)
 replace HI105 := Aside0.mk (hi)
 (try clear hb)
 (try clear hb2)
 (try clear hk)
 (try clear hi)
 refine hK.out _ _ ((blk_cell BK111.out 0).trans rfl) (fun hHeld => ?_)
 clear hK K
 refine norm_ (a' := ?_) ?_ ?_
 rotate_left
 ·show Act.put _ (some 17) _ = _
  simp only [Act.put, List.setIfInBounds_toArray, List.set_cons_zero, List.set_cons_succ, i64_w, i32_w]
  rfl
 refine on_ (i := 7) (N := some 20) #[true, true, true, true, true, true, true, true, false, false, false, false] rfl rfl HT_ (fun K hK => ?_)
 refine goes_ Try.func76 (by kernel_rfl) rfl #[.agg #[.slice Ao13 t106.length co13]] (by rfl) rfl rfl t1_ ?_
 with_reducible refine (spec_l01N.calls k _ _ t106 t116 _ ?side1 ?side2 A6.out).mono ?_
 (case side1 => exact c1_ HO108)
 (case side2 => exact (Kd.R_reads' HO108.out).2.1)
 rintro e w21 ⟨rfl, hb⟩
 refine ⟨_, rfl, ?_⟩
 replace HO108 := a1_ HO108 hb
 replace BK101 := a2_ BK101 hb
 replace HI105 := i1_ HI105 hb
 replace BK111 := a2_ BK111 hb
 replace HB := b1_ HB hb
 (try clear hb)
 (try clear hb2)
 (try clear hk)
 (try clear hi)
 refine hK.out _ _ ((blk_cell BK111.out 0).trans rfl) (fun hHeld => ?_)
 clear hK K
 refine norm_ (a' := ?_) ?_ ?_
 rotate_left
 ·show Act.put _ (some 20) _ = _
  simp only [Act.put, List.setIfInBounds_toArray, List.set_cons_zero, List.set_cons_succ, i64_w, i32_w]
  rfl
 refine pu_ (i := 8) (N := some 21) (v := ?_) (a' := ?_) #[true, true, true, true, true, true, true, true, true, false, false, false] rfl rfl HT_ (Or.inl ⟨by rfl, ?_⟩) ?_ ?_
 rotate_left
 ·exact t7_
 rotate_left
 ·exact t4_
 refine on_ (i := 9) (N := some 22) #[true, true, true, true, true, true, true, true, true, true, false, false] rfl rfl HT_ (fun K hK => ?_)
 refine goes_ Try.func80 (by kernel_rfl) rfl #[.pointer (some ⟨g105, 0, none⟩), .int .i64 (wrap64 (t116 - 1))] (by rfl) rfl rfl t1_ ?_
 with_reducible refine (spec_l01Near.calls g105 t102 t114 t115 (wrap64 (t116 - 1)) t117 t118 t119 w _ ?side1 ?side2 A7.out).mono ?_
 (case side1 => exact i_ HI105)
 (case side2 => exact gb_ HB.out)
 rintro e w22 ⟨rfl, hi, hb, hk⟩
 refine ⟨_, rfl, ?_⟩
 replace BK101 := kx_ BK101 NB101_105 hk
 replace HO108 := kr_ HI105 HO108 hk
 replace BK111 := kx_ BK111 NB111_105 hk
 replace HB := Aside0.mk (hb)
 replace HI105 := Aside0.mk (hi)
 (try clear hb)
 (try clear hb2)
 (try clear hk)
 (try clear hi)
 refine hK.out _ _ ((blk_cell BK111.out 0).trans rfl) (fun hHeld => ?_)
 clear hK K
 refine norm_ (a' := ?_) ?_ ?_
 rotate_left
 ·show Act.put _ (some 22) _ = _
  simp only [Act.put, List.setIfInBounds_toArray, List.set_cons_zero, List.set_cons_succ, i64_w, i32_w]
  rfl
 refine pu_ (i := 10) (N := some 7) (v := ?_) (a' := ?_) #[true, true, true, true, true, true, true, true, true, true, true, false] rfl rfl HT_ (Or.inl ⟨by rfl, ?_⟩) ?_ ?_
 rotate_left
 ·exact t7_
 rotate_left
 ·exact t4_
 refine pu_ (i := 11) (N := some 8) (v := ?_) (a' := ?_) #[true, true, true, true, true, true, true, true, true, true, true, true] rfl rfl HT_ (Or.inl ⟨by rfl, ?_⟩) ?_ ?_
 rotate_left
 ·exact t7_
 rotate_left
 ·exact t4_
 refine done_ (done_of HT_.out (by kernel_rfl)) ?_
 have hcz23_0 := hz_ BK111
 have hfz23_0 := blk_frozen BK111.out 0
 try go_wp2_with (first | ((with_reducible refine gate_callee (f := 81) rfl ?_); refine gl_ (some 25) rfl rfl Try.func81 #[.pointer (some ⟨g105, 0, none⟩), .agg #[.slice Ao13 t106.length co13]] rfl ?_; (with_reducible refine (spec_l01Bad.calls k g105 t102 t118 t119 (fun k_ => some k_ = (.slice Ao13 t106.length co13 : Value).ownBlock) (.slice Ao13 t106.length co13) t106 t120 t123 t124 w _ ?side1 ?side2 ?side3 A8.out).mono ?_); (case side1 => exact i_ HI105); (case side2 => exact gb_ HB.out); (case side3 => exact Kd.R_tight rfl HO108.out); rintro e w24 ⟨v121, rfl, ho0, hi, hb, hkp⟩; refine ⟨_, rfl, ?_⟩; have n0_ := Aside0.mk (blk_kept (bb_ BK101.out) hkp (fun hs_ => Or.elim hs_ (fun hs_ => (fun e_ => (Kd.R_ne HO108.out BK101.out (by decide)) e_) hs_) (fun e_ => NB101_105.out e_))); have n1_ := Aside0.mk (hi); have n2_ := Aside0.mk (blk_kept (bb_ BK111.out) hkp (fun hs_ => Or.elim hs_ (fun hs_ => (fun e_ => (Kd.R_ne HO108.out BK111.out (by decide)) e_) hs_) (fun e_ => NB111_105.out e_))); have n3_ := Aside0.mk (Kd.R_mono (ok' := fun k_ => True) ho0 (fun k_ hk_ => trivial)); have n4_ := Aside0.mk (hb); clear BK101 HI105 BK111 HB HO108; have BK101 := n0_; have HI105 := n1_; have BK111 := n2_; have HO122 := n3_; have HB := n4_; clear n0_ n1_ n2_ n3_ n4_; (try clear hb); (try clear hkp); (try clear ho0); obtain ⟨Ao25, co25, eo25⟩ := Kd.R_slice HO122.out; subst eo25; have hnb26 := NB101_105.out; have hnc26 := NB105_101.out; have hcz27_0 := hz_ BK101; have hfz27_0 := blk_frozen BK101.out 0))
 refine bodyPost_ret (results_ctt rfl _ _ gb101 26 #[.slice Ao25 t120.length co25] (0, 0) _ rfl (by (with_reducible repeat (first | refine blk_drewN ?_ _ | refine blk_drew ?_ | refine blk_alloc ?_ _)); refine blk_put (cs := #[.slice none 0 0]) ?_ 0 _ rfl; (with_reducible repeat (first | refine blk_drewN ?_ _ | refine blk_drew ?_ | refine blk_alloc ?_ _)); exact BK101.out) Try.underlying26 rfl (by kernel_rfl)) rfl ?_
 exact ⟨_, t5_, by (with_reducible repeat (first | apply Kd.R_alloc | apply Kd.R_drewN | apply Kd.R_drew)); exact Kd.R_mono (Kd.R_far (p := ⟨gb101, 0, none⟩) (Kd.R_types HO122.out BK101.out (by decide)) (fun _ hk => hk.2) (.slice Ao25 t120.length co25)) (fun _ hk => trivial), gb_ HB.out⟩
def spec_DrawChangeDigit.f (k : Nat) (l0 : List Int) : Option (List Int × Int × Int × Int) := (spec_l01From.f k l0).bind fun bt102 => ((spec_l01Draw.f k bt102.1 bt102.2.1 bt102.2.2).bind fun bt106 => ((spec_l01N.f k bt106.1).bind fun t112 => ((spec_l01Near.f bt102.1 bt106.2.1 bt106.2.2 (wrap64 (t112 - 1))).bind fun bt113 => ((spec_l01Near.f bt102.1 bt113.2.1 bt113.2.2 (wrap64 ((bt106.1.length : Int) - 1))).bind fun bt116 => ((spec_l01Bad.f k bt102.1 bt116.2.1 bt116.2.2 bt106.1).bind fun bt119 => ((spec_l01Pick.f bt102.1 bt119.2.1 bt119.2.2 (([0, 1, 1, 2, 3, 4, (-1)] : List Int))).bind fun bt127 => (some (bt119.1, bt113.1, bt116.1, bt127.1))))))))
def spec_DrawChangeDigit.T3 : Bool × List (List Nat × List Nat) := (true, [([], []), ([], []), ([1], [1]), ([2], [2]), ([0, 3, 2], [0, 3]), ([], []), ([], []), ([6], [6]), ([7], [7]), ([8], [8]), ([5, 9, 4], [5, 9]), ([4, 10, 0, 1, 2, 3, 4], [4]), ([10, 11, 0, 1, 2, 3, 4, 5, 6, 7, 8, 9, 10, 11], [10])])
def spec_DrawChangeDigit.B3 : List Nat := [0, 0, 2, 6, 15, 0, 0, 64, 192, 448, 1023, 2047, 4095]
theorem spec_DrawChangeDigit.tab3 : rtab .any (opsOf Try.f30 3) = spec_DrawChangeDigit.T3 := by kernel_rfl
theorem spec_DrawChangeDigit.bits3 : waitsOk spec_DrawChangeDigit.T3.2 spec_DrawChangeDigit.B3 = true := by kernel_rfl
set_option maxHeartbeats 8000000 in
set_option maxRecDepth 100000 in
theorem spec_DrawChangeDigit.calls (k : Nat) (A0 : Option Addr) (c0 : Nat) (l0 : List Int) (r1 : List Int) (r2 : Int) (r3 : Int) (r4 : Int) (w : World) (hr0 : Kd.C (Kd.int .u8) w A0 l0.length l0) (hc0 : l0.length ≤ c0) (h : spec_DrawChangeDigit.f k l0 = some (r1, r2, r3, r4)) :
  Calls Try.prog 30 #[.slice A0 l0.length c0] w fun e w' => ∃ v0_ : Value, e = .returned (.tuple #[.agg #[v0_], .int .i64 r2, .int .i64 r3, .int .i64 r4]) ∧ Kd.R (Kd.int .i64) 2 w' w.heap.size (fun _ => True) v0_ r1 ∧ Below w.heap.size w w' := by
 have hu26 := Try.underlying26
 have HR0 := Aside0.mk hr0
 have HC0 := Aside0.mk hc0
 clear hr0 hc0
 have HB := Aside0.mk (Below.refl w.heap.size w)
 have H : ((spec_l01From.f k l0).bind fun bt102 => ((spec_l01Draw.f k bt102.1 bt102.2.1 bt102.2.2).bind fun bt106 => ((spec_l01N.f k bt106.1).bind fun t112 => ((spec_l01Near.f bt102.1 bt106.2.1 bt106.2.2 (wrap64 (t112 - 1))).bind fun bt113 => ((spec_l01Near.f bt102.1 bt113.2.1 bt113.2.2 (wrap64 ((bt106.1.length : Int) - 1))).bind fun bt116 => ((spec_l01Bad.f k bt102.1 bt116.2.1 bt116.2.2 bt106.1).bind fun bt119 => ((spec_l01Pick.f bt102.1 bt119.2.1 bt119.2.2 (([0, 1, 1, 2, 3, 4, (-1)] : List Int))).bind fun bt127 => (some (bt119.1, bt113.1, bt116.1, bt127.1))))))))) = some (r1, r2, r3, r4) := h
 clear h
 replace H := Option.bind_eq_some_iff.mp H
 obtain ⟨⟨t102, t103, t104⟩, A20, H⟩ := H
 replace H : ((spec_l01Draw.f k t102 t103 t104).bind fun bt106 => ((spec_l01N.f k bt106.1).bind fun t112 => ((spec_l01Near.f t102 bt106.2.1 bt106.2.2 (wrap64 (t112 - 1))).bind fun bt113 => ((spec_l01Near.f t102 bt113.2.1 bt113.2.2 (wrap64 ((bt106.1.length : Int) - 1))).bind fun bt116 => ((spec_l01Bad.f k t102 bt116.2.1 bt116.2.2 bt106.1).bind fun bt119 => ((spec_l01Pick.f t102 bt119.2.1 bt119.2.2 (([0, 1, 1, 2, 3, 4, (-1)] : List Int))).bind fun bt127 => (some (bt119.1, bt113.1, bt116.1, bt127.1)))))))) = some (r1, r2, r3, r4) := H
 have A2 := Aside0.mk A20
 clear A20
 replace H := Option.bind_eq_some_iff.mp H
 obtain ⟨⟨t106, t109, t110⟩, A30, H⟩ := H
 replace H : ((spec_l01N.f k t106).bind fun t112 => ((spec_l01Near.f t102 t109 t110 (wrap64 (t112 - 1))).bind fun bt113 => ((spec_l01Near.f t102 bt113.2.1 bt113.2.2 (wrap64 ((t106.length : Int) - 1))).bind fun bt116 => ((spec_l01Bad.f k t102 bt116.2.1 bt116.2.2 t106).bind fun bt119 => ((spec_l01Pick.f t102 bt119.2.1 bt119.2.2 (([0, 1, 1, 2, 3, 4, (-1)] : List Int))).bind fun bt127 => (some (bt119.1, bt113.1, bt116.1, bt127.1))))))) = some (r1, r2, r3, r4) := H
 have A3 := Aside0.mk A30
 clear A30
 replace H := Option.bind_eq_some_iff.mp H
 obtain ⟨t112, A40, H⟩ := H
 replace H : ((spec_l01Near.f t102 t109 t110 (wrap64 (t112 - 1))).bind fun bt113 => ((spec_l01Near.f t102 bt113.2.1 bt113.2.2 (wrap64 ((t106.length : Int) - 1))).bind fun bt116 => ((spec_l01Bad.f k t102 bt116.2.1 bt116.2.2 t106).bind fun bt119 => ((spec_l01Pick.f t102 bt119.2.1 bt119.2.2 (([0, 1, 1, 2, 3, 4, (-1)] : List Int))).bind fun bt127 => (some (bt119.1, bt113.1, bt116.1, bt127.1)))))) = some (r1, r2, r3, r4) := H
 have A4 := Aside0.mk A40
 clear A40
 replace H := Option.bind_eq_some_iff.mp H
 obtain ⟨⟨t113, t114, t115⟩, A50, H⟩ := H
 replace H : ((spec_l01Near.f t102 t114 t115 (wrap64 ((t106.length : Int) - 1))).bind fun bt116 => ((spec_l01Bad.f k t102 bt116.2.1 bt116.2.2 t106).bind fun bt119 => ((spec_l01Pick.f t102 bt119.2.1 bt119.2.2 (([0, 1, 1, 2, 3, 4, (-1)] : List Int))).bind fun bt127 => (some (bt119.1, t113, bt116.1, bt127.1))))) = some (r1, r2, r3, r4) := H
 have A5 := Aside0.mk A50
 clear A50
 replace H := Option.bind_eq_some_iff.mp H
 obtain ⟨⟨t116, t117, t118⟩, A60, H⟩ := H
 replace H : ((spec_l01Bad.f k t102 t117 t118 t106).bind fun bt119 => ((spec_l01Pick.f t102 bt119.2.1 bt119.2.2 (([0, 1, 1, 2, 3, 4, (-1)] : List Int))).bind fun bt127 => (some (bt119.1, t113, t116, bt127.1)))) = some (r1, r2, r3, r4) := H
 have A6 := Aside0.mk A60
 clear A60
 replace H := Option.bind_eq_some_iff.mp H
 obtain ⟨⟨t119, t122, t123⟩, A70, H⟩ := H
 replace H : ((spec_l01Pick.f t102 t122 t123 (([0, 1, 1, 2, 3, 4, (-1)] : List Int))).bind fun bt127 => (some (t119, t113, t116, bt127.1))) = some (r1, r2, r3, r4) := H
 have A7 := Aside0.mk A70
 clear A70
 obtain ⟨y124, hy124⟩ : ∃ y_ : List Int, y_ = (([0, 1, 1, 2, 3, 4, (-1)] : List Int)) := ⟨_, rfl⟩
 replace H : ((spec_l01Pick.f t102 t122 t123 y124).bind fun bt127 => (some (t119, t113, t116, bt127.1))) = some (r1, r2, r3, r4) := y_ H
 have Ny124 := Aside0.mk hy124
 clear hy124
 replace H := Option.bind_eq_some_iff.mp H
 obtain ⟨⟨t127, t128, t129⟩, A80, H⟩ := H
 replace H : (some (t119, t113, t116, t127)) = some (r1, r2, r3, r4) := H
 have A8 := Aside0.mk A80
 clear A80
 simp only [Option.some.injEq, Prod.mk.injEq] at H
 obtain ⟨rfl, rfl, rfl, rfl⟩ := H
 go_enter Try.func30, Try.ntmps30
 try go_wp2_with (first | ((with_reducible refine gate_dst (N := 2) rfl ?_); refine bx_ (N := 2) (cs := #[.slice none 0 0]) (t := 26) rfl rfl ?_; intro gb101 hg w9 hbox hb; have n0_ := b1_ HB hb; have n1_ := Aside0.mk (hbox); have n2_ := ge_ hg HB; have n3_ := ge_ hg HB; clear HB; have HB := n0_; have BK101 := n1_; have GW101 := n2_; have GE101 := n3_; clear n0_ n1_ n2_ n3_ hb hbox hg) | ((with_reducible refine gate_callee (f := 78) rfl ?_); refine gl_ (some 11) rfl rfl Try.func78 #[.slice A0 l0.length c0] rfl ?_; (with_reducible refine (spec_l01From.calls k _ _ l0 t102 t103 t104 w _ ?side1 ?side2 ?side3 A2.out).mono ?_); (case side1 => exact gb_ HB.out); (case side2 => exact HR0.out); (case side3 => exact HC0.out); rintro e w10 ⟨g105, rfl, hi, hb, hb2⟩; refine ⟨_, rfl, ?_⟩; replace HB := Aside0.mk (hb); have HI105 := Aside0.mk (hi); have NB105_101 := Aside0.mk (IsS91.ne_blk hi (blk_below (g := gb101) (o := .cells #[.slice none 0 0] 26 (0, 0)) (bb_ BK101.out) hb2) (by decide)); have NB101_105 := Aside0.mk (Ne.symm (IsS91.ne_blk hi (blk_below (g := gb101) (o := .cells #[.slice none 0 0] 26 (0, 0)) (bb_ BK101.out) hb2) (by decide))); replace BK101 := Aside0.mk (blk_below (g := gb101) (o := .cells #[.slice none 0 0] 26 (0, 0)) (bb_ BK101.out) hb2); (try clear hb); (try clear hb2); (try clear hk); (try clear hi)) | ((with_reducible refine gate_callee (f := 79) rfl ?_); refine gl_ (some 13) rfl rfl Try.func79 #[.pointer (some ⟨g105, 0, none⟩)] rfl ?_; (with_reducible refine (spec_l01Draw.calls k g105 t102 t103 t104 t106 t109 t110 w _ ?side1 ?side2 A3.out).mono ?_); (case side1 => exact i_ HI105); (case side2 => exact gb_ HB.out); rintro e w11 ⟨v107, rfl, ho0, hi, hb, hk⟩; refine ⟨_, rfl, ?_⟩; replace BK101 := kx_ BK101 NB101_105 hk; have HO108 := Aside0.mk (Kd.R_lower ho0 (below_size (gb_ HB.out))); replace HB := Aside0.mk (hb); replace HI105 := Aside0.mk (hi); (try clear hb); (try clear hb2); (try clear hk); (try clear hi); (try clear ho0)) | ((with_reducible refine gate_dst (N := 7) rfl ?_); refine bx_ (N := 7) (cs := #[.slice none 0 0]) (t := 26) rfl rfl ?_; intro gb111 hg w12 hbox hb; have n0_ := a1_ HO108 hb; have n1_ := a2_ BK101 hb; have n2_ := i1_ HI105 hb; have n3_ := b1_ HB hb; have n4_ := Aside0.mk (hbox); have n5_ := ge_ hg HB; have n6_ := ge_ hg HB; have n7_ := nl_ hg BK101; have n8_ := nr_ hg BK101; have n9_ := il_ hg HI105; have n10_ := ir_ hg HI105; clear HO108 BK101 HI105 HB; have HO108 := n0_; have BK101 := n1_; have HI105 := n2_; have HB := n3_; have BK111 := n4_; have GW111 := n5_; have GE111 := n6_; have NB101_111 := n7_; have NB111_101 := n8_; have NB105_111 := n9_; have NB111_105 := n10_; clear n0_ n1_ n2_ n3_ n4_ n5_ n6_ n7_ n8_ n9_ n10_ hb hbox hg; obtain ⟨Ao13, co13, eo13⟩ := Kd.R_slice HO108.out; subst eo13; have hnb14 := NB111_101.out; have hnc14 := NB101_111.out; have hnb15 := NB111_105.out; have hnc15 := NB105_111.out; have hcz16_0 := hz_ BK111; have hfz16_0 := blk_frozen BK111.out 0))
 have n0_ : Aside0 (Kd.R (Kd.int .i64) 2 (w12.setCell ⟨gb111, 0, none⟩ (.slice Ao13 t106.length co13)) w.heap.size (fun _ => True) (.slice Ao13 t106.length co13) t106) := ⟨by (with_reducible repeat (first | apply Kd.R_alloc | apply Kd.R_drewN | apply Kd.R_drew)); exact Kd.R_mono (Kd.R_far (p := ⟨gb111, 0, none⟩) (Kd.R_types HO108.out BK111.out (by decide)) (fun _ hk => hk.2) (.slice Ao13 t106.length co13)) (fun _ hk => trivial)⟩
 have n1_ : Aside0 ((w12.setCell ⟨gb111, 0, none⟩ (.slice Ao13 t106.length co13)).heap[gb101]? = some (.cells #[.slice none 0 0] 26 (0, 0))) := ⟨by (with_reducible repeat (first | refine blk_drewN ?_ _ | refine blk_drew ?_ | refine blk_alloc ?_ _)); refine blk_far ?_ NB101_111.out _; (with_reducible repeat (first | refine blk_drewN ?_ _ | refine blk_drew ?_ | refine blk_alloc ?_ _)); exact BK101.out⟩
 have n2_ : Aside0 ((w12.setCell ⟨gb111, 0, none⟩ (.slice Ao13 t106.length co13)).heap[gb111]? = some (.cells #[.slice Ao13 t106.length co13] 26 (0, 0))) := ⟨by (with_reducible repeat (first | refine blk_drewN ?_ _ | refine blk_drew ?_ | refine blk_alloc ?_ _)); refine blk_put (cs := #[.slice none 0 0]) ?_ 0 _ rfl; (with_reducible repeat (first | refine blk_drewN ?_ _ | refine blk_drew ?_ | refine blk_alloc ?_ _)); exact BK111.out⟩
 have n3_ : Aside0 (IsS91 w (w12.setCell ⟨gb111, 0, none⟩ (.slice Ao13 t106.length co13)) g105 t102 t109 t110) := ⟨i_ HI105⟩
 have n4_ : Aside0 (Below w.heap.size w (w12.setCell ⟨gb111, 0, none⟩ (.slice Ao13 t106.length co13))) := ⟨gb_ HB.out⟩
 (try clear HO108)
 (try clear BK101)
 (try clear BK111)
 (try clear HI105)
 (try clear HB)
 generalize (w12.setCell ⟨gb111, 0, none⟩ (.slice Ao13 t106.length co13)) = w17 at n0_ n1_ n2_ n3_ n4_ ⊢
 have HO108 := n0_
 have BK101 := n1_
 have BK111 := n2_
 have HI105 := n3_
 have HB := n4_
 clear n0_ n1_ n2_ n3_ n4_
 replace HO108 := Aside0.mk (Kd.R_drew HO108.out)
 replace BK101 := Aside0.mk (blk_drew BK101.out)
 replace BK111 := Aside0.mk (blk_drew BK111.out)
 replace HI105 := Aside0.mk (IsS91.drew HI105.out)
 replace HB := Aside0.mk (below_drew1 HB.out)
 refine start_ (n := 13) (S := fun w' => w'.cell? ⟨gb111, 0, none⟩ = some (.slice Ao13 t106.length co13)) (ds := []) #[false, false, false, false, false, false, false, false, false, false, false, false, false] (by kernel_rfl) rfl rfl ((blk_cell BK111.out 0).trans rfl) (fun hHeld => ?_); refine with_tabW spec_DrawChangeDigit.tab3 spec_DrawChangeDigit.bits3 (fun HT_ HW_ => ?_)
 generalize w17.drew = w18 at HO108 BK101 BK111 HI105 HB hHeld ⊢
 refine pu_ (i := 0) (N := some 14) (v := ?_) (a' := ?_) #[true, false, false, false, false, false, false, false, false, false, false, false, false] rfl rfl HT_ (Or.inl ⟨by rfl, ?_⟩) ?_ ?_
 rotate_left
 ·exact t7_
 rotate_left
 ·exact t4_
 refine pu_ (i := 5) (N := some 19) (v := ?_) (a' := ?_) #[true, false, false, false, false, true, false, false, false, false, false, false, false] rfl rfl HT_ (Or.inl ⟨by rfl, ?_⟩) ?_ ?_
 rotate_left
 ·exact t7_
 rotate_left
 ·exact t4_
 refine pu_ (i := 6) (N := some 20) (v := ?_) (a' := ?_) #[true, false, false, false, false, true, true, false, false, false, false, false, false] rfl rfl HT_ (Or.inl ⟨by rfl, ?_⟩) ?_ ?_
 rotate_left
 ·exact t7_
 rotate_left
 ·exact t4_
 refine tk_ (i := 1) (N := some 15) (v := ?_) (a' := ?_) #[true, true, false, false, false, true, true, false, false, false, false, false, false] rfl rfl HT_ HW_ (Or.inl ⟨by rfl, ?_⟩) hHeld ?_ ?_
 rotate_left
 ·intro w' s0
  go_simp
  with_reducible rfl
 rotate_left
 ·exact t4_
 refine tk_ (i := 7) (N := some 21) (v := ?_) (a' := ?_) #[true, true, false, false, false, true, true, true, false, false, false, false, false] rfl rfl HT_ HW_ (Or.inl ⟨by rfl, ?_⟩) hHeld ?_ ?_
 rotate_left
 ·intro w' s0
  go_simp
  with_reducible rfl
 rotate_left
 ·exact t4_
 refine pu_ (i := 8) (N := some 22) (v := ?_) (a' := ?_) #[true, true, false, false, false, true, true, true, true, false, false, false, false] rfl rfl HT_ (Or.inl ⟨by rfl, ?_⟩) ?_ ?_
 rotate_left
 ·exact t7_
 rotate_left
 ·exact t4_
 refine pu_ (i := 9) (N := some 23) (v := ?_) (a' := ?_) #[true, true, false, false, false, true, true, true, true, true, false, false, false] rfl rfl HT_ (Or.inl ⟨by rfl, ?_⟩) ?_ ?_
 rotate_left
 ·exact t7_
 rotate_left
 ·exact t4_
 refine on_ (i := 2) (N := some 16) #[true, true, true, false, false, true, true, true, true, true, false, false, false] rfl rfl HT_ (fun K hK => ?_)
 refine goes_ Try.func76 (by kernel_rfl) rfl #[.agg #[.slice Ao13 t106.length co13]] (by rfl) rfl rfl t1_ ?_
 with_reducible refine (spec_l01N.calls k _ _ t106 t112 _ ?side1 ?side2 A4.out).mono ?_
 (case side1 => exact c1_ HO108)
 (case side2 => exact (Kd.R_reads' HO108.out).2.1)
 rintro e w19 ⟨rfl, hb⟩
 refine ⟨_, rfl, ?_⟩
 replace HO108 := a1_ HO108 hb
 replace BK101 := a2_ BK101 hb
 replace HI105 := i1_ HI105 hb
 replace BK111 := a2_ BK111 hb
 replace HB := b1_ HB hb
 (try clear hb)
 (try clear hb2)
 (try clear hk)
 (try clear hi)
 refine hK.out _ _ ((blk_cell BK111.out 0).trans rfl) (fun hHeld => ?_)
 clear hK K
 refine norm_ (a' := ?_) ?_ ?_
 rotate_left
 ·show Act.put _ (some 16) _ = _
  simp only [Act.put, List.setIfInBounds_toArray, List.set_cons_zero, List.set_cons_succ, i64_w, i32_w]
  rfl
 refine pu_ (i := 3) (N := some 17) (v := ?_) (a' := ?_) #[true, true, true, true, false, true, true, true, true, true, false, false, false] rfl rfl HT_ (Or.inl ⟨by rfl, ?_⟩) ?_ ?_
 rotate_left
 ·exact t7_
 rotate_left
 ·exact t4_
 refine on_ (i := 4) (N := some 18) #[true, true, true, true, true, true, true, true, true, true, false, false, false] rfl rfl HT_ (fun K hK => ?_)
 refine goes_ Try.func80 (by kernel_rfl) rfl #[.pointer (some ⟨g105, 0, none⟩), .int .i64 (wrap64 (t112 - 1))] (by rfl) rfl rfl t1_ ?_
 with_reducible refine (spec_l01Near.calls g105 t102 t109 t110 (wrap64 (t112 - 1)) t113 t114 t115 w _ ?side1 ?side2 A5.out).mono ?_
 (case side1 => exact i_ HI105)
 (case side2 => exact gb_ HB.out)
 rintro e w20 ⟨rfl, hi, hb, hk⟩
 refine ⟨_, rfl, ?_⟩
 replace BK101 := kx_ BK101 NB101_105 hk
 replace HO108 := kr_ HI105 HO108 hk
 replace BK111 := kx_ BK111 NB111_105 hk
 replace HB := Aside0.mk (hb)
 replace HI105 := Aside0.mk (hi)
 (try clear hb)
 (try clear hb2)
 (try clear hk)
 (try clear hi)
 refine hK.out _ _ ((blk_cell BK111.out 0).trans rfl) (fun hHeld => ?_)
 clear hK K
 refine norm_ (a' := ?_) ?_ ?_
 rotate_left
 ·show Act.put _ (some 18) _ = _
  simp only [Act.put, List.setIfInBounds_toArray, List.set_cons_zero, List.set_cons_succ, i64_w, i32_w]
  rfl
 refine on_ (i := 10) (N := some 24) #[true, true, true, true, true, true, true, true, true, true, true, false, false] rfl rfl HT_ (fun K hK => ?_)
 refine goes_ Try.func80 (by kernel_rfl) rfl #[.pointer (some ⟨g105, 0, none⟩), .int .i64 (wrap64 ((t106.length : Int) - 1))] (by rfl) rfl rfl t1_ ?_
 with_reducible refine (spec_l01Near.calls g105 t102 t114 t115 (wrap64 ((t106.length : Int) - 1)) t116 t117 t118 w _ ?side1 ?side2 A6.out).mono ?_
 (case side1 => exact i_ HI105)
 (case side2 => exact gb_ HB.out)
 rintro e w21 ⟨rfl, hi, hb, hk⟩
 refine ⟨_, rfl, ?_⟩
 replace BK101 := kx_ BK101 NB101_105 hk
 replace HO108 := kr_ HI105 HO108 hk
 replace BK111 := kx_ BK111 NB111_105 hk
 replace HB := Aside0.mk (hb)
 replace HI105 := Aside0.mk (hi)
 (try clear hb)
 (try clear hb2)
 (try clear hk)
 (try clear hi)
 refine hK.out _ _ ((blk_cell BK111.out 0).trans rfl) (fun hHeld => ?_)
 clear hK K
 refine norm_ (a' := ?_) ?_ ?_
 rotate_left
 ·show Act.put _ (some 24) _ = _
  simp only [Act.put, List.setIfInBounds_toArray, List.set_cons_zero, List.set_cons_succ, i64_w, i32_w]
  rfl
 refine pu_ (i := 11) (N := some 8) (v := ?_) (a' := ?_) #[true, true, true, true, true, true, true, true, true, true, true, true, false] rfl rfl HT_ (Or.inl ⟨by rfl, ?_⟩) ?_ ?_
 rotate_left
 ·exact t7_
 rotate_left
 ·exact t4_
 refine pu_ (i := 12) (N := some 9) (v := ?_) (a' := ?_) #[true, true, true, true, true, true, true, true, true, true, true, true, true] rfl rfl HT_ (Or.inl ⟨by rfl, ?_⟩) ?_ ?_
 rotate_left
 ·exact t7_
 rotate_left
 ·exact t4_
 refine done_ (done_of HT_.out (by kernel_rfl)) ?_
 have hcz22_0 := hz_ BK111
 have hfz22_0 := blk_frozen BK111.out 0
 try go_wp2_with (first | ((with_reducible refine gate_callee (f := 81) rfl ?_); refine gl_ (some 27) rfl rfl Try.func81 #[.pointer (some ⟨g105, 0, none⟩), .agg #[.slice Ao13 t106.length co13]] rfl ?_; (with_reducible refine (spec_l01Bad.calls k g105 t102 t117 t118 (fun k_ => some k_ = (.slice Ao13 t106.length co13 : Value).ownBlock) (.slice Ao13 t106.length co13) t106 t119 t122 t123 w _ ?side1 ?side2 ?side3 A7.out).mono ?_); (case side1 => exact i_ HI105); (case side2 => exact gb_ HB.out); (case side3 => exact Kd.R_tight rfl HO108.out); rintro e w23 ⟨v120, rfl, ho0, hi, hb, hkp⟩; refine ⟨_, rfl, ?_⟩; have n0_ := Aside0.mk (blk_kept (bb_ BK101.out) hkp (fun hs_ => Or.elim hs_ (fun hs_ => (fun e_ => (Kd.R_ne HO108.out BK101.out (by decide)) e_) hs_) (fun e_ => NB101_105.out e_))); have n1_ := Aside0.mk (hi); have n2_ := Aside0.mk (blk_kept (bb_ BK111.out) hkp (fun hs_ => Or.elim hs_ (fun hs_ => (fun e_ => (Kd.R_ne HO108.out BK111.out (by decide)) e_) hs_) (fun e_ => NB111_105.out e_))); have n3_ := Aside0.mk (Kd.R_mono (ok' := fun k_ => True) ho0 (fun k_ hk_ => trivial)); have n4_ := Aside0.mk (hb); clear BK101 HI105 BK111 HB HO108; have BK101 := n0_; have HI105 := n1_; have BK111 := n2_; have HO121 := n3_; have HB := n4_; clear n0_ n1_ n2_ n3_ n4_; (try clear hb); (try clear hkp); (try clear ho0)) | ((with_reducible refine gate_dst (N := 31) rfl ?_); refine Kd.R_lit (Kd.int .i64) _ 2 ?hg (N := 31) ?hd (xs := ([0, 1, 1, 2, 3, 4, (-1)] : List Int)) (inner := [.int .i64 0, .int .i64 1, .int .i64 1, .int .i64 2, .int .i64 3, .int .i64 4, .int .i64 (-1)]) (ok := fun _ => True) (okp := fun _ => True) ?hr ?hp (fun _ hk => hk) trivial (Below.refl _ _) (Nat.le_refl _) (by simp) ?_; (case hd => rfl); (case hg => rfl); (case hr => exact t3_); (case hp => exact (Reps.one (show Kd.M (Kd.int .i64) _ _ _ 0 [.int .i64 0] from rfl) (Reps.one (show Kd.M (Kd.int .i64) _ _ _ 1 [.int .i64 1] from rfl) (Reps.one (show Kd.M (Kd.int .i64) _ _ _ 1 [.int .i64 1] from rfl) (Reps.one (show Kd.M (Kd.int .i64) _ _ _ 2 [.int .i64 2] from rfl) (Reps.one (show Kd.M (Kd.int .i64) _ _ _ 3 [.int .i64 3] from rfl) (Reps.one (show Kd.M (Kd.int .i64) _ _ _ 4 [.int .i64 4] from rfl) (Reps.one (show Kd.M (Kd.int .i64) _ _ _ (-1) [.int .i64 (-1)] from rfl) (Reps.none _ _))))))))); intro v125 w24 ho25 hb hg_ hnew_; clear hg_ hnew_; (first | rw [← Ny124.out] at ho25 | (simp only [Int.reduceToNat] at ho25; rw [← Ny124.out] at ho25)); have n0_ := a5_ HO121 ho25 hb; have n1_ := Aside0.mk (Kd.R_lower (Kd.R_new' ho25 (Kd.R_lt (rb_ HO121.out))) (below_size (gb_ HB.out))); have n2_ := a2_ BK101 hb; have n3_ := i1_ HI105 hb; have n4_ := a2_ BK111 hb; have n5_ := b1_ HB hb; clear HO121 BK101 HI105 BK111 HB; have HO121 := n0_; have HO126 := n1_; have BK101 := n2_; have HI105 := n3_; have BK111 := n4_; have HB := n5_; clear n0_ n1_ n2_ n3_ n4_ n5_ hb ho25; obtain ⟨Ao26, co26, eo26⟩ := Kd.R_slice HO126.out; subst eo26) | ((with_reducible refine gate_callee (f := 82) rfl ?_); refine gl_ (some 32) rfl rfl Try.func82 #[.pointer (some ⟨g105, 0, none⟩), .slice Ao26 y124.length co26] rfl ?_; (with_reducible refine (spec_l01Pick.calls g105 t102 t122 t123 _ _ y124 t127 t128 t129 w _ ?side1 ?side2 ?side3 ?side4 ?side5 A8.out).mono ?_); (case side1 => exact i_ HI105); (case side2 => exact gb_ HB.out); (case side3 => exact c1_ HO126); (case side4 => exact (Kd.R_reads' HO126.out).2.1); (case side5 => exact far_slice (IsS91.own_ne HI105.out HO126.out (by decide))); rintro e w27 ⟨rfl, hi, hb, hk⟩; refine ⟨_, rfl, ?_⟩; replace BK101 := kx_ BK101 NB101_105 hk; replace BK111 := kx_ BK111 NB111_105 hk; replace HO121 := kr_ HI105 HO121 hk; replace HO126 := kr_ HI105 HO126 hk; replace HB := Aside0.mk (hb); replace HI105 := Aside0.mk (hi); (try clear hb); (try clear hb2); (try clear hk); (try clear hi); obtain ⟨Ao28, co28, eo28⟩ := Kd.R_slice HO121.out; subst eo28; have hnb29 := NB101_105.out; have hnc29 := NB105_101.out; have hcz30_0 := hz_ BK101; have hfz30_0 := blk_frozen BK101.out 0))
 refine bodyPost_ret (results_list (rs := [.cell 2 26, .tmp 3, .tmp 4, .tmp 5]) rfl (by simp) (.cell gb101 26 #[.slice Ao28 t119.length co28] (0, 0) _ rfl (by (with_reducible repeat (first | refine blk_drewN ?_ _ | refine blk_drew ?_ | refine blk_alloc ?_ _)); refine blk_put (cs := #[.slice none 0 0]) ?_ 0 _ rfl; (with_reducible repeat (first | refine blk_drewN ?_ _ | refine blk_drew ?_ | refine blk_alloc ?_ _)); exact BK101.out) Try.underlying26 rfl (by kernel_rfl) (.tmp (.tmp (.tmp .nil))))) rfl ?_
 exact ⟨_, t5_, by (with_reducible repeat (first | apply Kd.R_alloc | apply Kd.R_drewN | apply Kd.R_drew)); exact Kd.R_mono (Kd.R_far (p := ⟨gb101, 0, none⟩) (Kd.R_types HO121.out BK101.out (by decide)) (fun _ hk => hk.2) (.slice Ao28 t119.length co28)) (fun _ hk => trivial), gb_ HB.out⟩
def spec_DrawWordOf.f (k : Nat) (l0 : List Int) : Option (List Int × List Int) := (spec_l01From.f k l0).bind fun bt102 => ((spec_l01Draw.f k bt102.1 bt102.2.1 bt102.2.2).bind fun bt106 => ((spec_l01N.f k bt106.1).bind fun t112 => ((spec_l01Next.f bt102.1 bt106.2.1 bt106.2.2 t112).bind fun bt113 => ((spec_l01Digits.f k bt106.1 bt113.1).bind fun t116 => ((spec_l01Next.f bt102.1 bt113.2.1 bt113.2.2 16).bind fun bt119 => (if bt119.1 = 0 then (if t116.length < 17592186044416 then ((spec_l01Bad.f k bt102.1 bt119.2.1 bt119.2.2 bt106.1).bind fun bt125 => (some (bt125.1, (t116 ++ [0])))) else (none)) else (if bt119.1 = 1 then ((spec_l01Next.f bt102.1 bt119.2.1 bt119.2.2 (t116.length : Int)).bind fun bt130 => ((spec_l01Pick.f bt102.1 bt130.2.1 bt130.2.2 (([(-1), 2, 3, 4] : List Int))).bind fun bt136 => (if 0 ≤ bt130.1 then (if bt130.1 < (t116.length : Int) then ((spec_l01Bad.f k bt102.1 bt136.2.1 bt136.2.2 bt106.1).bind fun bt140 => (some (bt140.1, (t116.set (bt130.1 : Int).toNat bt136.1)))) else (none)) else (none)))) else ((spec_l01Bad.f k bt102.1 bt119.2.1 bt119.2.2 bt106.1).bind fun bt145 => (some (bt145.1, t116))))))))))
set_option maxHeartbeats 8000000 in
set_option maxRecDepth 100000 in
theorem spec_DrawWordOf.calls (k : Nat) (A0 : Option Addr) (c0 : Nat) (l0 : List Int) (r1 : List Int) (r2 : List Int) (w : World) (hr0 : Kd.C (Kd.int .u8) w A0 l0.length l0) (hc0 : l0.length ≤ c0) (h : spec_DrawWordOf.f k l0 = some (r1, r2)) :
  Calls Try.prog 33 #[.slice A0 l0.length c0] w fun e w' => ∃ v0_ v1_ : Value, e = .returned (.tuple #[.agg #[v0_], v1_]) ∧ Kd.R (Kd.int .i64) 2 w' w.heap.size (fun k_ => OB_ k_ v1_) v0_ r1 ∧ Kd.R (Kd.int .i64) 2 w' w.heap.size (fun k_ => OB_ k_ v0_) v1_ r2 ∧ Below w.heap.size w w' := by
 have hu26 := Try.underlying26
 have HR0 := Aside0.mk hr0
 have HC0 := Aside0.mk hc0
 clear hr0 hc0
 have HB := Aside0.mk (Below.refl w.heap.size w)
 have H : ((spec_l01From.f k l0).bind fun bt102 => ((spec_l01Draw.f k bt102.1 bt102.2.1 bt102.2.2).bind fun bt106 => ((spec_l01N.f k bt106.1).bind fun t112 => ((spec_l01Next.f bt102.1 bt106.2.1 bt106.2.2 t112).bind fun bt113 => ((spec_l01Digits.f k bt106.1 bt113.1).bind fun t116 => ((spec_l01Next.f bt102.1 bt113.2.1 bt113.2.2 16).bind fun bt119 => (if bt119.1 = 0 then (if t116.length < 17592186044416 then ((spec_l01Bad.f k bt102.1 bt119.2.1 bt119.2.2 bt106.1).bind fun bt125 => (some (bt125.1, (t116 ++ [0])))) else (none)) else (if bt119.1 = 1 then ((spec_l01Next.f bt102.1 bt119.2.1 bt119.2.2 (t116.length : Int)).bind fun bt130 => ((spec_l01Pick.f bt102.1 bt130.2.1 bt130.2.2 (([(-1), 2, 3, 4] : List Int))).bind fun bt136 => (if 0 ≤ bt130.1 then (if bt130.1 < (t116.length : Int) then ((spec_l01Bad.f k bt102.1 bt136.2.1 bt136.2.2 bt106.1).bind fun bt140 => (some (bt140.1, (t116.set (bt130.1 : Int).toNat bt136.1)))) else (none)) else (none)))) else ((spec_l01Bad.f k bt102.1 bt119.2.1 bt119.2.2 bt106.1).bind fun bt145 => (some (bt145.1, t116))))))))))) = some (r1, r2) := h
 clear h
 replace H := Option.bind_eq_some_iff.mp H
 obtain ⟨⟨t102, t103, t104⟩, A20, H⟩ := H
 replace H : ((spec_l01Draw.f k t102 t103 t104).bind fun bt106 => ((spec_l01N.f k bt106.1).bind fun t112 => ((spec_l01Next.f t102 bt106.2.1 bt106.2.2 t112).bind fun bt113 => ((spec_l01Digits.f k bt106.1 bt113.1).bind fun t116 => ((spec_l01Next.f t102 bt113.2.1 bt113.2.2 16).bind fun bt119 => (if bt119.1 = 0 then (if t116.length < 17592186044416 then ((spec_l01Bad.f k t102 bt119.2.1 bt119.2.2 bt106.1).bind fun bt125 => (some (bt125.1, (t116 ++ [0])))) else (none)) else (if bt119.1 = 1 then ((spec_l01Next.f t102 bt119.2.1 bt119.2.2 (t116.length : Int)).bind fun bt130 => ((spec_l01Pick.f t102 bt130.2.1 bt130.2.2 (([(-1), 2, 3, 4] : List Int))).bind fun bt136 => (if 0 ≤ bt130.1 then (if bt130.1 < (t116.length : Int) then ((spec_l01Bad.f k t102 bt136.2.1 bt136.2.2 bt106.1).bind fun bt140 => (some (bt140.1, (t116.set (bt130.1 : Int).toNat bt136.1)))) else (none)) else (none)))) else ((spec_l01Bad.f k t102 bt119.2.1 bt119.2.2 bt106.1).bind fun bt145 => (some (bt145.1, t116)))))))))) = some (r1, r2) := H
 have A2 := Aside0.mk A20
 clear A20
 replace H := Option.bind_eq_some_iff.mp H
 obtain ⟨⟨t106, t109, t110⟩, A30, H⟩ := H
 replace H : ((spec_l01N.f k t106).bind fun t112 => ((spec_l01Next.f t102 t109 t110 t112).bind fun bt113 => ((spec_l01Digits.f k t106 bt113.1).bind fun t116 => ((spec_l01Next.f t102 bt113.2.1 bt113.2.2 16).bind fun bt119 => (if bt119.1 = 0 then (if t116.length < 17592186044416 then ((spec_l01Bad.f k t102 bt119.2.1 bt119.2.2 t106).bind fun bt125 => (some (bt125.1, (t116 ++ [0])))) else (none)) else (if bt119.1 = 1 then ((spec_l01Next.f t102 bt119.2.1 bt119.2.2 (t116.length : Int)).bind fun bt130 => ((spec_l01Pick.f t102 bt130.2.1 bt130.2.2 (([(-1), 2, 3, 4] : List Int))).bind fun bt136 => (if 0 ≤ bt130.1 then (if bt130.1 < (t116.length : Int) then ((spec_l01Bad.f k t102 bt136.2.1 bt136.2.2 t106).bind fun bt140 => (some (bt140.1, (t116.set (bt130.1 : Int).toNat bt136.1)))) else (none)) else (none)))) else ((spec_l01Bad.f k t102 bt119.2.1 bt119.2.2 t106).bind fun bt145 => (some (bt145.1, t116))))))))) = some (r1, r2) := H
 have A3 := Aside0.mk A30
 clear A30
 replace H := Option.bind_eq_some_iff.mp H
 obtain ⟨t112, A40, H⟩ := H
 replace H : ((spec_l01Next.f t102 t109 t110 t112).bind fun bt113 => ((spec_l01Digits.f k t106 bt113.1).bind fun t116 => ((spec_l01Next.f t102 bt113.2.1 bt113.2.2 16).bind fun bt119 => (if bt119.1 = 0 then (if t116.length < 17592186044416 then ((spec_l01Bad.f k t102 bt119.2.1 bt119.2.2 t106).bind fun bt125 => (some (bt125.1, (t116 ++ [0])))) else (none)) else (if bt119.1 = 1 then ((spec_l01Next.f t102 bt119.2.1 bt119.2.2 (t116.length : Int)).bind fun bt130 => ((spec_l01Pick.f t102 bt130.2.1 bt130.2.2 (([(-1), 2, 3, 4] : List Int))).bind fun bt136 => (if 0 ≤ bt130.1 then (if bt130.1 < (t116.length : Int) then ((spec_l01Bad.f k t102 bt136.2.1 bt136.2.2 t106).bind fun bt140 => (some (bt140.1, (t116.set (bt130.1 : Int).toNat bt136.1)))) else (none)) else (none)))) else ((spec_l01Bad.f k t102 bt119.2.1 bt119.2.2 t106).bind fun bt145 => (some (bt145.1, t116)))))))) = some (r1, r2) := H
 have A4 := Aside0.mk A40
 clear A40
 replace H := Option.bind_eq_some_iff.mp H
 obtain ⟨⟨t113, t114, t115⟩, A50, H⟩ := H
 replace H : ((spec_l01Digits.f k t106 t113).bind fun t116 => ((spec_l01Next.f t102 t114 t115 16).bind fun bt119 => (if bt119.1 = 0 then (if t116.length < 17592186044416 then ((spec_l01Bad.f k t102 bt119.2.1 bt119.2.2 t106).bind fun bt125 => (some (bt125.1, (t116 ++ [0])))) else (none)) else (if bt119.1 = 1 then ((spec_l01Next.f t102 bt119.2.1 bt119.2.2 (t116.length : Int)).bind fun bt130 => ((spec_l01Pick.f t102 bt130.2.1 bt130.2.2 (([(-1), 2, 3, 4] : List Int))).bind fun bt136 => (if 0 ≤ bt130.1 then (if bt130.1 < (t116.length : Int) then ((spec_l01Bad.f k t102 bt136.2.1 bt136.2.2 t106).bind fun bt140 => (some (bt140.1, (t116.set (bt130.1 : Int).toNat bt136.1)))) else (none)) else (none)))) else ((spec_l01Bad.f k t102 bt119.2.1 bt119.2.2 t106).bind fun bt145 => (some (bt145.1, t116))))))) = some (r1, r2) := H
 have A5 := Aside0.mk A50
 clear A50
 replace H := Option.bind_eq_some_iff.mp H
 obtain ⟨t116, A60, H⟩ := H
 replace H : ((spec_l01Next.f t102 t114 t115 16).bind fun bt119 => (if bt119.1 = 0 then (if t116.length < 17592186044416 then ((spec_l01Bad.f k t102 bt119.2.1 bt119.2.2 t106).bind fun bt125 => (some (bt125.1, (t116 ++ [0])))) else (none)) else (if bt119.1 = 1 then ((spec_l01Next.f t102 bt119.2.1 bt119.2.2 (t116.length : Int)).bind fun bt130 => ((spec_l01Pick.f t102 bt130.2.1 bt130.2.2 (([(-1), 2, 3, 4] : List Int))).bind fun bt136 => (if 0 ≤ bt130.1 then (if bt130.1 < (t116.length : Int) then ((spec_l01Bad.f k t102 bt136.2.1 bt136.2.2 t106).bind fun bt140 => (some (bt140.1, (t116.set (bt130.1 : Int).toNat bt136.1)))) else (none)) else (none)))) else ((spec_l01Bad.f k t102 bt119.2.1 bt119.2.2 t106).bind fun bt145 => (some (bt145.1, t116)))))) = some (r1, r2) := H
 have A6 := Aside0.mk A60
 clear A60
 replace H := Option.bind_eq_some_iff.mp H
 obtain ⟨⟨t119, t120, t121⟩, A70, H⟩ := H
 replace H : (if t119 = 0 then (if t116.length < 17592186044416 then ((spec_l01Bad.f k t102 t120 t121 t106).bind fun bt125 => (some (bt125.1, (t116 ++ [0])))) else (none)) else (if t119 = 1 then ((spec_l01Next.f t102 t120 t121 (t116.length : Int)).bind fun bt130 => ((spec_l01Pick.f t102 bt130.2.1 bt130.2.2 (([(-1), 2, 3, 4] : List Int))).bind fun bt136 => (if 0 ≤ bt130.1 then (if bt130.1 < (t116.length : Int) then ((spec_l01Bad.f k t102 bt136.2.1 bt136.2.2 t106).bind fun bt140 => (some (bt140.1, (t116.set (bt130.1 : Int).toNat bt136.1)))) else (none)) else (none)))) else ((spec_l01Bad.f k t102 t120 t121 t106).bind fun bt145 => (some (bt145.1, t116))))) = some (r1, r2) := H
 have A7 := Aside0.mk A70
 clear A70
 by_cases c8 : t119 = 0
 ·rw [if_pos c8] at H
  have c8b0 : (t119 == 0) = true := beq_iff_eq.mpr c8
  have c8b1 : (t119 != 0) = false := bne_eq_false_iff_eq.mpr c8
  clear c8
  by_cases c9 : t116.length < 17592186044416
  rotate_left
  ·rw [if_neg c9] at H
   exact absurd H (by simp)
  rw [if_pos c9] at H
  have LMc9 := Aside0.mk c9
  clear c9
  obtain ⟨y122, hy122⟩ : ∃ y_ : List Int, y_ = (t116 ++ [0]) := ⟨_, rfl⟩
  replace H : ((spec_l01Bad.f k t102 t120 t121 t106).bind fun bt125 => (some (bt125.1, y122))) = some (r1, r2) := y_ H
  have Ny122 := Aside0.mk hy122
  clear hy122
  replace H := Option.bind_eq_some_iff.mp H
  obtain ⟨⟨t125, t128, t129⟩, A100, H⟩ := H
  replace H : (some (t125, y122)) = some (r1, r2) := H
  have A10 := Aside0.mk A100
  clear A100
  simp only [Option.some.injEq, Prod.mk.injEq] at H
  obtain ⟨rfl, rfl⟩ := H
  go_enter Try.func33, Try.ntmps33
  try go_wp2_with (first | ((with_reducible refine gate_dst (N := 2) rfl ?_); refine bx_ (N := 2) (cs := #[.slice none 0 0]) (t := 26) rfl rfl ?_; intro gb101 hg w11 hbox hb; have n0_ := b1_ HB hb; have n1_ := Aside0.mk (hbox); have n2_ := ge_ hg HB; have n3_ := ge_ hg HB; clear HB; have HB := n0_; have BK101 := n1_; have GW101 := n2_; have GE101 := n3_; clear n0_ n1_ n2_ n3_ hb hbox hg) | ((with_reducible refine gate_callee (f := 78) rfl ?_); refine gl_ (some 8) rfl rfl Try.func78 #[.slice A0 l0.length c0] rfl ?_; (with_reducible refine (spec_l01From.calls k _ _ l0 t102 t103 t104 w _ ?side1 ?side2 ?side3 A2.out).mono ?_); (case side1 => exact gb_ HB.out); (case side2 => exact HR0.out); (case side3 => exact HC0.out); rintro e w12 ⟨g105, rfl, hi, hb, hb2⟩; refine ⟨_, rfl, ?_⟩; replace HB := Aside0.mk (hb); have HI105 := Aside0.mk (hi); have NB105_101 := Aside0.mk (IsS91.ne_blk hi (blk_below (g := gb101) (o := .cells #[.slice none 0 0] 26 (0, 0)) (bb_ BK101.out) hb2) (by decide)); have NB101_105 := Aside0.mk (Ne.symm (IsS91.ne_blk hi (blk_below (g := gb101) (o := .cells #[.slice none 0 0] 26 (0, 0)) (bb_ BK101.out) hb2) (by decide))); replace BK101 := Aside0.mk (blk_below (g := gb101) (o := .cells #[.slice none 0 0] 26 (0, 0)) (bb_ BK101.out) hb2); (try clear hb); (try clear hb2); (try clear hk); (try clear hi)) | ((with_reducible refine gate_callee (f := 79) rfl ?_); refine gl_ (some 10) rfl rfl Try.func79 #[.pointer (some ⟨g105, 0, none⟩)] rfl ?_; (with_reducible refine (spec_l01Draw.calls k g105 t102 t103 t104 t106 t109 t110 w _ ?side1 ?side2 A3.out).mono ?_); (case side1 => exact i_ HI105); (case side2 => exact gb_ HB.out); rintro e w13 ⟨v107, rfl, ho0, hi, hb, hk⟩; refine ⟨_, rfl, ?_⟩; replace BK101 := kx_ BK101 NB101_105 hk; have HO108 := Aside0.mk (Kd.R_lower ho0 (below_size (gb_ HB.out))); replace HB := Aside0.mk (hb); replace HI105 := Aside0.mk (hi); (try clear hb); (try clear hb2); (try clear hk); (try clear hi); (try clear ho0)) | ((with_reducible refine gate_dst (N := 5) rfl ?_); refine bx_ (N := 5) (cs := #[.slice none 0 0]) (t := 26) rfl rfl ?_; intro gb111 hg w14 hbox hb; have n0_ := a1_ HO108 hb; have n1_ := a2_ BK101 hb; have n2_ := i1_ HI105 hb; have n3_ := b1_ HB hb; have n4_ := Aside0.mk (hbox); have n5_ := ge_ hg HB; have n6_ := ge_ hg HB; have n7_ := nl_ hg BK101; have n8_ := nr_ hg BK101; have n9_ := il_ hg HI105; have n10_ := ir_ hg HI105; clear HO108 BK101 HI105 HB; have HO108 := n0_; have BK101 := n1_; have HI105 := n2_; have HB := n3_; have BK111 := n4_; have GW111 := n5_; have GE111 := n6_; have NB101_111 := n7_; have NB111_101 := n8_; have NB105_111 := n9_; have NB111_105 := n10_; clear n0_ n1_ n2_ n3_ n4_ n5_ n6_ n7_ n8_ n9_ n10_ hb hbox hg; obtain ⟨Ao15, co15, eo15⟩ := Kd.R_slice HO108.out; subst eo15; have hnb16 := NB111_101.out; have hnc16 := NB101_111.out; have hnb17 := NB111_105.out; have hnc17 := NB105_111.out; have hcz18_0 := hz_ BK111; have hfz18_0 := blk_frozen BK111.out 0))
  have n0_ : Aside0 (Kd.R (Kd.int .i64) 2 (w14.setCell ⟨gb111, 0, none⟩ (.slice Ao15 t106.length co15)) w.heap.size (fun _ => True) (.slice Ao15 t106.length co15) t106) := ⟨by (with_reducible repeat (first | apply Kd.R_alloc | apply Kd.R_drewN | apply Kd.R_drew)); exact Kd.R_mono (Kd.R_far (p := ⟨gb111, 0, none⟩) (Kd.R_types HO108.out BK111.out (by decide)) (fun _ hk => hk.2) (.slice Ao15 t106.length co15)) (fun _ hk => trivial)⟩
  have n1_ : Aside0 ((w14.setCell ⟨gb111, 0, none⟩ (.slice Ao15 t106.length co15)).heap[gb101]? = some (.cells #[.slice none 0 0] 26 (0, 0))) := ⟨by (with_reducible repeat (first | refine blk_drewN ?_ _ | refine blk_drew ?_ | refine blk_alloc ?_ _)); refine blk_far ?_ NB101_111.out _; (with_reducible repeat (first | refine blk_drewN ?_ _ | refine blk_drew ?_ | refine blk_alloc ?_ _)); exact BK101.out⟩
  have n2_ : Aside0 ((w14.setCell ⟨gb111, 0, none⟩ (.slice Ao15 t106.length co15)).heap[gb111]? = some (.cells #[.slice Ao15 t106.length co15] 26 (0, 0))) := ⟨by (with_reducible repeat (first | refine blk_drewN ?_ _ | refine blk_drew ?_ | refine blk_alloc ?_ _)); refine blk_put (cs := #[.slice none 0 0]) ?_ 0 _ rfl; (with_reducible repeat (first | refine blk_drewN ?_ _ | refine blk_drew ?_ | refine blk_alloc ?_ _)); exact BK111.out⟩
  have n3_ : Aside0 (IsS91 w (w14.setCell ⟨gb111, 0, none⟩ (.slice Ao15 t106.length co15)) g105 t102 t109 t110) := ⟨i_ HI105⟩
  have n4_ : Aside0 (Below w.heap.size w (w14.setCell ⟨gb111, 0, none⟩ (.slice Ao15 t106.length co15))) := ⟨gb_ HB.out⟩
  (try clear HO108)
  (try clear BK101)
  (try clear BK111)
  (try clear HI105)
  (try clear HB)
  generalize (w14.setCell ⟨gb111, 0, none⟩ (.slice Ao15 t106.length co15)) = w19 at n0_ n1_ n2_ n3_ n4_ ⊢
  have HO108 := n0_
  have BK101 := n1_
  have BK111 := n2_
  have HI105 := n3_
  have HB := n4_
  clear n0_ n1_ n2_ n3_ n4_
  replace HO108 := Aside0.mk (Kd.R_drew HO108.out)
  replace BK101 := Aside0.mk (blk_drew BK101.out)
  replace BK111 := Aside0.mk (blk_drew BK111.out)
  replace HI105 := Aside0.mk (IsS91.drew HI105.out)
  replace HB := Aside0.mk (below_drew1 HB.out)
  refine start_ (n := 7) (S := fun w' => w'.cell? ⟨gb111, 0, none⟩ = some (.slice Ao15 t106.length co15)) (ds := []) #[false, false, false, false, false, false, false] (by kernel_rfl) rfl rfl ((blk_cell BK111.out 0).trans rfl) (fun hHeld => ?_)
  generalize w19.drew = w20 at HO108 BK101 BK111 HI105 HB hHeld ⊢
  refine pure_ (i := 1) (N := some 12) (v := ?_) (a' := ?_) #[false, true, false, false, false, false, false] rfl rfl (by kernel_rfl) (fun _ _ _ h => h) (Or.inl ⟨by rfl, ?_⟩) ?_ ?_
  rotate_left
  ·exact t7_
  rotate_left
  ·exact t4_
  refine take_ (i := 0) (N := some 11) (v := ?_) (a' := ?_) #[true, true, false, false, false, false, false] rfl rfl (by kernel_rfl) (fun _ _ _ h => h) (Or.inl ⟨by rfl, ?_⟩) hHeld ?_ ?_
  rotate_left
  ·intro w' s0
   go_simp
   with_reducible rfl
  rotate_left
  ·exact t4_
  refine take_ (i := 2) (N := some 13) (v := ?_) (a' := ?_) #[true, true, true, false, false, false, false] rfl rfl (by kernel_rfl) (fun _ _ _ h => h) (Or.inl ⟨by rfl, ?_⟩) hHeld ?_ ?_
  rotate_left
  ·intro w' s0
   go_simp
   with_reducible rfl
  rotate_left
  ·exact t4_
  refine one_ (i := 3) (N := some 14) #[true, true, true, true, false, false, false] rfl rfl (by kernel_rfl) (by decide) (fun K hK => ?_)
  refine goes_ Try.func76 (by kernel_rfl) rfl #[.agg #[.slice Ao15 t106.length co15]] (by rfl) rfl rfl t1_ ?_
  with_reducible refine (spec_l01N.calls k _ _ t106 t112 _ ?side1 ?side2 A4.out).mono ?_
  (case side1 => exact c1_ HO108)
  (case side2 => exact (Kd.R_reads' HO108.out).2.1)
  rintro e w21 ⟨rfl, hb⟩
  refine ⟨_, rfl, ?_⟩
  replace HO108 := a1_ HO108 hb
  replace BK101 := a2_ BK101 hb
  replace HI105 := i1_ HI105 hb
  replace BK111 := a2_ BK111 hb
  replace HB := b1_ HB hb
  (try clear hb)
  (try clear hb2)
  (try clear hk)
  (try clear hi)
  refine hK.out _ _ ((blk_cell BK111.out 0).trans rfl) (fun hHeld => ?_)
  clear hK K
  refine norm_ (a' := ?_) ?_ ?_
  rotate_left
  ·show Act.put _ (some 14) _ = _
   simp only [Act.put, List.setIfInBounds_toArray, List.set_cons_zero, List.set_cons_succ, i64_w, i32_w]
   rfl
  refine one_ (i := 4) (N := some 15) #[true, true, true, true, true, false, false] rfl rfl (by kernel_rfl) (by decide) (fun K hK => ?_)
  refine goes_ Try.func85 (by kernel_rfl) rfl #[.pointer (some ⟨g105, 0, none⟩), .int .i64 t112] (by rfl) rfl rfl t1_ ?_
  with_reducible refine (spec_l01Next.calls g105 t102 t109 t110 t112 t113 t114 t115 w _ ?side1 ?side2 A5.out).mono ?_
  (case side1 => exact i_ HI105)
  (case side2 => exact gb_ HB.out)
  rintro e w22 ⟨rfl, hi, hb, hk⟩
  refine ⟨_, rfl, ?_⟩
  replace BK101 := kx_ BK101 NB101_105 hk
  replace HO108 := kr_ HI105 HO108 hk
  replace BK111 := kx_ BK111 NB111_105 hk
  replace HB := Aside0.mk (hb)
  replace HI105 := Aside0.mk (hi)
  (try clear hb)
  (try clear hb2)
  (try clear hk)
  (try clear hi)
  refine hK.out _ _ ((blk_cell BK111.out 0).trans rfl) (fun hHeld => ?_)
  clear hK K
  refine norm_ (a' := ?_) ?_ ?_
  rotate_left
  ·show Act.put _ (some 15) _ = _
   simp only [Act.put, List.setIfInBounds_toArray, List.set_cons_zero, List.set_cons_succ, i64_w, i32_w]
   rfl
  refine one_ (i := 5) (N := some 16) #[true, true, true, true, true, true, false] rfl rfl (by kernel_rfl) (by decide) (fun K hK => ?_)
  refine goes_ Try.func65 (by kernel_rfl) rfl #[.agg #[.slice Ao15 t106.length co15], .int .i64 t113] (by rfl) rfl rfl t1_ ?_
  with_reducible refine (spec_l01Digits.calls k _ _ t106 t113 t116 _ ?side1 ?side2 A6.out).mono ?_
  (case side1 => exact c1_ HO108)
  (case side2 => exact (Kd.R_reads' HO108.out).2.1)
  rintro e w23 ⟨v117, rfl, ho0, hb⟩
  refine ⟨_, rfl, ?_⟩
  have HO118 := Aside0.mk (Kd.R_lower (Kd.R_new' ho0 (Kd.R_lt (rb_ HO108.out))) (below_size (gb_ HB.out)))
  replace HO108 := a5_ HO108 ho0 hb
  replace BK101 := a2_ BK101 hb
  replace HI105 := i1_ HI105 hb
  replace BK111 := a2_ BK111 hb
  replace HB := b1_ HB hb
  (try clear hb)
  (try clear hb2)
  (try clear hk)
  (try clear hi)
  (try clear ho0)
  refine hK.out _ _ ((blk_cell BK111.out 0).trans rfl) (fun hHeld => ?_)
  clear hK K
  refine norm_ (a' := ?_) ?_ ?_
  rotate_left
  ·show Act.put _ (some 16) _ = _
   simp only [Act.put, List.setIfInBounds_toArray, List.set_cons_zero, List.set_cons_succ, i64_w, i32_w]
   rfl
  refine pure_ (i := 6) (N := some 6) (v := ?_) (a' := ?_) #[true, true, true, true, true, true, true] rfl rfl (by kernel_rfl) (fun _ _ _ h => h) (Or.inl ⟨by rfl, ?_⟩) ?_ ?_
  rotate_left
  ·exact t7_
  rotate_left
  ·exact t4_
  refine done_ (by kernel_rfl) ?_
  try go_wp2_with (first | ((with_reducible refine gate_callee (f := 85) rfl ?_); refine gl_ (some 18) rfl rfl Try.func85 #[.pointer (some ⟨g105, 0, none⟩), .int .i64 16] rfl ?_; (with_reducible refine (spec_l01Next.calls g105 t102 t114 t115 16 t119 t120 t121 w _ ?side1 ?side2 A7.out).mono ?_); (case side1 => exact i_ HI105); (case side2 => exact gb_ HB.out); rintro e w24 ⟨rfl, hi, hb, hk⟩; refine ⟨_, rfl, ?_⟩; replace BK101 := kx_ BK101 NB101_105 hk; replace HO108 := kr_ HI105 HO108 hk; replace BK111 := kx_ BK111 NB111_105 hk; replace HO118 := kr_ HI105 HO118 hk; replace HB := Aside0.mk (hb); replace HI105 := Aside0.mk (hi); (try clear hb); (try clear hb2); (try clear hk); (try clear hi)) | ((with_reducible refine gate_builtin (b := .append) (xs := #[.tmp 21, .tmp 22]) rfl ?_); at_builtin; refine Kd.R_append (Kd.int .i64) (w0 := w) w.heap.size rfl (.tmp 21) (.tmp 22) 24 2 (.int .i64 0) 8 rfl Try.underlying24 info2 rfl (by decide) (by omega) v117 t116 0 [.int .i64 0] (fun k_ => OB_ k_ (.slice Ao15 t106.length co15)) (fun _ => False) rfl rfl ?aP (fun _ hk => hk.elim) ?aF ?aO ?aB ?aS ?aL ?_; (case aP => exact rfl); (case aB => exact (gb_ HB.out)); (case aF => exact (fun k_ hk => Kd.fresh' (Kd.R_lt (rb_ HO108.out)) k_ hk)); (case aO => exact (rb_ (Kd.R_mono HO118.out (fun _ hk => hk.2)))); (case aS => exact (below_size (gb_ HB.out))); (case aL => have := LMc9.out; omega); intro v123 w25 ho hb hg hat; rw [← Ny122.out] at ho; have n0_ := Aside0.mk (blk_grown (g := gb101) (o := .cells #[.slice none 0 0] 26 (0, 0)) (bb_ BK101.out) hg (Kd.R_ne HO118.out BK101.out (by decide))); have n1_ := Aside0.mk (IsS91.grown (i_ HI105) hg (IsS91.own_ne HI105.out HO118.out (by decide))); have n2_ := Aside0.mk (Kd.R_after (ok := (fun _ => True)) (rb_ HO108.out) hg hat); have n3_ := Aside0.mk (blk_grown (g := gb111) (o := .cells #[.slice Ao15 t106.length co15] 26 (0, 0)) (bb_ BK111.out) hg (Kd.R_ne HO118.out BK111.out (by decide))); have n4_ := Aside0.mk (hb); have n5_ := Aside0.mk (ho); clear BK101 HI105 HO108 BK111 HB HO118; have BK101 := n0_; have HI105 := n1_; have HO108 := n2_; have BK111 := n3_; have HB := n4_; have HO124 := n5_; clear n0_ n1_ n2_ n3_ n4_ n5_ ho hb hg hat; have hcz26_0 := hz_ BK111; have hfz26_0 := blk_frozen BK111.out 0) | ((with_reducible refine gate_callee (f := 81) rfl ?_); refine gl_ (some 37) rfl rfl Try.func81 #[.pointer (some ⟨g105, 0, none⟩), .agg #[.slice Ao15 t106.length co15]] rfl ?_; (with_reducible refine (spec_l01Bad.calls k g105 t102 t120 t121 (fun k_ => some k_ = (.slice Ao15 t106.length co15 : Value).ownBlock) (.slice Ao15 t106.length co15) t106 t125 t128 t129 w _ ?side1 ?side2 ?side3 A10.out).mono ?_); (case side1 => exact i_ HI105); (case side2 => exact gb_ HB.out); (case side3 => exact Kd.R_tight rfl HO108.out); rintro e w27 ⟨v126, rfl, ho0, hi, hb, hkp⟩; refine ⟨_, rfl, ?_⟩; have n0_ := Aside0.mk (blk_kept (bb_ BK101.out) hkp (fun hs_ => Or.elim hs_ (fun hs_ => (fun e_ => (Kd.R_ne HO108.out BK101.out (by decide)) e_) hs_) (fun e_ => NB101_105.out e_))); have n1_ := Aside0.mk (hi); have n2_ := Aside0.mk (blk_kept (bb_ BK111.out) hkp (fun hs_ => Or.elim hs_ (fun hs_ => (fun e_ => (Kd.R_ne HO108.out BK111.out (by decide)) e_) hs_) (fun e_ => NB111_105.out e_))); have n3_ := Aside0.mk (Kd.R_mono (ok' := fun k_ => OB_ k_ v126) (Kd.R_keptB ((IsS91.apart HI105.out HO124.out (by decide))) hkp (fun k_ hk_ hs_ => Or.elim hs_ (fun hs_ => (hk_.1) hs_) (fun e_ => (hk_.2) e_))) (fun k_ hk_ => fun e_ => Or.elim (ho0.1 k_ e_.symm) (fun hs_ => hk_.2.1 (.inl hs_)) (fun hn_ => Nat.not_le.2 hk_.2.2 hn_))); have n4_ := Aside0.mk (Kd.R_mono (ok' := fun k_ => OB_ k_ v123) ho0 (fun k_ hk_ => Or.elim hk_ (fun hs_ => fun e_ => ((((IsS91.apart HI105.out HO124.out (by decide))).1 k_ e_.symm).1) hs_) (fun hn_ => (Kd.fresh' (Kd.R_lt (rb_ HO124.out)) k_ hn_)))); have n5_ := Aside0.mk (hb); clear BK101 HI105 BK111 HO124 HB HO108; have BK101 := n0_; have HI105 := n1_; have BK111 := n2_; have HO124 := n3_; have HO127 := n4_; have HB := n5_; clear n0_ n1_ n2_ n3_ n4_ n5_; (try clear hb); (try clear hkp); (try clear ho0); obtain ⟨Ao28, co28, eo28⟩ := Kd.R_slice HO127.out; subst eo28; have hnb29 := NB101_105.out; have hnc29 := NB105_101.out; have hcz30_0 := hz_ BK101; have hfz30_0 := blk_frozen BK101.out 0))
  refine bodyPost_ret (results_ct rfl _ _ gb101 26 #[.slice Ao28 t125.length co28] (0, 0) _ rfl (by (with_reducible repeat (first | refine blk_drewN ?_ _ | refine blk_drew ?_ | refine blk_alloc ?_ _)); refine blk_put (cs := #[.slice none 0 0]) ?_ 0 _ rfl; (with_reducible repeat (first | refine blk_drewN ?_ _ | refine blk_drew ?_ | refine blk_alloc ?_ _)); exact BK101.out) Try.underlying26 rfl (by kernel_rfl)) rfl ?_
  exact ⟨_, _, t5_, by (with_reducible repeat (first | apply Kd.R_alloc | apply Kd.R_drewN | apply Kd.R_drew)); exact Kd.R_mono (Kd.R_far (p := ⟨gb101, 0, none⟩) (Kd.R_types HO127.out BK101.out (by decide)) (fun _ hk => hk.2) (.slice Ao28 t125.length co28)) (fun _ hk => hk.1), by (with_reducible repeat (first | apply Kd.R_alloc | apply Kd.R_drewN | apply Kd.R_drew)); exact Kd.R_mono (Kd.R_far (p := ⟨gb101, 0, none⟩) (Kd.R_types HO124.out BK101.out (by decide)) (fun _ hk => hk.2) (.slice Ao28 t125.length co28)) (fun _ hk => hk.1), gb_ HB.out⟩
 rw [if_neg c8] at H
 have c8b0 : (t119 == 0) = false := beq_eq_false_iff_ne.mpr c8
 have c8b1 : (t119 != 0) = true := bne_iff_ne.mpr c8
 by_cases c31 : t119 = 1
 rotate_left
 ·rw [if_neg c31] at H
  have c31b0 : (t119 == 1) = false := beq_eq_false_iff_ne.mpr c31
  have c31b1 : (t119 != 1) = true := bne_iff_ne.mpr c31
  replace H := Option.bind_eq_some_iff.mp H
  obtain ⟨⟨t145, t148, t149⟩, A650, H⟩ := H
  replace H : (some (t145, t116)) = some (r1, r2) := H
  have A65 := Aside0.mk A650
  clear A650
  simp only [Option.some.injEq, Prod.mk.injEq] at H
  obtain ⟨rfl, rfl⟩ := H
  go_enter Try.func33, Try.ntmps33
  try go_wp2_with (first | ((with_reducible refine gate_dst (N := 2) rfl ?_); refine bx_ (N := 2) (cs := #[.slice none 0 0]) (t := 26) rfl rfl ?_; intro gb101 hg w66 hbox hb; have n0_ := b1_ HB hb; have n1_ := Aside0.mk (hbox); have n2_ := ge_ hg HB; have n3_ := ge_ hg HB; clear HB; have HB := n0_; have BK101 := n1_; have GW101 := n2_; have GE101 := n3_; clear n0_ n1_ n2_ n3_ hb hbox hg) | ((with_reducible refine gate_callee (f := 78) rfl ?_); refine gl_ (some 8) rfl rfl Try.func78 #[.slice A0 l0.length c0] rfl ?_; (with_reducible refine (spec_l01From.calls k _ _ l0 t102 t103 t104 w _ ?side1 ?side2 ?side3 A2.out).mono ?_); (case side1 => exact gb_ HB.out); (case side2 => exact HR0.out); (case side3 => exact HC0.out); rintro e w67 ⟨g105, rfl, hi, hb, hb2⟩; refine ⟨_, rfl, ?_⟩; replace HB := Aside0.mk (hb); have HI105 := Aside0.mk (hi); have NB105_101 := Aside0.mk (IsS91.ne_blk hi (blk_below (g := gb101) (o := .cells #[.slice none 0 0] 26 (0, 0)) (bb_ BK101.out) hb2) (by decide)); have NB101_105 := Aside0.mk (Ne.symm (IsS91.ne_blk hi (blk_below (g := gb101) (o := .cells #[.slice none 0 0] 26 (0, 0)) (bb_ BK101.out) hb2) (by decide))); replace BK101 := Aside0.mk (blk_below (g := gb101) (o := .cells #[.slice none 0 0] 26 (0, 0)) (bb_ BK101.out) hb2); (try clear hb); (try clear hb2); (try clear hk); (try clear hi)) | ((with_reducible refine gate_callee (f := 79) rfl ?_); refine gl_ (some 10) rfl rfl Try.func79 #[.pointer (some ⟨g105, 0, none⟩)] rfl ?_; (with_reducible refine (spec_l01Draw.calls k g105 t102 t103 t104 t106 t109 t110 w _ ?side1 ?side2 A3.out).mono ?_); (case side1 => exact i_ HI105); (case side2 => exact gb_ HB.out); rintro e w68 ⟨v107, rfl, ho0, hi, hb, hk⟩; refine ⟨_, rfl, ?_⟩; replace BK101 := kx_ BK101 NB101_105 hk; have HO108 := Aside0.mk (Kd.R_lower ho0 (below_size (gb_ HB.out))); replace HB := Aside0.mk (hb); replace HI105 := Aside0.mk (hi); (try clear hb); (try clear hb2); (try clear hk); (try clear hi); (try clear ho0)) | ((with_reducible refine gate_dst (N := 5) rfl ?_); refine bx_ (N := 5) (cs := #[.slice none 0 0]) (t := 26) rfl rfl ?_; intro gb111 hg w69 hbox hb; have n0_ := a1_ HO108 hb; have n1_ := a2_ BK101 hb; have n2_ := i1_ HI105 hb; have n3_ := b1_ HB hb; have n4_ := Aside0.mk (hbox); have n5_ := ge_ hg HB; have n6_ := ge_ hg HB; have n7_ := nl_ hg BK101; have n8_ := nr_ hg BK101; have n9_ := il_ hg HI105; have n10_ := ir_ hg HI105; clear HO108 BK101 HI105 HB; have HO108 := n0_; have BK101 := n1_; have HI105 := n2_; have HB := n3_; have BK111 := n4_; have GW111 := n5_; have GE111 := n6_; have NB101_111 := n7_; have NB111_101 := n8_; have NB105_111 := n9_; have NB111_105 := n10_; clear n0_ n1_ n2_ n3_ n4_ n5_ n6_ n7_ n8_ n9_ n10_ hb hbox hg; obtain ⟨Ao70, co70, eo70⟩ := Kd.R_slice HO108.out; subst eo70; have hnb71 := NB111_101.out; have hnc71 := NB101_111.out; have hnb72 := NB111_105.out; have hnc72 := NB105_111.out; have hcz73_0 := hz_ BK111; have hfz73_0 := blk_frozen BK111.out 0))
  have n0_ : Aside0 (Kd.R (Kd.int .i64) 2 (w69.setCell ⟨gb111, 0, none⟩ (.slice Ao70 t106.length co70)) w.heap.size (fun _ => True) (.slice Ao70 t106.length co70) t106) := ⟨by (with_reducible repeat (first | apply Kd.R_alloc | apply Kd.R_drewN | apply Kd.R_drew)); exact Kd.R_mono (Kd.R_far (p := ⟨gb111, 0, none⟩) (Kd.R_types HO108.out BK111.out (by decide)) (fun _ hk => hk.2) (.slice Ao70 t106.length co70)) (fun _ hk => trivial)⟩
  have n1_ : Aside0 ((w69.setCell ⟨gb111, 0, none⟩ (.slice Ao70 t106.length co70)).heap[gb101]? = some (.cells #[.slice none 0 0] 26 (0, 0))) := ⟨by (with_reducible repeat (first | refine blk_drewN ?_ _ | refine blk_drew ?_ | refine blk_alloc ?_ _)); refine blk_far ?_ NB101_111.out _; (with_reducible repeat (first | refine blk_drewN ?_ _ | refine blk_drew ?_ | refine blk_alloc ?_ _)); exact BK101.out⟩
  have n2_ : Aside0 ((w69.setCell ⟨gb111, 0, none⟩ (.slice Ao70 t106.length co70)).heap[gb111]? = some (.cells #[.slice Ao70 t106.length co70] 26 (0, 0))) := ⟨by (with_reducible repeat (first | refine blk_drewN ?_ _ | refine blk_drew ?_ | refine blk_alloc ?_ _)); refine blk_put (cs := #[.slice none 0 0]) ?_ 0 _ rfl; (with_reducible repeat (first | refine blk_drewN ?_ _ | refine blk_drew ?_ | refine blk_alloc ?_ _)); exact BK111.out⟩
  have n3_ : Aside0 (IsS91 w (w69.setCell ⟨gb111, 0, none⟩ (.slice Ao70 t106.length co70)) g105 t102 t109 t110) := ⟨i_ HI105⟩
  have n4_ : Aside0 (Below w.heap.size w (w69.setCell ⟨gb111, 0, none⟩ (.slice Ao70 t106.length co70))) := ⟨gb_ HB.out⟩
  (try clear HO108)
  (try clear BK101)
  (try clear BK111)
  (try clear HI105)
  (try clear HB)
  generalize (w69.setCell ⟨gb111, 0, none⟩ (.slice Ao70 t106.length co70)) = w74 at n0_ n1_ n2_ n3_ n4_ ⊢
  have HO108 := n0_
  have BK101 := n1_
  have BK111 := n2_
  have HI105 := n3_
  have HB := n4_
  clear n0_ n1_ n2_ n3_ n4_
  replace HO108 := Aside0.mk (Kd.R_drew HO108.out)
  replace BK101 := Aside0.mk (blk_drew BK101.out)
  replace BK111 := Aside0.mk (blk_drew BK111.out)
  replace HI105 := Aside0.mk (IsS91.drew HI105.out)
  replace HB := Aside0.mk (below_drew1 HB.out)
  refine start_ (n := 7) (S := fun w' => w'.cell? ⟨gb111, 0, none⟩ = some (.slice Ao70 t106.length co70)) (ds := []) #[false, false, false, false, false, false, false] (by kernel_rfl) rfl rfl ((blk_cell BK111.out 0).trans rfl) (fun hHeld => ?_)
  generalize w74.drew = w75 at HO108 BK101 BK111 HI105 HB hHeld ⊢
  refine pure_ (i := 1) (N := some 12) (v := ?_) (a' := ?_) #[false, true, false, false, false, false, false] rfl rfl (by kernel_rfl) (fun _ _ _ h => h) (Or.inl ⟨by rfl, ?_⟩) ?_ ?_
  rotate_left
  ·exact t7_
  rotate_left
  ·exact t4_
  refine take_ (i := 0) (N := some 11) (v := ?_) (a' := ?_) #[true, true, false, false, false, false, false] rfl rfl (by kernel_rfl) (fun _ _ _ h => h) (Or.inl ⟨by rfl, ?_⟩) hHeld ?_ ?_
  rotate_left
  ·intro w' s0
   go_simp
   with_reducible rfl
  rotate_left
  ·exact t4_
  refine take_ (i := 2) (N := some 13) (v := ?_) (a' := ?_) #[true, true, true, false, false, false, false] rfl rfl (by kernel_rfl) (fun _ _ _ h => h) (Or.inl ⟨by rfl, ?_⟩) hHeld ?_ ?_
  rotate_left
  ·intro w' s0
   go_simp
   with_reducible rfl
  rotate_left
  ·exact t4_
  refine one_ (i := 3) (N := some 14) #[true, true, true, true, false, false, false] rfl rfl (by kernel_rfl) (by decide) (fun K hK => ?_)
  refine goes_ Try.func76 (by kernel_rfl) rfl #[.agg #[.slice Ao70 t106.length co70]] (by rfl) rfl rfl t1_ ?_
  with_reducible refine (spec_l01N.calls k _ _ t106 t112 _ ?side1 ?side2 A4.out).mono ?_
  (case side1 => exact c1_ HO108)
  (case side2 => exact (Kd.R_reads' HO108.out).2.1)
  rintro e w76 ⟨rfl, hb⟩
  refine ⟨_, rfl, ?_⟩
  replace HO108 := a1_ HO108 hb
  replace BK101 := a2_ BK101 hb
  replace HI105 := i1_ HI105 hb
  replace BK111 := a2_ BK111 hb
  replace HB := b1_ HB hb
  (try clear hb)
  (try clear hb2)
  (try clear hk)
  (try clear hi)
  refine hK.out _ _ ((blk_cell BK111.out 0).trans rfl) (fun hHeld => ?_)
  clear hK K
  refine norm_ (a' := ?_) ?_ ?_
  rotate_left
  ·show Act.put _ (some 14) _ = _
   simp only [Act.put, List.setIfInBounds_toArray, List.set_cons_zero, List.set_cons_succ, i64_w, i32_w]
   rfl
  refine one_ (i := 4) (N := some 15) #[true, true, true, true, true, false, false] rfl rfl (by kernel_rfl) (by decide) (fun K hK => ?_)
  refine goes_ Try.func85 (by kernel_rfl) rfl #[.pointer (some ⟨g105, 0, none⟩), .int .i64 t112] (by rfl) rfl rfl t1_ ?_
  with_reducible refine (spec_l01Next.calls g105 t102 t109 t110 t112 t113 t114 t115 w _ ?side1 ?side2 A5.out).mono ?_
  (case side1 => exact i_ HI105)
  (case side2 => exact gb_ HB.out)
  rintro e w77 ⟨rfl, hi, hb, hk⟩
  refine ⟨_, rfl, ?_⟩
  replace BK101 := kx_ BK101 NB101_105 hk
  replace HO108 := kr_ HI105 HO108 hk
  replace BK111 := kx_ BK111 NB111_105 hk
  replace HB := Aside0.mk (hb)
  replace HI105 := Aside0.mk (hi)
  (try clear hb)
  (try clear hb2)
  (try clear hk)
  (try clear hi)
  refine hK.out _ _ ((blk_cell BK111.out 0).trans rfl) (fun hHeld => ?_)
  clear hK K
  refine norm_ (a' := ?_) ?_ ?_
  rotate_left
  ·show Act.put _ (some 15) _ = _
   simp only [Act.put, List.setIfInBounds_toArray, List.set_cons_zero, List.set_cons_succ, i64_w, i32_w]
   rfl
  refine one_ (i := 5) (N := some 16) #[true, true, true, true, true, true, false] rfl rfl (by kernel_rfl) (by decide) (fun K hK => ?_)
  refine goes_ Try.func65 (by kernel_rfl) rfl #[.agg #[.slice Ao70 t106.length co70], .int .i64 t113] (by rfl) rfl rfl t1_ ?_
  with_reducible refine (spec_l01Digits.calls k _ _ t106 t113 t116 _ ?side1 ?side2 A6.out).mono ?_
  (case side1 => exact c1_ HO108)
  (case side2 => exact (Kd.R_reads' HO108.out).2.1)
  rintro e w78 ⟨v117, rfl, ho0, hb⟩
  refine ⟨_, rfl, ?_⟩
  have HO118 := Aside0.mk (Kd.R_lower (Kd.R_new' ho0 (Kd.R_lt (rb_ HO108.out))) (below_size (gb_ HB.out)))
  replace HO108 := a5_ HO108 ho0 hb
  replace BK101 := a2_ BK101 hb
  replace HI105 := i1_ HI105 hb
  replace BK111 := a2_ BK111 hb
  replace HB := b1_ HB hb
  (try clear hb)
  (try clear hb2)
  (try clear hk)
  (try clear hi)
  (try clear ho0)
  refine hK.out _ _ ((blk_cell BK111.out 0).trans rfl) (fun hHeld => ?_)
  clear hK K
  refine norm_ (a' := ?_) ?_ ?_
  rotate_left
  ·show Act.put _ (some 16) _ = _
   simp only [Act.put, List.setIfInBounds_toArray, List.set_cons_zero, List.set_cons_succ, i64_w, i32_w]
   rfl
  refine pure_ (i := 6) (N := some 6) (v := ?_) (a' := ?_) #[true, true, true, true, true, true, true] rfl rfl (by kernel_rfl) (fun _ _ _ h => h) (Or.inl ⟨by rfl, ?_⟩) ?_ ?_
  rotate_left
  ·exact t7_
  rotate_left
  ·exact t4_
  refine done_ (by kernel_rfl) ?_
  try go_wp2_with (first | ((with_reducible refine gate_callee (f := 85) rfl ?_); refine gl_ (some 18) rfl rfl Try.func85 #[.pointer (some ⟨g105, 0, none⟩), .int .i64 16] rfl ?_; (with_reducible refine (spec_l01Next.calls g105 t102 t114 t115 16 t119 t120 t121 w _ ?side1 ?side2 A7.out).mono ?_); (case side1 => exact i_ HI105); (case side2 => exact gb_ HB.out); rintro e w79 ⟨rfl, hi, hb, hk⟩; refine ⟨_, rfl, ?_⟩; replace BK101 := kx_ BK101 NB101_105 hk; replace HO108 := kr_ HI105 HO108 hk; replace BK111 := kx_ BK111 NB111_105 hk; replace HO118 := kr_ HI105 HO118 hk; replace HB := Aside0.mk (hb); replace HI105 := Aside0.mk (hi); (try clear hb); (try clear hb2); (try clear hk); (try clear hi); have hcz80_0 := hz_ BK111; have hfz80_0 := blk_frozen BK111.out 0) | ((with_reducible refine gate_callee (f := 81) rfl ?_); refine gl_ (some 37) rfl rfl Try.func81 #[.pointer (some ⟨g105, 0, none⟩), .agg #[.slice Ao70 t106.length co70]] rfl ?_; (with_reducible refine (spec_l01Bad.calls k g105 t102 t120 t121 (fun k_ => some k_ = (.slice Ao70 t106.length co70 : Value).ownBlock) (.slice Ao70 t106.length co70) t106 t145 t148 t149 w _ ?side1 ?side2 ?side3 A65.out).mono ?_); (case side1 => exact i_ HI105); (case side2 => exact gb_ HB.out); (case side3 => exact Kd.R_tight rfl HO108.out); rintro e w81 ⟨v146, rfl, ho0, hi, hb, hkp⟩; refine ⟨_, rfl, ?_⟩; have n0_ := Aside0.mk (blk_kept (bb_ BK101.out) hkp (fun hs_ => Or.elim hs_ (fun hs_ => (fun e_ => (Kd.R_ne HO108.out BK101.out (by decide)) e_) hs_) (fun e_ => NB101_105.out e_))); have n1_ := Aside0.mk (hi); have n2_ := Aside0.mk (blk_kept (bb_ BK111.out) hkp (fun hs_ => Or.elim hs_ (fun hs_ => (fun e_ => (Kd.R_ne HO108.out BK111.out (by decide)) e_) hs_) (fun e_ => NB111_105.out e_))); have n3_ := Aside0.mk (Kd.R_mono (ok' := fun k_ => OB_ k_ v146) (Kd.R_keptB ((IsS91.apart HI105.out HO118.out (by decide))) hkp (fun k_ hk_ hs_ => Or.elim hs_ (fun hs_ => (hk_.1.2) hs_) (fun e_ => (hk_.2) e_))) (fun k_ hk_ => fun e_ => Or.elim (ho0.1 k_ e_.symm) (fun hs_ => hk_.2.1 (.inl hs_)) (fun hn_ => Nat.not_le.2 hk_.2.2 hn_))); have n4_ := Aside0.mk (Kd.R_mono (ok' := fun k_ => OB_ k_ v117) ho0 (fun k_ hk_ => Or.elim hk_ (fun hs_ => fun e_ => ((((IsS91.apart HI105.out HO118.out (by decide))).1 k_ e_.symm).1.2) hs_) (fun hn_ => (Kd.fresh' (Kd.R_lt (rb_ HO118.out)) k_ hn_)))); have n5_ := Aside0.mk (hb); clear BK101 HI105 BK111 HO118 HB HO108; have BK101 := n0_; have HI105 := n1_; have BK111 := n2_; have HO118 := n3_; have HO147 := n4_; have HB := n5_; clear n0_ n1_ n2_ n3_ n4_ n5_; (try clear hb); (try clear hkp); (try clear ho0); obtain ⟨Ao82, co82, eo82⟩ := Kd.R_slice HO147.out; subst eo82; have hnb83 := NB101_105.out; have hnc83 := NB105_101.out; have hcz84_0 := hz_ BK101; have hfz84_0 := blk_frozen BK101.out 0))
  refine bodyPost_ret (results_ct rfl _ _ gb101 26 #[.slice Ao82 t145.length co82] (0, 0) _ rfl (by (with_reducible repeat (first | refine blk_drewN ?_ _ | refine blk_drew ?_ | refine blk_alloc ?_ _)); refine blk_put (cs := #[.slice none 0 0]) ?_ 0 _ rfl; (with_reducible repeat (first | refine blk_drewN ?_ _ | refine blk_drew ?_ | refine blk_alloc ?_ _)); exact BK101.out) Try.underlying26 rfl (by kernel_rfl)) rfl ?_
  exact ⟨_, _, t5_, by (with_reducible repeat (first | apply Kd.R_alloc | apply Kd.R_drewN | apply Kd.R_drew)); exact Kd.R_mono (Kd.R_far (p := ⟨gb101, 0, none⟩) (Kd.R_types HO147.out BK101.out (by decide)) (fun _ hk => hk.2) (.slice Ao82 t145.length co82)) (fun _ hk => hk.1), by (with_reducible repeat (first | apply Kd.R_alloc | apply Kd.R_drewN | apply Kd.R_drew)); exact Kd.R_mono (Kd.R_far (p := ⟨gb101, 0, none⟩) (Kd.R_types HO118.out BK101.out (by decide)) (fun _ hk => hk.2) (.slice Ao82 t145.length co82)) (fun _ hk => hk.1), gb_ HB.out⟩

 rw [if_pos c31] at H
 have c31b0 : (t119 == 1) = true := beq_iff_eq.mpr c31
 have c31b1 : (t119 != 1) = false := bne_eq_false_iff_eq.mpr c31
 clear c31
 replace H := Option.bind_eq_some_iff.mp H
 obtain ⟨⟨t130, t131, t132⟩, A320, H⟩ := H
 replace H : ((spec_l01Pick.f t102 t131 t132 (([(-1), 2, 3, 4] : List Int))).bind fun bt136 => (if 0 ≤ t130 then (if t130 < (t116.length : Int) then ((spec_l01Bad.f k t102 bt136.2.1 bt136.2.2 t106).bind fun bt140 => (some (bt140.1, (t116.set (t130 : Int).toNat bt136.1)))) else (none)) else (none))) = some (r1, r2) := H
 have A32 := Aside0.mk A320
 clear A320
 obtain ⟨y133, hy133⟩ : ∃ y_ : List Int, y_ = (([(-1), 2, 3, 4] : List Int)) := ⟨_, rfl⟩
 replace H : ((spec_l01Pick.f t102 t131 t132 y133).bind fun bt136 => (if 0 ≤ t130 then (if t130 < (t116.length : Int) then ((spec_l01Bad.f k t102 bt136.2.1 bt136.2.2 t106).bind fun bt140 => (some (bt140.1, (t116.set (t130 : Int).toNat bt136.1)))) else (none)) else (none))) = some (r1, r2) := y_ H
 have Ny133 := Aside0.mk hy133
 clear hy133
 replace H := Option.bind_eq_some_iff.mp H
 obtain ⟨⟨t136, t137, t138⟩, A330, H⟩ := H
 replace H : (if 0 ≤ t130 then (if t130 < (t116.length : Int) then ((spec_l01Bad.f k t102 t137 t138 t106).bind fun bt140 => (some (bt140.1, (t116.set (t130 : Int).toNat t136)))) else (none)) else (none)) = some (r1, r2) := H
 have A33 := Aside0.mk A330
 clear A330
 by_cases c34 : 0 ≤ t130
 rotate_left
 ·rw [if_neg c34] at H
  exact absurd H (by simp)
 rw [if_pos c34] at H
 have c34b0 : decide (0 ≤ t130) = true := decide_eq_true c34
 clear c34
 by_cases c35 : t130 < (t116.length : Int)
 rotate_left
 ·rw [if_neg c35] at H
  exact absurd H (by simp)
 rw [if_pos c35] at H
 have c35b0 : decide (t130 < (t116.length : Int)) = true := decide_eq_true c35
 clear c35
 obtain ⟨y139, hy139⟩ : ∃ y_ : List Int, y_ = (t116.set (t130 : Int).toNat t136) := ⟨_, rfl⟩
 replace H : ((spec_l01Bad.f k t102 t137 t138 t106).bind fun bt140 => (some (bt140.1, y139))) = some (r1, r2) := y_ H
 have Ny139 := Aside0.mk hy139
 clear hy139
 replace H := Option.bind_eq_some_iff.mp H
 obtain ⟨⟨t140, t143, t144⟩, A370, H⟩ := H
 replace H : (some (t140, y139)) = some (r1, r2) := H
 have A37 := Aside0.mk A370
 clear A370
 simp only [Option.some.injEq, Prod.mk.injEq] at H
 obtain ⟨rfl, rfl⟩ := H
 go_enter Try.func33, Try.ntmps33
 try go_wp2_with (first | ((with_reducible refine gate_dst (N := 2) rfl ?_); refine bx_ (N := 2) (cs := #[.slice none 0 0]) (t := 26) rfl rfl ?_; intro gb101 hg w38 hbox hb; have n0_ := b1_ HB hb; have n1_ := Aside0.mk (hbox); have n2_ := ge_ hg HB; have n3_ := ge_ hg HB; clear HB; have HB := n0_; have BK101 := n1_; have GW101 := n2_; have GE101 := n3_; clear n0_ n1_ n2_ n3_ hb hbox hg) | ((with_reducible refine gate_callee (f := 78) rfl ?_); refine gl_ (some 8) rfl rfl Try.func78 #[.slice A0 l0.length c0] rfl ?_; (with_reducible refine (spec_l01From.calls k _ _ l0 t102 t103 t104 w _ ?side1 ?side2 ?side3 A2.out).mono ?_); (case side1 => exact gb_ HB.out); (case side2 => exact HR0.out); (case side3 => exact HC0.out); rintro e w39 ⟨g105, rfl, hi, hb, hb2⟩; refine ⟨_, rfl, ?_⟩; replace HB := Aside0.mk (hb); have HI105 := Aside0.mk (hi); have NB105_101 := Aside0.mk (IsS91.ne_blk hi (blk_below (g := gb101) (o := .cells #[.slice none 0 0] 26 (0, 0)) (bb_ BK101.out) hb2) (by decide)); have NB101_105 := Aside0.mk (Ne.symm (IsS91.ne_blk hi (blk_below (g := gb101) (o := .cells #[.slice none 0 0] 26 (0, 0)) (bb_ BK101.out) hb2) (by decide))); replace BK101 := Aside0.mk (blk_below (g := gb101) (o := .cells #[.slice none 0 0] 26 (0, 0)) (bb_ BK101.out) hb2); (try clear hb); (try clear hb2); (try clear hk); (try clear hi)) | ((with_reducible refine gate_callee (f := 79) rfl ?_); refine gl_ (some 10) rfl rfl Try.func79 #[.pointer (some ⟨g105, 0, none⟩)] rfl ?_; (with_reducible refine (spec_l01Draw.calls k g105 t102 t103 t104 t106 t109 t110 w _ ?side1 ?side2 A3.out).mono ?_); (case side1 => exact i_ HI105); (case side2 => exact gb_ HB.out); rintro e w40 ⟨v107, rfl, ho0, hi, hb, hk⟩; refine ⟨_, rfl, ?_⟩; replace BK101 := kx_ BK101 NB101_105 hk; have HO108 := Aside0.mk (Kd.R_lower ho0 (below_size (gb_ HB.out))); replace HB := Aside0.mk (hb); replace HI105 := Aside0.mk (hi); (try clear hb); (try clear hb2); (try clear hk); (try clear hi); (try clear ho0)) | ((with_reducible refine gate_dst (N := 5) rfl ?_); refine bx_ (N := 5) (cs := #[.slice none 0 0]) (t := 26) rfl rfl ?_; intro gb111 hg w41 hbox hb; have n0_ := a1_ HO108 hb; have n1_ := a2_ BK101 hb; have n2_ := i1_ HI105 hb; have n3_ := b1_ HB hb; have n4_ := Aside0.mk (hbox); have n5_ := ge_ hg HB; have n6_ := ge_ hg HB; have n7_ := nl_ hg BK101; have n8_ := nr_ hg BK101; have n9_ := il_ hg HI105; have n10_ := ir_ hg HI105; clear HO108 BK101 HI105 HB; have HO108 := n0_; have BK101 := n1_; have HI105 := n2_; have HB := n3_; have BK111 := n4_; have GW111 := n5_; have GE111 := n6_; have NB101_111 := n7_; have NB111_101 := n8_; have NB105_111 := n9_; have NB111_105 := n10_; clear n0_ n1_ n2_ n3_ n4_ n5_ n6_ n7_ n8_ n9_ n10_ hb hbox hg; obtain ⟨Ao42, co42, eo42⟩ := Kd.R_slice HO108.out; subst eo42; have hnb43 := NB111_101.out; have hnc43 := NB101_111.out; have hnb44 := NB111_105.out; have hnc44 := NB105_111.out; have hcz45_0 := hz_ BK111; have hfz45_0 := blk_frozen BK111.out 0))
 have n0_ : Aside0 (Kd.R (Kd.int .i64) 2 (w41.setCell ⟨gb111, 0, none⟩ (.slice Ao42 t106.length co42)) w.heap.size (fun _ => True) (.slice Ao42 t106.length co42) t106) := ⟨by (with_reducible repeat (first | apply Kd.R_alloc | apply Kd.R_drewN | apply Kd.R_drew)); exact Kd.R_mono (Kd.R_far (p := ⟨gb111, 0, none⟩) (Kd.R_types HO108.out BK111.out (by decide)) (fun _ hk => hk.2) (.slice Ao42 t106.length co42)) (fun _ hk => trivial)⟩
 have n1_ : Aside0 ((w41.setCell ⟨gb111, 0, none⟩ (.slice Ao42 t106.length co42)).heap[gb101]? = some (.cells #[.slice none 0 0] 26 (0, 0))) := ⟨by (with_reducible repeat (first | refine blk_drewN ?_ _ | refine blk_drew ?_ | refine blk_alloc ?_ _)); refine blk_far ?_ NB101_111.out _; (with_reducible repeat (first | refine blk_drewN ?_ _ | refine blk_drew ?_ | refine blk_alloc ?_ _)); exact BK101.out⟩
 have n2_ : Aside0 ((w41.setCell ⟨gb111, 0, none⟩ (.slice Ao42 t106.length co42)).heap[gb111]? = some (.cells #[.slice Ao42 t106.length co42] 26 (0, 0))) := ⟨by (with_reducible repeat (first | refine blk_drewN ?_ _ | refine blk_drew ?_ | refine blk_alloc ?_ _)); refine blk_put (cs := #[.slice none 0 0]) ?_ 0 _ rfl; (with_reducible repeat (first | refine blk_drewN ?_ _ | refine blk_drew ?_ | refine blk_alloc ?_ _)); exact BK111.out⟩
 have n3_ : Aside0 (IsS91 w (w41.setCell ⟨gb111, 0, none⟩ (.slice Ao42 t106.length co42)) g105 t102 t109 t110) := ⟨i_ HI105⟩
 have n4_ : Aside0 (Below w.heap.size w (w41.setCell ⟨gb111, 0, none⟩ (.slice Ao42 t106.length co42))) := ⟨gb_ HB.out⟩
 (try clear HO108)
 (try clear BK101)
 (try clear BK111)
 (try clear HI105)
 (try clear HB)
 generalize (w41.setCell ⟨gb111, 0, none⟩ (.slice Ao42 t106.length co42)) = w46 at n0_ n1_ n2_ n3_ n4_ ⊢
 have HO108 := n0_
 have BK101 := n1_
 have BK111 := n2_
 have HI105 := n3_
 have HB := n4_
 clear n0_ n1_ n2_ n3_ n4_
 replace HO108 := Aside0.mk (Kd.R_drew HO108.out)
 replace BK101 := Aside0.mk (blk_drew BK101.out)
 replace BK111 := Aside0.mk (blk_drew BK111.out)
 replace HI105 := Aside0.mk (IsS91.drew HI105.out)
 replace HB := Aside0.mk (below_drew1 HB.out)
 refine start_ (n := 7) (S := fun w' => w'.cell? ⟨gb111, 0, none⟩ = some (.slice Ao42 t106.length co42)) (ds := []) #[false, false, false, false, false, false, false] (by kernel_rfl) rfl rfl ((blk_cell BK111.out 0).trans rfl) (fun hHeld => ?_)
 generalize w46.drew = w47 at HO108 BK101 BK111 HI105 HB hHeld ⊢
 refine pure_ (i := 1) (N := some 12) (v := ?_) (a' := ?_) #[false, true, false, false, false, false, false] rfl rfl (by kernel_rfl) (fun _ _ _ h => h) (Or.inl ⟨by rfl, ?_⟩) ?_ ?_
 rotate_left
 ·exact t7_
 rotate_left
 ·exact t4_
 refine take_ (i := 0) (N := some 11) (v := ?_) (a' := ?_) #[true, true, false, false, false, false, false] rfl rfl (by kernel_rfl) (fun _ _ _ h => h) (Or.inl ⟨by rfl, ?_⟩) hHeld ?_ ?_
 rotate_left
 ·intro w' s0
  go_simp
  with_reducible rfl
 rotate_left
 ·exact t4_
 refine take_ (i := 2) (N := some 13) (v := ?_) (a' := ?_) #[true, true, true, false, false, false, false] rfl rfl (by kernel_rfl) (fun _ _ _ h => h) (Or.inl ⟨by rfl, ?_⟩) hHeld ?_ ?_
 rotate_left
 ·intro w' s0
  go_simp
  with_reducible rfl
 rotate_left
 ·exact t4_
 refine one_ (i := 3) (N := some 14) #[true, true, true, true, false, false, false] rfl rfl (by kernel_rfl) (by decide) (fun K hK => ?_)
 refine goes_ Try.func76 (by kernel_rfl) rfl #[.agg #[.slice Ao42 t106.length co42]] (by rfl) rfl rfl t1_ ?_
 with_reducible refine (spec_l01N.calls k _ _ t106 t112 _ ?side1 ?side2 A4.out).mono ?_
 (case side1 => exact c1_ HO108)
 (case side2 => exact (Kd.R_reads' HO108.out).2.1)
 rintro e w48 ⟨rfl, hb⟩
 refine ⟨_, rfl, ?_⟩
 replace HO108 := a1_ HO108 hb
 replace BK101 := a2_ BK101 hb
 replace HI105 := i1_ HI105 hb
 replace BK111 := a2_ BK111 hb
 replace HB := b1_ HB hb
 (try clear hb)
 (try clear hb2)
 (try clear hk)
 (try clear hi)
 refine hK.out _ _ ((blk_cell BK111.out 0).trans rfl) (fun hHeld => ?_)
 clear hK K
 refine norm_ (a' := ?_) ?_ ?_
 rotate_left
 ·show Act.put _ (some 14) _ = _
  simp only [Act.put, List.setIfInBounds_toArray, List.set_cons_zero, List.set_cons_succ, i64_w, i32_w]
  rfl
 refine one_ (i := 4) (N := some 15) #[true, true, true, true, true, false, false] rfl rfl (by kernel_rfl) (by decide) (fun K hK => ?_)
 refine goes_ Try.func85 (by kernel_rfl) rfl #[.pointer (some ⟨g105, 0, none⟩), .int .i64 t112] (by rfl) rfl rfl t1_ ?_
 with_reducible refine (spec_l01Next.calls g105 t102 t109 t110 t112 t113 t114 t115 w _ ?side1 ?side2 A5.out).mono ?_
 (case side1 => exact i_ HI105)
 (case side2 => exact gb_ HB.out)
 rintro e w49 ⟨rfl, hi, hb, hk⟩
 refine ⟨_, rfl, ?_⟩
 replace BK101 := kx_ BK101 NB101_105 hk
 replace HO108 := kr_ HI105 HO108 hk
 replace BK111 := kx_ BK111 NB111_105 hk
 replace HB := Aside0.mk (hb)
 replace HI105 := Aside0.mk (hi)
 (try clear hb)
 (try clear hb2)
 (try clear hk)
 (try clear hi)
 refine hK.out _ _ ((blk_cell BK111.out 0).trans rfl) (fun hHeld => ?_)
 clear hK K
 refine norm_ (a' := ?_) ?_ ?_
 rotate_left
 ·show Act.put _ (some 15) _ = _
  simp only [Act.put, List.setIfInBounds_toArray, List.set_cons_zero, List.set_cons_succ, i64_w, i32_w]
  rfl
 refine one_ (i := 5) (N := some 16) #[true, true, true, true, true, true, false] rfl rfl (by kernel_rfl) (by decide) (fun K hK => ?_)
 refine goes_ Try.func65 (by kernel_rfl) rfl #[.agg #[.slice Ao42 t106.length co42], .int .i64 t113] (by rfl) rfl rfl t1_ ?_
 with_reducible refine (spec_l01Digits.calls k _ _ t106 t113 t116 _ ?side1 ?side2 A6.out).mono ?_
 (case side1 => exact c1_ HO108)
 (case side2 => exact (Kd.R_reads' HO108.out).2.1)
 rintro e w50 ⟨v117, rfl, ho0, hb⟩
 refine ⟨_, rfl, ?_⟩
 have HO118 := Aside0.mk (Kd.R_lower (Kd.R_new' ho0 (Kd.R_lt (rb_ HO108.out))) (below_size (gb_ HB.out)))
 replace HO108 := a5_ HO108 ho0 hb
 replace BK101 := a2_ BK101 hb
 replace HI105 := i1_ HI105 hb
 replace BK111 := a2_ BK111 hb
 replace HB := b1_ HB hb
 (try clear hb)
 (try clear hb2)
 (try clear hk)
 (try clear hi)
 (try clear ho0)
 refine hK.out _ _ ((blk_cell BK111.out 0).trans rfl) (fun hHeld => ?_)
 clear hK K
 refine norm_ (a' := ?_) ?_ ?_
 rotate_left
 ·show Act.put _ (some 16) _ = _
  simp only [Act.put, List.setIfInBounds_toArray, List.set_cons_zero, List.set_cons_succ, i64_w, i32_w]
  rfl
 refine pure_ (i := 6) (N := some 6) (v := ?_) (a' := ?_) #[true, true, true, true, true, true, true] rfl rfl (by kernel_rfl) (fun _ _ _ h => h) (Or.inl ⟨by rfl, ?_⟩) ?_ ?_
 rotate_left
 ·exact t7_
 rotate_left
 ·exact t4_
 refine done_ (by kernel_rfl) ?_
 try go_wp2_with (first | ((with_reducible refine gate_callee (f := 85) rfl ?_); refine gl_ (some 18) rfl rfl Try.func85 #[.pointer (some ⟨g105, 0, none⟩), .int .i64 16] rfl ?_; (with_reducible refine (spec_l01Next.calls g105 t102 t114 t115 16 t119 t120 t121 w _ ?side1 ?side2 A7.out).mono ?_); (case side1 => exact i_ HI105); (case side2 => exact gb_ HB.out); rintro e w51 ⟨rfl, hi, hb, hk⟩; refine ⟨_, rfl, ?_⟩; replace BK101 := kx_ BK101 NB101_105 hk; replace HO108 := kr_ HI105 HO108 hk; replace BK111 := kx_ BK111 NB111_105 hk; replace HO118 := kr_ HI105 HO118 hk; replace HB := Aside0.mk (hb); replace HI105 := Aside0.mk (hi); (try clear hb); (try clear hb2); (try clear hk); (try clear hi); obtain ⟨Ao52, co52, eo52⟩ := Kd.R_slice HO118.out; subst eo52) | ((with_reducible refine gate_callee (f := 85) rfl ?_); refine gl_ (some 30) rfl rfl Try.func85 #[.pointer (some ⟨g105, 0, none⟩), .int .i64 (t116.length : Int)] rfl ?_; (with_reducible refine (spec_l01Next.calls g105 t102 t120 t121 (t116.length : Int) t130 t131 t132 w _ ?side1 ?side2 A32.out).mono ?_); (case side1 => exact i_ HI105); (case side2 => exact gb_ HB.out); rintro e w53 ⟨rfl, hi, hb, hk⟩; refine ⟨_, rfl, ?_⟩; replace BK101 := kx_ BK101 NB101_105 hk; replace HO108 := kr_ HI105 HO108 hk; replace BK111 := kx_ BK111 NB111_105 hk; replace HO118 := kr_ HI105 HO118 hk; replace HB := Aside0.mk (hb); replace HI105 := Aside0.mk (hi); (try clear hb); (try clear hb2); (try clear hk); (try clear hi)) | ((with_reducible refine gate_dst (N := 32) rfl ?_); refine Kd.R_lit (Kd.int .i64) _ 2 ?hg (N := 32) ?hd (xs := ([(-1), 2, 3, 4] : List Int)) (inner := [.int .i64 (-1), .int .i64 2, .int .i64 3, .int .i64 4]) (ok := fun _ => True) (okp := fun _ => True) ?hr ?hp (fun _ hk => hk) trivial (Below.refl _ _) (Nat.le_refl _) (by simp) ?_; (case hd => rfl); (case hg => rfl); (case hr => exact t3_); (case hp => exact (Reps.one (show Kd.M (Kd.int .i64) _ _ _ (-1) [.int .i64 (-1)] from rfl) (Reps.one (show Kd.M (Kd.int .i64) _ _ _ 2 [.int .i64 2] from rfl) (Reps.one (show Kd.M (Kd.int .i64) _ _ _ 3 [.int .i64 3] from rfl) (Reps.one (show Kd.M (Kd.int .i64) _ _ _ 4 [.int .i64 4] from rfl) (Reps.none _ _)))))); intro v134 w54 ho55 hb hg_ hnew_; clear hg_ hnew_; (first | rw [← Ny133.out] at ho55 | (simp only [Int.reduceToNat] at ho55; rw [← Ny133.out] at ho55)); have n0_ := a5_ HO108 ho55 hb; have n1_ := a5_ HO118 ho55 hb; have n2_ := Aside0.mk (Kd.R_lower (Kd.R_new' (Kd.R_new' ho55 (Kd.R_lt (rb_ HO108.out))) (Kd.R_lt (rb_ HO118.out))) (below_size (gb_ HB.out))); have n3_ := a2_ BK101 hb; have n4_ := i1_ HI105 hb; have n5_ := a2_ BK111 hb; have n6_ := b1_ HB hb; clear HO108 HO118 BK101 HI105 BK111 HB; have HO108 := n0_; have HO118 := n1_; have HO135 := n2_; have BK101 := n3_; have HI105 := n4_; have BK111 := n5_; have HB := n6_; clear n0_ n1_ n2_ n3_ n4_ n5_ n6_ hb ho55; obtain ⟨Ao56, co56, eo56⟩ := Kd.R_slice HO135.out; subst eo56) | ((with_reducible refine gate_callee (f := 82) rfl ?_); refine gl_ (some 33) rfl rfl Try.func82 #[.pointer (some ⟨g105, 0, none⟩), .slice Ao56 y133.length co56] rfl ?_; (with_reducible refine (spec_l01Pick.calls g105 t102 t131 t132 _ _ y133 t136 t137 t138 w _ ?side1 ?side2 ?side3 ?side4 ?side5 A33.out).mono ?_); (case side1 => exact i_ HI105); (case side2 => exact gb_ HB.out); (case side3 => exact c1_ HO135); (case side4 => exact (Kd.R_reads' HO135.out).2.1); (case side5 => exact far_slice (IsS91.own_ne HI105.out HO135.out (by decide))); rintro e w57 ⟨rfl, hi, hb, hk⟩; refine ⟨_, rfl, ?_⟩; replace BK101 := kx_ BK101 NB101_105 hk; replace HO108 := kr_ HI105 HO108 hk; replace BK111 := kx_ BK111 NB111_105 hk; replace HO118 := kr_ HI105 HO118 hk; replace HO135 := kr_ HI105 HO135 hk; replace HB := Aside0.mk (hb); replace HI105 := Aside0.mk (hi); (try clear hb); (try clear hb2); (try clear hk); (try clear hi); have p36 : 0 ≤ (t130 : Int) := of_decide_eq_true t6_; have q36 : (t130 : Int) < ((t116.length : Int) : Int) := of_decide_eq_true t6_; obtain ⟨go36, co36, eo36, gb36, gl36, cl36, HG36⟩ := Kd.R_form HO118.out (by omega); (first | cases eo36 | (injection eo36 with ea_ en_ ec_; (first | subst ea_ | (injection ea_ with ea_; subst ea_)); subst ec_; clear en_)); have GB36 := Aside0.mk gb36; have GG36 := Aside0.mk HG36; clear gb36 gl36 HG36; obtain ⟨hx36_0, hf36_0⟩ := Kd.R_celln 0 HO118.out (t130 : Int) p36 q36; replace p36 := eq_true p36; replace q36 := eq_true q36; have n_ := Aside0.mk (Kd.R_mono (ok' := (fun k_ => OB_ k_ (.slice Ao42 t106.length co42) ∧ OB_ k_ (.slice Ao56 y133.length co56))) HO118.out (fun k_ hk => ⟨hk.1.2, hk.2⟩)); clear HO118; have HO118 := n_; clear n_; obtain ⟨hy58_, hz58_⟩ := Kd.R_celln 0 HO118.out (t130 : Int) (of_decide_eq_true t6_) (of_decide_eq_true t6_); have HP58 := Kd.R_putg HO118.out (t130 : Int) t136) | ((with_reducible refine gate_store (t := 2) (p := 34) rfl ?_); refine store_event (t := 2) (p := 34) (v := ?vo_w59) (w1 := (w57.setCell ⟨go36, (t130 : Int).toNat, none⟩ (.int .i64 t136))) ?hg ?ho ?hn ?hr ?_; (case ho => rfl); (case hg => rfl); (case hn => rfl); (case hr => exact t3_); intro w59 hw; have hg : w57.grownBy w59 (some go36) := (by rw [hw]; exact HP58.2); have hp_ : Kd.R (Kd.int .i64) 2 w59 w.heap.size (fun k_ => OB_ k_ (.slice Ao42 t106.length co42) ∧ OB_ k_ (.slice Ao56 y133.length co56)) (.slice (some ⟨go36, 0, none⟩) t116.length co52) y139 := (by rw [hw, Ny139.out]; exact HP58.1); clear HP58; have n0_ := Aside0.mk (blk_grown (g := gb101) (o := .cells #[.slice none 0 0] 26 (0, 0)) (bb_ BK101.out) hg (Kd.R_ne HO118.out BK101.out (by decide))); have n1_ := Aside0.mk (IsS91.grown (i_ HI105) hg (IsS91.own_ne HI105.out HO118.out (by decide))); have n2_ := Aside0.mk (Kd.R_after (v := (.slice (some ⟨go36, 0, none⟩) t116.length co52)) (v1 := (.slice (some ⟨go36, 0, none⟩) t116.length co52)) (ok := (fun k_ => OB_ k_ (.slice Ao56 y133.length co56))) (rb_ (Kd.R_mono HO108.out (fun _ hk => ⟨hk.2, hk.1.2⟩))) hg (.inl rfl)); have n3_ := Aside0.mk (blk_grown (g := gb111) (o := .cells #[.slice Ao42 t106.length co42] 26 (0, 0)) (bb_ BK111.out) hg (Kd.R_ne HO118.out BK111.out (by decide))); have n4_ := Aside0.mk (hp_); have n5_ := Aside0.mk (Kd.R_after (v := (.slice (some ⟨go36, 0, none⟩) t116.length co52)) (v1 := (.slice (some ⟨go36, 0, none⟩) t116.length co52)) (ok := (fun k_ => OB_ k_ (.slice Ao42 t106.length co42))) (rb_ (Kd.R_mono HO135.out (fun _ hk => ⟨hk.1.2, hk.2⟩))) hg (.inl rfl)); have n6_ := Aside0.mk ((by rw [hw]; exact below_set (HB.out) GB36.out : Below w.heap.size w w59)); clear BK101 HI105 HO108 BK111 HO118 HO135 HB; have BK101 := n0_; have HI105 := n1_; have HO108 := n2_; have BK111 := n3_; have HO118 := n4_; have HO135 := n5_; have HB := n6_; clear n0_ n1_ n2_ n3_ n4_ n5_ n6_ hg hw hp_; have hcz60_0 := hz_ BK111; have hfz60_0 := blk_frozen BK111.out 0) | ((with_reducible refine gate_callee (f := 81) rfl ?_); refine gl_ (some 37) rfl rfl Try.func81 #[.pointer (some ⟨g105, 0, none⟩), .agg #[.slice Ao42 t106.length co42]] rfl ?_; (with_reducible refine (spec_l01Bad.calls k g105 t102 t137 t138 (fun k_ => some k_ = (.slice Ao42 t106.length co42 : Value).ownBlock) (.slice Ao42 t106.length co42) t106 t140 t143 t144 w _ ?side1 ?side2 ?side3 A37.out).mono ?_); (case side1 => exact i_ HI105); (case side2 => exact gb_ HB.out); (case side3 => exact Kd.R_tight rfl HO108.out); rintro e w61 ⟨v141, rfl, ho0, hi, hb, hkp⟩; refine ⟨_, rfl, ?_⟩; have n0_ := Aside0.mk (blk_kept (bb_ BK101.out) hkp (fun hs_ => Or.elim hs_ (fun hs_ => (fun e_ => (Kd.R_ne HO108.out BK101.out (by decide)) e_) hs_) (fun e_ => NB101_105.out e_))); have n1_ := Aside0.mk (hi); have n2_ := Aside0.mk (blk_kept (bb_ BK111.out) hkp (fun hs_ => Or.elim hs_ (fun hs_ => (fun e_ => (Kd.R_ne HO108.out BK111.out (by decide)) e_) hs_) (fun e_ => NB111_105.out e_))); have n3_ := Aside0.mk (Kd.R_mono (ok' := fun k_ => OB_ k_ (.slice Ao56 y133.length co56) ∧ OB_ k_ v141) (Kd.R_keptB ((IsS91.apart HI105.out HO118.out (by decide))) hkp (fun k_ hk_ hs_ => Or.elim hs_ (fun hs_ => (hk_.1.1) hs_) (fun e_ => (hk_.2) e_))) (fun k_ hk_ => ⟨hk_.1.1.2, fun e_ => Or.elim (ho0.1 k_ e_.symm) (fun hs_ => hk_.2.1 (.inl hs_)) (fun hn_ => Nat.not_le.2 hk_.2.2 hn_)⟩)); have n4_ := Aside0.mk (Kd.R_mono (ok' := fun k_ => OB_ k_ (.slice (some ⟨go36, 0, none⟩) t116.length co52) ∧ OB_ k_ v141) (Kd.R_keptB ((IsS91.apart HI105.out HO135.out (by decide))) hkp (fun k_ hk_ hs_ => Or.elim hs_ (fun hs_ => (hk_.1.1) hs_) (fun e_ => (hk_.2) e_))) (fun k_ hk_ => ⟨hk_.1.1.2, fun e_ => Or.elim (ho0.1 k_ e_.symm) (fun hs_ => hk_.2.1 (.inl hs_)) (fun hn_ => Nat.not_le.2 hk_.2.2 hn_)⟩)); have n5_ := Aside0.mk (Kd.R_mono (ok' := fun k_ => OB_ k_ (.slice (some ⟨go36, 0, none⟩) t116.length co52) ∧ OB_ k_ (.slice Ao56 y133.length co56)) ho0 (fun k_ hk_ => ⟨Or.elim hk_ (fun hs_ => fun e_ => ((((IsS91.apart HI105.out HO118.out (by decide))).1 k_ e_.symm).1.1) hs_) (fun hn_ => (Kd.fresh' (Kd.R_lt (rb_ HO118.out)) k_ hn_)), Or.elim hk_ (fun hs_ => fun e_ => ((((IsS91.apart HI105.out HO135.out (by decide))).1 k_ e_.symm).1.1) hs_) (fun hn_ => (Kd.fresh' (Kd.R_lt (rb_ HO135.out)) k_ hn_))⟩)); have n6_ := Aside0.mk (hb); clear BK101 HI105 BK111 HO118 HO135 HB HO108; have BK101 := n0_; have HI105 := n1_; have BK111 := n2_; have HO118 := n3_; have HO135 := n4_; have HO142 := n5_; have HB := n6_; clear n0_ n1_ n2_ n3_ n4_ n5_ n6_; (try clear hb); (try clear hkp); (try clear ho0); obtain ⟨Ao62, co62, eo62⟩ := Kd.R_slice HO142.out; subst eo62; have hnb63 := NB101_105.out; have hnc63 := NB105_101.out; have hcz64_0 := hz_ BK101; have hfz64_0 := blk_frozen BK101.out 0))
 refine bodyPost_ret (results_ct rfl _ _ gb101 26 #[.slice Ao62 t140.length co62] (0, 0) _ rfl (by (with_reducible repeat (first | refine blk_drewN ?_ _ | refine blk_drew ?_ | refine blk_alloc ?_ _)); refine blk_put (cs := #[.slice none 0 0]) ?_ 0 _ rfl; (with_reducible repeat (first | refine blk_drewN ?_ _ | refine blk_drew ?_ | refine blk_alloc ?_ _)); exact BK101.out) Try.underlying26 rfl (by kernel_rfl)) rfl ?_
 exact ⟨_, _, t5_, by (with_reducible repeat (first | apply Kd.R_alloc | apply Kd.R_drewN | apply Kd.R_drew)); exact Kd.R_mono (Kd.R_far (p := ⟨gb101, 0, none⟩) (Kd.R_types HO142.out BK101.out (by decide)) (fun _ hk => hk.2) (.slice Ao62 t140.length co62)) (fun _ hk => hk.1.1), by (with_reducible repeat (first | apply Kd.R_alloc | apply Kd.R_drewN | apply Kd.R_drew)); exact Kd.R_mono (Kd.R_far (p := ⟨gb101, 0, none⟩) (Kd.R_types HO118.out BK101.out (by decide)) (fun _ hk => hk.2) (.slice Ao62 t140.length co62)) (fun _ hk => hk.1.2), gb_ HB.out⟩
def spec_DrawSumOfWords.f (k : Nat) (l0 : List Int) : Option (List Int × Int × Int) := (spec_l01With.f k l0).bind fun bt102 => (some (bt102.1, bt102.2.1, bt102.2.2))
set_option maxHeartbeats 8000000 in
set_option maxRecDepth 100000 in
theorem spec_DrawSumOfWords.calls (k : Nat) (A0 : Option Addr) (c0 : Nat) (l0 : List Int) (r1 : List Int) (r2 : Int) (r3 : Int) (w : World) (hr0 : Kd.C (Kd.int .u8) w A0 l0.length l0) (hc0 : l0.length ≤ c0) (h : spec_DrawSumOfWords.f k l0 = some (r1, r2, r3)) :
  Calls Try.prog 7 #[.slice A0 l0.length c0] w fun e w' => ∃ v0_ : Value, e = .returned (.tuple #[.agg #[v0_], .int .i64 r2, .int .i64 r3]) ∧ Kd.R (Kd.int .i64) 2 w' w.heap.size (fun _ => True) v0_ r1 ∧ Below w.heap.size w w' := by
 have hu26 := Try.underlying26
 have HR0 := Aside0.mk hr0
 have HC0 := Aside0.mk hc0
 clear hr0 hc0
 have HB := Aside0.mk (Below.refl w.heap.size w)
 have H : ((spec_l01With.f k l0).bind fun bt102 => (some (bt102.1, bt102.2.1, bt102.2.2))) = some (r1, r2, r3) := h
 clear h
 replace H := Option.bind_eq_some_iff.mp H
 obtain ⟨⟨t102, t105, t106⟩, A20, H⟩ := H
 replace H : (some (t102, t105, t106)) = some (r1, r2, r3) := H
 have A2 := Aside0.mk A20
 clear A20
 simp only [Option.some.injEq, Prod.mk.injEq] at H
 obtain ⟨rfl, rfl, rfl⟩ := H
 go_enter Try.func7, Try.ntmps7
 go_wp2_with (first | ((with_reducible refine gate_dst (N := 2) rfl ?_); refine bx_ (N := 2) (cs := #[.slice none 0 0]) (t := 26) rfl rfl ?_; intro gb101 hg w3 hbox hb; have n0_ := b1_ HB hb; have n1_ := Aside0.mk (hbox); have n2_ := ge_ hg HB; have n3_ := ge_ hg HB; clear HB; have HB := n0_; have BK101 := n1_; have GW101 := n2_; have GE101 := n3_; clear n0_ n1_ n2_ n3_ hb hbox hg) | ((with_reducible refine gate_callee (f := 55) rfl ?_); refine gl_ (some 10) rfl rfl Try.func55 #[.slice A0 l0.length c0] rfl ?_; (with_reducible refine (spec_l01With.calls k _ _ l0 t102 t105 t106 _ ?side1 ?side2 A2.out).mono ?_); (case side1 => exact c2_ HR0 HB); (case side2 => exact HC0.out); rintro e w4 ⟨v103, rfl, ho0, hb⟩; refine ⟨_, rfl, ?_⟩; have HO104 := Aside0.mk (Kd.R_lower ho0 (below_size (gb_ HB.out))); replace BK101 := a2_ BK101 hb; replace HB := b1_ HB hb; (try clear hb); (try clear hb2); (try clear hk); (try clear hi); (try clear ho0)) | ((with_reducible refine gate_dst (N := 5) rfl ?_); refine bx_ (N := 5) (cs := #[.slice none 0 0]) (t := 26) rfl rfl ?_; intro gb107 hg w5 hbox hb; have n0_ := a1_ HO104 hb; have n1_ := a2_ BK101 hb; have n2_ := b1_ HB hb; have n3_ := Aside0.mk (hbox); have n4_ := ge_ hg HB; have n5_ := ge_ hg HB; have n6_ := nl_ hg BK101; have n7_ := nr_ hg BK101; clear HO104 BK101 HB; have HO104 := n0_; have BK101 := n1_; have HB := n2_; have BK107 := n3_; have GW107 := n4_; have GE107 := n5_; have NB101_107 := n6_; have NB107_101 := n7_; clear n0_ n1_ n2_ n3_ n4_ n5_ n6_ n7_ hb hbox hg; obtain ⟨Ao6, co6, eo6⟩ := Kd.R_slice HO104.out; subst eo6; have hnb7 := NB107_101.out; have hnc7 := NB101_107.out; have hcz8_0 := hz_ BK107; have hfz8_0 := blk_frozen BK107.out 0; have hcz9_0 := hz_ BK101; have hfz9_0 := blk_frozen BK101.out 0))
 refine bodyPost_ret (results_ctt rfl _ _ gb101 26 #[.slice Ao6 t102.length co6] (0, 0) _ rfl (by (with_reducible repeat (first | refine blk_drewN ?_ _ | refine blk_drew ?_ | refine blk_alloc ?_ _)); refine blk_put (cs := #[.slice none 0 0]) ?_ 0 _ rfl; (with_reducible repeat (first | refine blk_drewN ?_ _ | refine blk_drew ?_ | refine blk_alloc ?_ _)); refine blk_far ?_ NB101_107.out _; (with_reducible repeat (first | refine blk_drewN ?_ _ | refine blk_drew ?_ | refine blk_alloc ?_ _)); exact BK101.out) Try.underlying26 rfl (by kernel_rfl)) rfl ?_
 exact ⟨_, t5_, by (with_reducible repeat (first | apply Kd.R_alloc | apply Kd.R_drewN | apply Kd.R_drew)); exact Kd.R_mono (Kd.R_far (p := ⟨gb101, 0, none⟩) (Kd.R_far (p := ⟨gb107, 0, none⟩) (Kd.R_types (Kd.R_types HO104.out BK107.out (by decide)) BK101.out (by decide)) (fun _ hk => hk.1.2) (.slice Ao6 t102.length co6)) (fun _ hk => hk.2) (.slice Ao6 t102.length co6)) (fun _ hk => trivial), gb_ HB.out⟩
end Go.Proofs.Ytlfipjdjmpdblaa.P
