/- The law of DirectSum, walked as one: for every input it returns true. -/
import Derived.Test.YtbhgnphdhkmliaaTotal
import Derived.Test.YtbhgnphdhkmliaaQDirect
import Derived.Outline
import Derived.Deep.Cut
import Derived.Deep.RegionHeld3
set_option linter.unusedVariables false
set_option linter.unusedSimpArgs false
namespace Go.Proofs.Ytbhgnphdhkmliaa.P
open Go.RowKit Go.Proofs.YtbhgnphdhkmliaaW.PrintWords Go.Proofs.YtbhgnphdhkmliaaW.PrintLast Go.Proofs.YtbhgnphdhkmliaaW.PrintMore CC









namespace Env
variable {w0 w : World} {R : List (Value × List Int)} {B : List (Nat × Value × Nat)}
theorem drop4 {p q a b c d : Value × List Int} (h : Env w0 w (p :: q :: a :: b :: c :: d :: R) B) : Env w0 w (p :: q :: R) B := by
  refine ⟨h.below, fun r hr => h.rows r (by grind), ?_, h.boxes, h.bapart⟩
  have := h.apart
  grind [List.pairwise_cons]
theorem drop1 {p : Value × List Int} (h : Env w0 w (p :: R) B) : Env w0 w R B := ⟨h.below, fun r hr => h.rows r (List.mem_cons_of_mem _ hr), (List.pairwise_cons.1 h.apart).2, h.boxes, h.bapart⟩
theorem here (h : Env w0 w R B) {g : Nat} {v : Value} {t : Nat} (hm : (g, v, t) ∈ B) : w.cell? ⟨g, 0, none⟩ = some v := blk_cell (h.boxes _ hm).2.1 0
theorem specDirect (h : Env w0 w R B) (i0 i1 i2 i3 : Nat) {A0 A1 A2 A3 : Option Addr} {n0 n1 n2 n3 c0 c1 c2 c3 : Nat} {s C x D ra rb : List Int} {rc : Int} (h0 : R[i0]? = some (.slice A0 n0 c0, s)) (h1 : R[i1]? = some (.slice A1 n1 c1, C)) (h2 : R[i2]? = some (.slice A2 n2 c2, x)) (h3 : R[i3]? = some (.slice A3 n3 c3, D)) (hC : C.length ≤ 1048576) (hD : D.length ≤ 1048576) (hz : directR s C x D = (ra, rb, rc)) :
    Calls Try.prog 10 #[.agg #[.slice A0 n0 c0], .slice A1 n1 c1, .agg #[.slice A2 n2 c2], .slice A3 n3 c3] w fun e w' => ∃ A c A' c', e = .returned (.tuple #[.agg #[.slice A ra.length c], .slice A' rb.length c', .int .i64 rc]) ∧ Aside0 (Env w0 w' ((.slice A ra.length c, ra) :: (.slice A' rb.length c', rb) :: R) B) := by
  obtain rfl := h.len i0 h0
  obtain rfl := h.len i1 h1
  obtain rfl := h.len i2 h2
  obtain rfl := h.len i3 h3
  obtain ⟨k, hk⟩ := (Q.specDirect_ev s x hC hD).rounds
  rw [hz] at hk
  refine (spec_DirectSum.calls k A0 c0 s A1 c1 C A2 c2 x A3 c3 D ra rb rc w (h.reads i0 h0).2 (h.reads i0 h0).1 (h.reads i1 h1).2 (h.reads i1 h1).1 (h.reads i2 h2).2 (h.reads i2 h2).1 (h.reads i3 h3).2 (h.reads i3 h3).1 hk).mono ?_
  rintro e w' ⟨v0, v1, rfl, hR0, hR1, hb⟩
  obtain ⟨A, c, rfl⟩ := Kd.R_slice hR0
  obtain ⟨A', c', rfl⟩ := Kd.R_slice hR1
  exact ⟨A, c, A', c', rfl, ⟨h.row2 hR0 hR1 hb⟩⟩
theorem implDirect (h : Env w0 w R B) (i0 i1 i2 i3 : Nat) {A0 A1 A2 A3 : Option Addr} {n0 n1 n2 n3 c0 c1 c2 c3 : Nat} {s C x D ra rb : List Int} {rc : Int} (h0 : R[i0]? = some (.slice A0 n0 c0, s)) (h1 : R[i1]? = some (.slice A1 n1 c1, C)) (h2 : R[i2]? = some (.slice A2 n2 c2, x)) (h3 : R[i3]? = some (.slice A3 n3 c3, D)) (hC : C.length ≤ 1048576) (hD : D.length ≤ 1048576) (hz : directR s C x D = (ra, rb, rc)) :
    Calls Try.prog 13 #[.agg #[.slice A0 n0 c0], .slice A1 n1 c1, .agg #[.slice A2 n2 c2], .slice A3 n3 c3] w fun e w' => ∃ A c A' c', e = .returned (.tuple #[.agg #[.slice A ra.length c], .slice A' rb.length c', .int .i64 rc]) ∧ Aside0 (Env w0 w' ((.slice A ra.length c, ra) :: (.slice A' rb.length c', rb) :: R) B) := by
  obtain rfl := h.len i0 h0
  obtain rfl := h.len i1 h1
  obtain rfl := h.len i2 h2
  obtain rfl := h.len i3 h3
  refine (directSum_calls A0 c0 s A1 c1 C A2 c2 x A3 c3 D w (h.reads i0 h0).2 (h.reads i0 h0).1 (h.reads i1 h1).2 (h.reads i1 h1).1 hC (h.reads i2 h2).2 (h.reads i2 h2).1 (h.reads i3 h3).2 (h.reads i3 h3).1 hD).mono ?_
  rw [hz]
  rintro e w' ⟨v0, v1, rfl, hR0, hR1, hb⟩
  obtain ⟨A, c, rfl⟩ := Kd.R_slice hR0
  obtain ⟨A', c', rfl⟩ := Kd.R_slice hR1
  exact ⟨A, c, A', c', rfl, ⟨h.row2 hR0 hR1 hb⟩⟩
end Env

set_option maxHeartbeats 8000000 in
set_option maxRecDepth 100000 in
theorem laws_FnExactDirectSum.whole (A0 : Option Addr) (c0 : Nat) (s : List Int) (A1 : Option Addr) (c1 : Nat) (C : List Int) (A2 : Option Addr) (c2 : Nat) (x : List Int) (A3 : Option Addr) (c3 : Nat) (D : List Int) (w : World)
    (hr0 : Kd.C (Kd.int .i64) w A0 s.length s) (hc0 : s.length ≤ c0) (hm0 : s.length ≤ maxLen) (hr1 : Kd.C (Kd.int .i64) w A1 C.length C) (hc1 : C.length ≤ c1) (hm1 : C.length ≤ maxLen) (hr2 : Kd.C (Kd.int .i64) w A2 x.length x) (hc2 : x.length ≤ c2) (hm2 : x.length ≤ maxLen) (hr3 : Kd.C (Kd.int .i64) w A3 D.length D) (hc3 : D.length ≤ c3) (hm3 : D.length ≤ maxLen) :
    Calls Try.prog 3 #[.agg #[.slice A0 s.length c0], .slice A1 C.length c1, .agg #[.slice A2 x.length c2], .slice A3 D.length c3] w
      fun e w' => e = .returned (.bool true) ∧ Below w.heap.size w w' := by
  have huL := Try.underlying24
  have huS := Try.underlying26
  have HR0 := Aside0.mk hr0
  have HR1 := Aside0.mk hr1
  have HR2 := Aside0.mk hr2
  have HR3 := Aside0.mk hr3
  have HM0 := Aside0.mk hm0
  have HM2 := Aside0.mk hm2
  unfold maxLen at hm1 hm3
  clear hr0 hr1 hr2 hr3 hm0 hm2
  by_cases g1 : C.length > 1048576
  · have t1 : decide (1048576 < (C.length : Int)) = true := decide_eq_true (by omega)
    have t2 : decide (1048576 < C.length) = true := decide_eq_true (by omega)
    go_enter Try.func3, Try.ntmps3
    go_wp2
    go_ret
    exact ⟨rfl, below_alloc ((Below.refl _ _).alloc (Nat.le_refl _) _) _⟩
  have t1 : decide (1048576 < (C.length : Int)) = false := decide_eq_false (by omega)
  have t2 : decide (1048576 < C.length) = false := decide_eq_false (by omega)
  by_cases g3 : D.length > 1048576
  · have t3 : decide (1048576 < (D.length : Int)) = true := decide_eq_true (by omega)
    have t4 : decide (1048576 < D.length) = true := decide_eq_true (by omega)
    go_enter Try.func3, Try.ntmps3
    go_wp2
    go_ret
    exact ⟨rfl, below_alloc ((Below.refl _ _).alloc (Nat.le_refl _) _) _⟩
  have t3 : decide (1048576 < (D.length : Int)) = false := decide_eq_false (by omega)
  have t4 : decide (1048576 < D.length) = false := decide_eq_false (by omega)
  have hC : C.length ≤ 1048576 := by omega
  have hD : D.length ≤ 1048576 := by omega
  clear g1 g3 hm1 hm3
  obtain ⟨hl0, hl1⟩ := Q.directR_len s x hC hD
  generalize hz : directR s C x D = rr at hl0 hl1
  obtain ⟨ra, rb, rc⟩ := rr
  dsimp only at hl0 hl1
  have HZ := Aside0.mk hz
  clear hz
  go_enter Try.func3, Try.ntmps3
  go_wp2_with fail
  have HE := Aside0.mk ((((Env.start w).box (.slice A0 s.length c0) (t := 24) (by decide))).box (.slice A2 x.length c2) (t := 24) (by decide))
  generalize hW : (w.alloc (.cells #[.slice A0 s.length c0] 24)).alloc (.cells #[.slice A2 x.length c2] 24) = W at *
  have hga : (w.alloc (.cells #[.slice A0 s.length c0] 24)).heap.size = w.heap.size + 1 := Array.size_push _
  rw [hga] at HE
  clear hga hW
  generalize w.heap.size + 1 = gx at HE ⊢
  generalize hgs : w.heap.size = gs at HE ⊢
  refine (Env.szSpace HE.out (Kd.C_below HR0.out HE.out.below) hc0 1048576 HM0.out (by omega) (by omega)).mono ?_
  rintro e w1 ⟨rfl, HF⟩
  by_cases hs : 1048576 < (s.length : Int)
  · rw [if_pos hs]
    clear HE
    go_wp2
    go_ret
    exact ⟨rfl, hgs ▸ HF.out.below⟩
  rw [if_neg hs]
  clear HE
  have k6 := HF.out.cell 0 rfl
  have t5 : decide (1048576 - (s.length : Int) < 0) = false := decide_eq_false (by omega)
  go_wp2_with fail
  refine (Env.szSpace HF.out (Kd.C_below HR2.out HF.out.below) hc2 (1048576 - s.length) HM2.out (by omega) (by omega)).mono ?_
  rintro e w2 ⟨rfl, HE⟩
  by_cases hx : 1048576 - (s.length : Int) < (x.length : Int)
  · rw [if_pos hx]
    clear HF k6
    go_wp2
    go_ret
    exact ⟨rfl, hgs ▸ HE.out.below⟩
  rw [if_neg hx]
  clear HF k6
  have t6 : decide (1048576 - (s.length : Int) - x.length < 0) = false := decide_eq_false (by omega)
  have hsl : s.length ≤ 1048576 := by omega
  have hxl : x.length ≤ 1048576 := by omega
  go_upto_region 12 with fail
  go_cut [10, 11, 12] from 26 (fun s0 s1 s2 wc => ∃ (g : Nat) (A : Option Addr) (c : Nat) (A' : Option Addr) (c' : Nat), s0 = .pointer (some ⟨g, 0, none⟩) ∧ s1 = .slice A' rb.length c' ∧ s2 = .int .i64 rc ∧ Aside0 (Env w wc ((.slice A ra.length c, ra) :: (.slice A' rb.length c', rb) :: []) ((g, .slice A ra.length c, 26) :: [(gx, .slice A2 x.length c2, 24), (gs, .slice A0 s.length c0, 24)])))
  case first =>
    rename_i hJ hK
    go_region_held3 (fun w' => w'.cell? ⟨gs, 0, none⟩ = some (.slice A0 s.length c0) ∧ w'.cell? ⟨gx, 0, none⟩ = some (.slice A2 x.length c2))
      (first | exact ⟨Env.here HE.out (by first | exact .head _ | exact .tail _ (.head _) | exact .tail _ (.tail _ (.head _)) | exact .tail _ (.tail _ (.tail _ (.head _))) | exact .tail _ (.tail _ (.tail _ (.tail _ (.head _)))) | exact .tail _ (.tail _ (.tail _ (.tail _ (.tail _ (.head _))))) | exact .tail _ (.tail _ (.tail _ (.tail _ (.tail _ (.tail _ (.head _))))))), Env.here HE.out (by first | exact .head _ | exact .tail _ (.head _) | exact .tail _ (.tail _ (.head _)) | exact .tail _ (.tail _ (.tail _ (.head _))) | exact .tail _ (.tail _ (.tail _ (.tail _ (.head _)))) | exact .tail _ (.tail _ (.tail _ (.tail _ (.tail _ (.head _))))) | exact .tail _ (.tail _ (.tail _ (.tail _ (.tail _ (.tail _ (.head _)))))))⟩ | exact ⟨Env.here HE.out.drew (by first | exact .head _ | exact .tail _ (.head _) | exact .tail _ (.tail _ (.head _)) | exact .tail _ (.tail _ (.tail _ (.head _))) | exact .tail _ (.tail _ (.tail _ (.tail _ (.head _)))) | exact .tail _ (.tail _ (.tail _ (.tail _ (.tail _ (.head _))))) | exact .tail _ (.tail _ (.tail _ (.tail _ (.tail _ (.tail _ (.head _))))))), Env.here HE.out.drew (by first | exact .head _ | exact .tail _ (.head _) | exact .tail _ (.tail _ (.head _)) | exact .tail _ (.tail _ (.tail _ (.head _))) | exact .tail _ (.tail _ (.tail _ (.tail _ (.head _)))) | exact .tail _ (.tail _ (.tail _ (.tail _ (.tail _ (.head _))))) | exact .tail _ (.tail _ (.tail _ (.tail _ (.tail _ (.tail _ (.head _)))))))⟩ | exact ⟨Env.here (HE.out.box (t := 26) _ (by decide)).drew (by first | exact .head _ | exact .tail _ (.head _) | exact .tail _ (.tail _ (.head _)) | exact .tail _ (.tail _ (.tail _ (.head _))) | exact .tail _ (.tail _ (.tail _ (.tail _ (.head _)))) | exact .tail _ (.tail _ (.tail _ (.tail _ (.tail _ (.head _))))) | exact .tail _ (.tail _ (.tail _ (.tail _ (.tail _ (.tail _ (.head _))))))), Env.here (HE.out.box (t := 26) _ (by decide)).drew (by first | exact .head _ | exact .tail _ (.head _) | exact .tail _ (.tail _ (.head _)) | exact .tail _ (.tail _ (.tail _ (.head _))) | exact .tail _ (.tail _ (.tail _ (.tail _ (.head _)))) | exact .tail _ (.tail _ (.tail _ (.tail _ (.tail _ (.head _))))) | exact .tail _ (.tail _ (.tail _ (.tail _ (.tail _ (.tail _ (.head _)))))))⟩ | exact ⟨Env.here (HE.out.box (t := 26) _ (by decide)) (by first | exact .head _ | exact .tail _ (.head _) | exact .tail _ (.tail _ (.head _)) | exact .tail _ (.tail _ (.tail _ (.head _))) | exact .tail _ (.tail _ (.tail _ (.tail _ (.head _)))) | exact .tail _ (.tail _ (.tail _ (.tail _ (.tail _ (.head _))))) | exact .tail _ (.tail _ (.tail _ (.tail _ (.tail _ (.tail _ (.head _))))))), Env.here (HE.out.box (t := 26) _ (by decide)) (by first | exact .head _ | exact .tail _ (.head _) | exact .tail _ (.tail _ (.head _)) | exact .tail _ (.tail _ (.tail _ (.head _))) | exact .tail _ (.tail _ (.tail _ (.tail _ (.head _)))) | exact .tail _ (.tail _ (.tail _ (.tail _ (.tail _ (.head _))))) | exact .tail _ (.tail _ (.tail _ (.tail _ (.tail _ (.tail _ (.head _)))))))⟩ | exact ⟨Env.here (HE.out.set0 _) (by first | exact .head _ | exact .tail _ (.head _) | exact .tail _ (.tail _ (.head _)) | exact .tail _ (.tail _ (.tail _ (.head _))) | exact .tail _ (.tail _ (.tail _ (.tail _ (.head _)))) | exact .tail _ (.tail _ (.tail _ (.tail _ (.tail _ (.head _))))) | exact .tail _ (.tail _ (.tail _ (.tail _ (.tail _ (.tail _ (.head _))))))), Env.here (HE.out.set0 _) (by first | exact .head _ | exact .tail _ (.head _) | exact .tail _ (.tail _ (.head _)) | exact .tail _ (.tail _ (.tail _ (.head _))) | exact .tail _ (.tail _ (.tail _ (.tail _ (.head _)))) | exact .tail _ (.tail _ (.tail _ (.tail _ (.tail _ (.head _))))) | exact .tail _ (.tail _ (.tail _ (.tail _ (.tail _ (.tail _ (.head _)))))))⟩ | exact ⟨Env.here ((HE.out.box (t := 26) _ (by decide)).set0 _) (by first | exact .head _ | exact .tail _ (.head _) | exact .tail _ (.tail _ (.head _)) | exact .tail _ (.tail _ (.tail _ (.head _))) | exact .tail _ (.tail _ (.tail _ (.tail _ (.head _)))) | exact .tail _ (.tail _ (.tail _ (.tail _ (.tail _ (.head _))))) | exact .tail _ (.tail _ (.tail _ (.tail _ (.tail _ (.tail _ (.head _))))))), Env.here ((HE.out.box (t := 26) _ (by decide)).set0 _) (by first | exact .head _ | exact .tail _ (.head _) | exact .tail _ (.tail _ (.head _)) | exact .tail _ (.tail _ (.tail _ (.head _))) | exact .tail _ (.tail _ (.tail _ (.tail _ (.head _)))) | exact .tail _ (.tail _ (.tail _ (.tail _ (.tail _ (.head _))))) | exact .tail _ (.tail _ (.tail _ (.tail _ (.tail _ (.tail _ (.head _)))))))⟩)
      (first
        | (go_at_call 11; (first | (with_reducible refine (Env.toSpace HE.out (Kd.C_below HR0.out HE.out.below) hc0 hsl).mono ?_) | (with_reducible refine (Env.toSpace HE.out.drew (Kd.C_below HR0.out HE.out.drew.below) hc0 hsl).mono ?_) | (with_reducible refine (Env.toSpace (HE.out.box (t := 26) _ (by decide)) (Kd.C_below HR0.out (HE.out.box (t := 26) _ (by decide)).below) hc0 hsl).mono ?_) | (with_reducible refine (Env.toSpace (HE.out.box (t := 26) _ (by decide)).drew (Kd.C_below HR0.out (HE.out.box (t := 26) _ (by decide)).drew.below) hc0 hsl).mono ?_)); rintro e wn ⟨Ar, cr, rfl, HN⟩; clear HE; have HE := HN; clear HN; (try clear hbx hfx); (have hbx := HE.out.cell 0 rfl); (have hfx := HE.out.frozen 0 rfl))
        | (go_at_call 11; (first | (with_reducible refine (Env.toSpace HE.out (Kd.C_below HR2.out HE.out.below) hc2 hxl).mono ?_) | (with_reducible refine (Env.toSpace HE.out.drew (Kd.C_below HR2.out HE.out.drew.below) hc2 hxl).mono ?_) | (with_reducible refine (Env.toSpace (HE.out.box (t := 26) _ (by decide)) (Kd.C_below HR2.out (HE.out.box (t := 26) _ (by decide)).below) hc2 hxl).mono ?_) | (with_reducible refine (Env.toSpace (HE.out.box (t := 26) _ (by decide)).drew (Kd.C_below HR2.out (HE.out.box (t := 26) _ (by decide)).drew.below) hc2 hxl).mono ?_)); rintro e wn ⟨Ar, cr, rfl, HN⟩; clear HE; have HE := HN; clear HN; (try clear hbx hfx); (have hbx := HE.out.cell 0 rfl); (have hfx := HE.out.frozen 0 rfl))
        | (go_at_call 12; (first | (with_reducible refine (Env.toInt64S HE.out (Kd.C_below HR1.out HE.out.below) hc1 hC).mono ?_) | (with_reducible refine (Env.toInt64S HE.out.drew (Kd.C_below HR1.out HE.out.drew.below) hc1 hC).mono ?_) | (with_reducible refine (Env.toInt64S (HE.out.box (t := 26) _ (by decide)) (Kd.C_below HR1.out (HE.out.box (t := 26) _ (by decide)).below) hc1 hC).mono ?_) | (with_reducible refine (Env.toInt64S (HE.out.box (t := 26) _ (by decide)).drew (Kd.C_below HR1.out (HE.out.box (t := 26) _ (by decide)).drew.below) hc1 hC).mono ?_)); rintro e wn ⟨Ar, cr, rfl, HN⟩; clear HE; have HE := HN; clear HN; (try clear hbx hfx); (have hbx := HE.out.cell 0 rfl); (have hfx := HE.out.frozen 0 rfl))
        | (go_at_call 12; (first | (with_reducible refine (Env.toInt64S HE.out (Kd.C_below HR3.out HE.out.below) hc3 hD).mono ?_) | (with_reducible refine (Env.toInt64S HE.out.drew (Kd.C_below HR3.out HE.out.drew.below) hc3 hD).mono ?_) | (with_reducible refine (Env.toInt64S (HE.out.box (t := 26) _ (by decide)) (Kd.C_below HR3.out (HE.out.box (t := 26) _ (by decide)).below) hc3 hD).mono ?_) | (with_reducible refine (Env.toInt64S (HE.out.box (t := 26) _ (by decide)).drew (Kd.C_below HR3.out (HE.out.box (t := 26) _ (by decide)).drew.below) hc3 hD).mono ?_)); rintro e wn ⟨Ar, cr, rfl, HN⟩; clear HE; have HE := HN; clear HN; (try clear hbx hfx); (have hbx := HE.out.cell 0 rfl); (have hfx := HE.out.frozen 0 rfl))
        | (go_at_call 10; (first | (with_reducible refine (Env.specDirect HE.out 3 2 1 0 rfl rfl rfl rfl hC hD HZ.out).mono ?_) | (with_reducible refine (Env.specDirect HE.out.drew 3 2 1 0 rfl rfl rfl rfl hC hD HZ.out).mono ?_) | (with_reducible refine (Env.specDirect (HE.out.box (t := 26) _ (by decide)) 3 2 1 0 rfl rfl rfl rfl hC hD HZ.out).mono ?_) | (with_reducible refine (Env.specDirect (HE.out.box (t := 26) _ (by decide)).drew 3 2 1 0 rfl rfl rfl rfl hC hD HZ.out).mono ?_)); rintro e wn ⟨Ar, cr, Ar2, cr2, rfl, HN⟩; clear HE; have HE := HN; clear HN; (try clear hbx hfx); (have hbx := HE.out.cell 0 rfl); (have hfx := HE.out.frozen 0 rfl)))
    all_goals
      first
        | refine hK _ _ (Met.intro (hJ _ _ ?_))
        | refine hJ _ _ ?_
      (repeat apply Exists.intro)
      refine ⟨?rel, rfl⟩
      case rel => first
        | exact ⟨_, _, _, _, _, rfl, rfl, rfl, ⟨(HE.out.set0 _).drop4⟩⟩
        | exact ⟨_, _, _, _, _, rfl, rfl, rfl, ⟨(HE.out.box (t := 26) _ (by decide)).drop4⟩⟩
        | exact ⟨_, _, _, _, _, rfl, rfl, rfl, ⟨((HE.out.box (t := 26) _ (by decide)).set0 _).drop4⟩⟩
  clear HE
  obtain ⟨g10, Awa, cwa, Awb, cwb, rfl, rfl, rfl, HE⟩ := hcut
  have qb10 := HE.out.cell 0 rfl
  have qgx := HE.out.cell 1 rfl
  have qgs := HE.out.cell 2 rfl
  go_wp2_with fail
  refine (Env.toSpace HE.out (Kd.C_below HR0.out HE.out.below) hc0 hsl).mono ?_
  rintro e w3 ⟨Ax0, cx0, rfl, HN⟩
  clear qb10 qgx qgs
  clear HE
  have HE := HN
  clear HN
  have HN := Aside0.mk (HE.out.box (t := 26) (.slice Ax0 s.length cx0) (by decide))
  clear HE
  have HE := HN
  clear HN
  have qb13 := HE.out.cell 0 rfl
  have qb10 := HE.out.cell 1 rfl
  have qgx := HE.out.cell 2 rfl
  have qgs := HE.out.cell 3 rfl
  go_wp2_with fail
  refine (Env.toInt64S HE.out (Kd.C_below HR1.out HE.out.below) hc1 hC).mono ?_
  rintro e w4 ⟨Ax1, cx1, rfl, HN⟩
  clear qb13 qb10 qgx qgs
  clear HE
  have HE := HN
  clear HN
  have qb13 := HE.out.cell 0 rfl
  have qb10 := HE.out.cell 1 rfl
  have qgx := HE.out.cell 2 rfl
  have qgs := HE.out.cell 3 rfl
  go_wp2_with fail
  refine (Env.toSpace HE.out (Kd.C_below HR2.out HE.out.below) hc2 hxl).mono ?_
  rintro e w5 ⟨Ax2, cx2, rfl, HN⟩
  clear qb13 qb10 qgx qgs
  clear HE
  have HE := HN
  clear HN
  have HN := Aside0.mk (HE.out.box (t := 26) (.slice Ax2 x.length cx2) (by decide))
  clear HE
  have HE := HN
  clear HN
  have qb15 := HE.out.cell 0 rfl
  have qb13 := HE.out.cell 1 rfl
  have qb10 := HE.out.cell 2 rfl
  have qgx := HE.out.cell 3 rfl
  have qgs := HE.out.cell 4 rfl
  go_wp2_with fail
  refine (Env.toInt64S HE.out (Kd.C_below HR3.out HE.out.below) hc3 hD).mono ?_
  rintro e w6 ⟨Ax3, cx3, rfl, HN⟩
  clear qb15 qb13 qb10 qgx qgs
  clear HE
  have HE := HN
  clear HN
  have qb15 := HE.out.cell 0 rfl
  have qb13 := HE.out.cell 1 rfl
  have qb10 := HE.out.cell 2 rfl
  have qgx := HE.out.cell 3 rfl
  have qgs := HE.out.cell 4 rfl
  go_wp2_with fail
  refine (Env.implDirect HE.out 3 2 1 0 rfl rfl rfl rfl hC hD HZ.out).mono ?_
  rintro e w7 ⟨Aga, cga, Agb, cgb, rfl, HN⟩
  clear qb15 qb13 qb10 qgx qgs
  clear HE
  have HE := HN
  clear HN
  have HN := Aside0.mk (HE.out.box (t := 26) (.slice Aga ra.length cga) (by decide))
  clear HE
  have HE := HN
  clear HN
  have qb17 := HE.out.cell 0 rfl
  have qb15 := HE.out.cell 1 rfl
  have qb13 := HE.out.cell 2 rfl
  have qb10 := HE.out.cell 3 rfl
  have qgx := HE.out.cell 4 rfl
  have qgs := HE.out.cell 5 rfl
  go_wp2_with fail
  refine (Env.eqSpace HE.out 0 6 rfl rfl hl0).mono ?_
  rintro e w8 ⟨rfl, HN⟩
  clear qb17 qb15 qb13 qb10 qgx qgs
  clear HE
  have HE := HN
  clear HN
  have qb17 := HE.out.cell 0 rfl
  have qb15 := HE.out.cell 1 rfl
  have qb13 := HE.out.cell 2 rfl
  have qb10 := HE.out.cell 3 rfl
  have qgx := HE.out.cell 4 rfl
  have qgs := HE.out.cell 5 rfl
  go_wp2_with fail
  refine (Env.eqInt64S HE.out 1 7 rfl rfl hl1).mono ?_
  rintro e w9 ⟨rfl, HN⟩
  clear qb17 qb15 qb13 qb10 qgx qgs
  clear HE
  have HE := HN
  clear HN
  have qb17 := HE.out.cell 0 rfl
  have qb15 := HE.out.cell 1 rfl
  have qb13 := HE.out.cell 2 rfl
  have qb10 := HE.out.cell 3 rfl
  have qgx := HE.out.cell 4 rfl
  have qgs := HE.out.cell 5 rfl
  go_wp2_with fail
  go_region_held3 (fun w' => w'.cell? ⟨w3.heap.size, 0, none⟩ = some (.slice Ax0 s.length cx0) ∧ w'.cell? ⟨gs, 0, none⟩ = some (.slice A0 s.length c0))
    (first | exact ⟨HE.out.cell 2 rfl, HE.out.cell 5 rfl⟩ | exact ⟨HE.out.drew.cell 2 rfl, HE.out.drew.cell 5 rfl⟩)
    (first
      | (go_at_call 11; (first | refine (Env.toSpace HE.out (Kd.C_below HR0.out HE.out.below) hc0 hsl).mono ?_ | refine (Env.toSpace HE.out.drew (Kd.C_below HR0.out HE.out.drew.below) hc0 hsl).mono ?_); rintro e wn ⟨Ay, cy, rfl, HN⟩; clear HE; have HE := HN; clear HN)
      | (go_at_call 14; refine (Env.eqSpace HE.out 6 0 rfl rfl hsl).mono ?_; rintro e wn ⟨rfl, HN⟩; clear HE; have HE := HN; clear HN))
  clear qb17 qb15 qb13 qb10 qgx qgs
  have HN := Aside0.mk HE.out.drop1
  clear HE
  have HE := HN
  clear HN
  have qb17 := HE.out.cell 0 rfl
  have qb15 := HE.out.cell 1 rfl
  have qb13 := HE.out.cell 2 rfl
  have qb10 := HE.out.cell 3 rfl
  have qgx := HE.out.cell 4 rfl
  have qgs := HE.out.cell 5 rfl
  go_wp2_with fail
  refine (Env.toInt64S HE.out (Kd.C_below HR1.out HE.out.below) hc1 hC).mono ?_
  rintro e w10 ⟨Ay1, cy1, rfl, HN⟩
  clear qb17 qb15 qb13 qb10 qgx qgs
  clear HE
  have HE := HN
  clear HN
  have qb17 := HE.out.cell 0 rfl
  have qb15 := HE.out.cell 1 rfl
  have qb13 := HE.out.cell 2 rfl
  have qb10 := HE.out.cell 3 rfl
  have qgx := HE.out.cell 4 rfl
  have qgs := HE.out.cell 5 rfl
  go_wp2_with fail
  refine (Env.eqInt64S HE.out 5 0 rfl rfl hC).mono ?_
  rintro e w11 ⟨rfl, HN⟩
  clear qb17 qb15 qb13 qb10 qgx qgs
  clear HE
  have HE := HN
  clear HN
  have HN := Aside0.mk HE.out.drop1
  clear HE
  have HE := HN
  clear HN
  have qb17 := HE.out.cell 0 rfl
  have qb15 := HE.out.cell 1 rfl
  have qb13 := HE.out.cell 2 rfl
  have qb10 := HE.out.cell 3 rfl
  have qgx := HE.out.cell 4 rfl
  have qgs := HE.out.cell 5 rfl
  go_wp2_with fail
  go_region_held3 (fun w' => w'.cell? ⟨w5.heap.size, 0, none⟩ = some (.slice Ax2 x.length cx2) ∧ w'.cell? ⟨gx, 0, none⟩ = some (.slice A2 x.length c2))
    (first | exact ⟨HE.out.cell 1 rfl, HE.out.cell 4 rfl⟩ | exact ⟨HE.out.drew.cell 1 rfl, HE.out.drew.cell 4 rfl⟩)
    (first
      | (go_at_call 11; (first | refine (Env.toSpace HE.out (Kd.C_below HR2.out HE.out.below) hc2 hxl).mono ?_ | refine (Env.toSpace HE.out.drew (Kd.C_below HR2.out HE.out.drew.below) hc2 hxl).mono ?_); rintro e wn ⟨Ay, cy, rfl, HN⟩; clear HE; have HE := HN; clear HN)
      | (go_at_call 14; refine (Env.eqSpace HE.out 4 0 rfl rfl hxl).mono ?_; rintro e wn ⟨rfl, HN⟩; clear HE; have HE := HN; clear HN))
  clear qb17 qb15 qb13 qb10 qgx qgs
  have HN := Aside0.mk HE.out.drop1
  clear HE
  have HE := HN
  clear HN
  have qb17 := HE.out.cell 0 rfl
  have qb15 := HE.out.cell 1 rfl
  have qb13 := HE.out.cell 2 rfl
  have qb10 := HE.out.cell 3 rfl
  have qgx := HE.out.cell 4 rfl
  have qgs := HE.out.cell 5 rfl
  go_wp2_with fail
  refine (Env.toInt64S HE.out (Kd.C_below HR3.out HE.out.below) hc3 hD).mono ?_
  rintro e w12 ⟨Ay3, cy3, rfl, HN⟩
  clear qb17 qb15 qb13 qb10 qgx qgs
  clear HE
  have HE := HN
  clear HN
  have qb17 := HE.out.cell 0 rfl
  have qb15 := HE.out.cell 1 rfl
  have qb13 := HE.out.cell 2 rfl
  have qb10 := HE.out.cell 3 rfl
  have qgx := HE.out.cell 4 rfl
  have qgs := HE.out.cell 5 rfl
  go_wp2_with fail
  refine (Env.eqInt64S HE.out 3 0 rfl rfl hD).mono ?_
  rintro e w13 ⟨rfl, HN⟩
  clear qb17 qb15 qb13 qb10 qgx qgs
  clear HE
  have HE := HN
  clear HN
  have HN := Aside0.mk HE.out.drop1
  clear HE
  have HE := HN
  clear HN
  have qb17 := HE.out.cell 0 rfl
  have qb15 := HE.out.cell 1 rfl
  have qb13 := HE.out.cell 2 rfl
  have qb10 := HE.out.cell 3 rfl
  have qgx := HE.out.cell 4 rfl
  have qgs := HE.out.cell 5 rfl
  go_wp2_with fail
  refine (Env.markSpace HE.out 5 rfl (1) hsl (by omega) (by omega)).mono ?_
  rintro e w14 ⟨rfl, HN⟩
  clear qb17 qb15 qb13 qb10 qgx qgs
  clear HE
  have HE := HN
  clear HN
  have qb17 := HE.out.cell 0 rfl
  have qb15 := HE.out.cell 1 rfl
  have qb13 := HE.out.cell 2 rfl
  have qb10 := HE.out.cell 3 rfl
  have qgx := HE.out.cell 4 rfl
  have qgs := HE.out.cell 5 rfl
  go_wp2_with fail
  refine (Env.markInt64S HE.out 4 rfl (1 + (s.length : Int)) hC (by omega) (by omega)).mono ?_
  rintro e w15 ⟨rfl, HN⟩
  clear qb17 qb15 qb13 qb10 qgx qgs
  clear HE
  have HE := HN
  clear HN
  have qb17 := HE.out.cell 0 rfl
  have qb15 := HE.out.cell 1 rfl
  have qb13 := HE.out.cell 2 rfl
  have qb10 := HE.out.cell 3 rfl
  have qgx := HE.out.cell 4 rfl
  have qgs := HE.out.cell 5 rfl
  go_wp2_with fail
  refine (Env.markSpace HE.out 3 rfl (1 + (s.length : Int) + C.length) hxl (by omega) (by omega)).mono ?_
  rintro e w16 ⟨rfl, HN⟩
  clear qb17 qb15 qb13 qb10 qgx qgs
  clear HE
  have HE := HN
  clear HN
  have qb17 := HE.out.cell 0 rfl
  have qb15 := HE.out.cell 1 rfl
  have qb13 := HE.out.cell 2 rfl
  have qb10 := HE.out.cell 3 rfl
  have qgx := HE.out.cell 4 rfl
  have qgs := HE.out.cell 5 rfl
  go_wp2_with fail
  refine (Env.markInt64S HE.out 2 rfl (1 + (s.length : Int) + C.length + x.length) hD (by omega) (by omega)).mono ?_
  rintro e w17 ⟨rfl, HN⟩
  clear qb17 qb15 qb13 qb10 qgx qgs
  clear HE
  have HE := HN
  clear HN
  have t7 : decide (1 + (s.length : Int) + C.length + x.length + D.length < 0) = false := decide_eq_false (by omega)
  have qb17 := HE.out.cell 0 rfl
  have qb15 := HE.out.cell 1 rfl
  have qb13 := HE.out.cell 2 rfl
  have qb10 := HE.out.cell 3 rfl
  have qgx := HE.out.cell 4 rfl
  have qgs := HE.out.cell 5 rfl
  go_wp2_with fail
  refine (Env.eqSpace HE.out 0 6 rfl rfl hl0).mono ?_
  rintro e w18 ⟨rfl, HN⟩
  clear qb17 qb15 qb13 qb10 qgx qgs
  clear HE
  have HE := HN
  clear HN
  have qb17 := HE.out.cell 0 rfl
  have qb15 := HE.out.cell 1 rfl
  have qb13 := HE.out.cell 2 rfl
  have qb10 := HE.out.cell 3 rfl
  have qgx := HE.out.cell 4 rfl
  have qgs := HE.out.cell 5 rfl
  go_wp2_with fail
  refine (Env.eqInt64S HE.out 1 7 rfl rfl hl1).mono ?_
  rintro e w19 ⟨rfl, HN⟩
  clear qb17 qb15 qb13 qb10 qgx qgs
  clear HE
  have HE := HN
  clear HN
  have qb17 := HE.out.cell 0 rfl
  have qb15 := HE.out.cell 1 rfl
  have qb13 := HE.out.cell 2 rfl
  have qb10 := HE.out.cell 3 rfl
  have qgx := HE.out.cell 4 rfl
  have qgs := HE.out.cell 5 rfl
  go_wp2_with fail
  refine (Env.markSpace HE.out 0 rfl (1) hl0 (by omega) (by omega)).mono ?_
  rintro e w20 ⟨rfl, HN⟩
  clear qb17 qb15 qb13 qb10 qgx qgs
  clear HE
  have HE := HN
  clear HN
  have qb17 := HE.out.cell 0 rfl
  have qb15 := HE.out.cell 1 rfl
  have qb13 := HE.out.cell 2 rfl
  have qb10 := HE.out.cell 3 rfl
  have qgx := HE.out.cell 4 rfl
  have qgs := HE.out.cell 5 rfl
  go_wp2_with fail
  refine (Env.markInt64S HE.out 1 rfl (1 + (ra.length : Int)) hl1 (by omega) (by omega)).mono ?_
  rintro e w21 ⟨rfl, HN⟩
  clear qb17 qb15 qb13 qb10 qgx qgs
  clear HE
  have HE := HN
  clear HN
  have t8 : decide (1 + (ra.length : Int) < 0) = false := decide_eq_false (by omega)
  have t9 : decide (1 + (ra.length : Int) + rb.length < 0) = false := decide_eq_false (by omega)
  have qb17 := HE.out.cell 0 rfl
  have qb15 := HE.out.cell 1 rfl
  have qb13 := HE.out.cell 2 rfl
  have qb10 := HE.out.cell 3 rfl
  have qgx := HE.out.cell 4 rfl
  have qgs := HE.out.cell 5 rfl
  go_wp2_with fail
  refine (Env.heldSpace HE.out 0 rfl (by omega) (by omega) hl0).mono ?_
  rintro e w22 ⟨rfl, HN⟩
  clear qb17 qb15 qb13 qb10 qgx qgs
  clear HE
  have HE := HN
  clear HN
  have qb17 := HE.out.cell 0 rfl
  have qb15 := HE.out.cell 1 rfl
  have qb13 := HE.out.cell 2 rfl
  have qb10 := HE.out.cell 3 rfl
  have qgx := HE.out.cell 4 rfl
  have qgs := HE.out.cell 5 rfl
  go_wp2_with fail
  refine (Env.heldInt64S HE.out 1 rfl (by omega) (by omega) hl1).mono ?_
  rintro e w23 ⟨rfl, HN⟩
  clear qb17 qb15 qb13 qb10 qgx qgs
  clear HE
  have HE := HN
  clear HN
  have HN : Aside0 (Env w w23 [(.slice Aga ra.length cga, Q.iota (1) ra.length), (.slice Agb rb.length cgb, Q.iota (1 + (ra.length : Int)) rb.length), (.slice Ax3 D.length cx3, Q.iota (1 + (s.length : Int) + C.length + x.length) D.length), (.slice Ax2 x.length cx2, Q.iota (1 + (s.length : Int) + C.length) x.length), (.slice Ax1 C.length cx1, Q.iota (1 + (s.length : Int)) C.length), (.slice Ax0 s.length cx0, Q.iota (1) s.length), (.slice Awa ra.length cwa, ra), (.slice Awb rb.length cwb, rb)] [(w7.heap.size, .slice Aga ra.length cga, 26), (w5.heap.size, .slice Ax2 x.length cx2, 26), (w3.heap.size, .slice Ax0 s.length cx0, 26), (g10, .slice Awa ra.length cwa, 26), (gx, .slice A2 x.length c2, 24), (gs, .slice A0 s.length c0, 24)]) := ⟨HE.out⟩
  clear HE
  have HE := HN
  clear HN
  have qb17 := HE.out.cell 0 rfl
  have qb15 := HE.out.cell 1 rfl
  have qb13 := HE.out.cell 2 rfl
  have qb10 := HE.out.cell 3 rfl
  have qgx := HE.out.cell 4 rfl
  have qgs := HE.out.cell 5 rfl
  go_upto_region 47 with fail
  clear qb17 qb15 qb13 qb10 qgx qgs
  go_cut [23, 24, 25] from 26 (fun s0 s1 s2 wc => ∃ (g : Nat) (A : Option Addr) (c : Nat) (A' : Option Addr) (c' : Nat), s0 = .pointer (some ⟨g, 0, none⟩) ∧ s1 = .slice A' rb.length c' ∧ s2 = .int .i64 rc ∧ Aside0 (Env w wc ((.slice A ra.length c, ra) :: (.slice A' rb.length c', rb) :: [(.slice Aga ra.length cga, Q.iota (1) ra.length), (.slice Agb rb.length cgb, Q.iota (1 + (ra.length : Int)) rb.length), (.slice Ax3 D.length cx3, Q.iota (1 + (s.length : Int) + C.length + x.length) D.length), (.slice Ax2 x.length cx2, Q.iota (1 + (s.length : Int) + C.length) x.length), (.slice Ax1 C.length cx1, Q.iota (1 + (s.length : Int)) C.length), (.slice Ax0 s.length cx0, Q.iota (1) s.length), (.slice Awa ra.length cwa, ra), (.slice Awb rb.length cwb, rb)]) ((g, .slice A ra.length c, 26) :: [(w7.heap.size, .slice Aga ra.length cga, 26), (w5.heap.size, .slice Ax2 x.length cx2, 26), (w3.heap.size, .slice Ax0 s.length cx0, 26), (g10, .slice Awa ra.length cwa, 26), (gx, .slice A2 x.length c2, 24), (gs, .slice A0 s.length c0, 24)])))
  case first =>
    rename_i hJ hK
    go_region_held3 (fun w' => w'.cell? ⟨gs, 0, none⟩ = some (.slice A0 s.length c0) ∧ w'.cell? ⟨gx, 0, none⟩ = some (.slice A2 x.length c2))
      (first | exact ⟨Env.here HE.out (by first | exact .head _ | exact .tail _ (.head _) | exact .tail _ (.tail _ (.head _)) | exact .tail _ (.tail _ (.tail _ (.head _))) | exact .tail _ (.tail _ (.tail _ (.tail _ (.head _)))) | exact .tail _ (.tail _ (.tail _ (.tail _ (.tail _ (.head _))))) | exact .tail _ (.tail _ (.tail _ (.tail _ (.tail _ (.tail _ (.head _))))))), Env.here HE.out (by first | exact .head _ | exact .tail _ (.head _) | exact .tail _ (.tail _ (.head _)) | exact .tail _ (.tail _ (.tail _ (.head _))) | exact .tail _ (.tail _ (.tail _ (.tail _ (.head _)))) | exact .tail _ (.tail _ (.tail _ (.tail _ (.tail _ (.head _))))) | exact .tail _ (.tail _ (.tail _ (.tail _ (.tail _ (.tail _ (.head _)))))))⟩ | exact ⟨Env.here HE.out.drew (by first | exact .head _ | exact .tail _ (.head _) | exact .tail _ (.tail _ (.head _)) | exact .tail _ (.tail _ (.tail _ (.head _))) | exact .tail _ (.tail _ (.tail _ (.tail _ (.head _)))) | exact .tail _ (.tail _ (.tail _ (.tail _ (.tail _ (.head _))))) | exact .tail _ (.tail _ (.tail _ (.tail _ (.tail _ (.tail _ (.head _))))))), Env.here HE.out.drew (by first | exact .head _ | exact .tail _ (.head _) | exact .tail _ (.tail _ (.head _)) | exact .tail _ (.tail _ (.tail _ (.head _))) | exact .tail _ (.tail _ (.tail _ (.tail _ (.head _)))) | exact .tail _ (.tail _ (.tail _ (.tail _ (.tail _ (.head _))))) | exact .tail _ (.tail _ (.tail _ (.tail _ (.tail _ (.tail _ (.head _)))))))⟩ | exact ⟨Env.here (HE.out.box (t := 26) _ (by decide)).drew (by first | exact .head _ | exact .tail _ (.head _) | exact .tail _ (.tail _ (.head _)) | exact .tail _ (.tail _ (.tail _ (.head _))) | exact .tail _ (.tail _ (.tail _ (.tail _ (.head _)))) | exact .tail _ (.tail _ (.tail _ (.tail _ (.tail _ (.head _))))) | exact .tail _ (.tail _ (.tail _ (.tail _ (.tail _ (.tail _ (.head _))))))), Env.here (HE.out.box (t := 26) _ (by decide)).drew (by first | exact .head _ | exact .tail _ (.head _) | exact .tail _ (.tail _ (.head _)) | exact .tail _ (.tail _ (.tail _ (.head _))) | exact .tail _ (.tail _ (.tail _ (.tail _ (.head _)))) | exact .tail _ (.tail _ (.tail _ (.tail _ (.tail _ (.head _))))) | exact .tail _ (.tail _ (.tail _ (.tail _ (.tail _ (.tail _ (.head _)))))))⟩ | exact ⟨Env.here (HE.out.box (t := 26) _ (by decide)) (by first | exact .head _ | exact .tail _ (.head _) | exact .tail _ (.tail _ (.head _)) | exact .tail _ (.tail _ (.tail _ (.head _))) | exact .tail _ (.tail _ (.tail _ (.tail _ (.head _)))) | exact .tail _ (.tail _ (.tail _ (.tail _ (.tail _ (.head _))))) | exact .tail _ (.tail _ (.tail _ (.tail _ (.tail _ (.tail _ (.head _))))))), Env.here (HE.out.box (t := 26) _ (by decide)) (by first | exact .head _ | exact .tail _ (.head _) | exact .tail _ (.tail _ (.head _)) | exact .tail _ (.tail _ (.tail _ (.head _))) | exact .tail _ (.tail _ (.tail _ (.tail _ (.head _)))) | exact .tail _ (.tail _ (.tail _ (.tail _ (.tail _ (.head _))))) | exact .tail _ (.tail _ (.tail _ (.tail _ (.tail _ (.tail _ (.head _)))))))⟩ | exact ⟨Env.here (HE.out.set0 _) (by first | exact .head _ | exact .tail _ (.head _) | exact .tail _ (.tail _ (.head _)) | exact .tail _ (.tail _ (.tail _ (.head _))) | exact .tail _ (.tail _ (.tail _ (.tail _ (.head _)))) | exact .tail _ (.tail _ (.tail _ (.tail _ (.tail _ (.head _))))) | exact .tail _ (.tail _ (.tail _ (.tail _ (.tail _ (.tail _ (.head _))))))), Env.here (HE.out.set0 _) (by first | exact .head _ | exact .tail _ (.head _) | exact .tail _ (.tail _ (.head _)) | exact .tail _ (.tail _ (.tail _ (.head _))) | exact .tail _ (.tail _ (.tail _ (.tail _ (.head _)))) | exact .tail _ (.tail _ (.tail _ (.tail _ (.tail _ (.head _))))) | exact .tail _ (.tail _ (.tail _ (.tail _ (.tail _ (.tail _ (.head _)))))))⟩ | exact ⟨Env.here ((HE.out.box (t := 26) _ (by decide)).set0 _) (by first | exact .head _ | exact .tail _ (.head _) | exact .tail _ (.tail _ (.head _)) | exact .tail _ (.tail _ (.tail _ (.head _))) | exact .tail _ (.tail _ (.tail _ (.tail _ (.head _)))) | exact .tail _ (.tail _ (.tail _ (.tail _ (.tail _ (.head _))))) | exact .tail _ (.tail _ (.tail _ (.tail _ (.tail _ (.tail _ (.head _))))))), Env.here ((HE.out.box (t := 26) _ (by decide)).set0 _) (by first | exact .head _ | exact .tail _ (.head _) | exact .tail _ (.tail _ (.head _)) | exact .tail _ (.tail _ (.tail _ (.head _))) | exact .tail _ (.tail _ (.tail _ (.tail _ (.head _)))) | exact .tail _ (.tail _ (.tail _ (.tail _ (.tail _ (.head _))))) | exact .tail _ (.tail _ (.tail _ (.tail _ (.tail _ (.tail _ (.head _)))))))⟩)
      (first
        | (go_at_call 11; (first | (with_reducible refine (Env.toSpace HE.out (Kd.C_below HR0.out HE.out.below) hc0 hsl).mono ?_) | (with_reducible refine (Env.toSpace HE.out.drew (Kd.C_below HR0.out HE.out.drew.below) hc0 hsl).mono ?_) | (with_reducible refine (Env.toSpace (HE.out.box (t := 26) _ (by decide)) (Kd.C_below HR0.out (HE.out.box (t := 26) _ (by decide)).below) hc0 hsl).mono ?_) | (with_reducible refine (Env.toSpace (HE.out.box (t := 26) _ (by decide)).drew (Kd.C_below HR0.out (HE.out.box (t := 26) _ (by decide)).drew.below) hc0 hsl).mono ?_)); rintro e wn ⟨Ar, cr, rfl, HN⟩; clear HE; have HE := HN; clear HN; (try clear hbx hfx); (have hbx := HE.out.cell 0 rfl); (have hfx := HE.out.frozen 0 rfl))
        | (go_at_call 11; (first | (with_reducible refine (Env.toSpace HE.out (Kd.C_below HR2.out HE.out.below) hc2 hxl).mono ?_) | (with_reducible refine (Env.toSpace HE.out.drew (Kd.C_below HR2.out HE.out.drew.below) hc2 hxl).mono ?_) | (with_reducible refine (Env.toSpace (HE.out.box (t := 26) _ (by decide)) (Kd.C_below HR2.out (HE.out.box (t := 26) _ (by decide)).below) hc2 hxl).mono ?_) | (with_reducible refine (Env.toSpace (HE.out.box (t := 26) _ (by decide)).drew (Kd.C_below HR2.out (HE.out.box (t := 26) _ (by decide)).drew.below) hc2 hxl).mono ?_)); rintro e wn ⟨Ar, cr, rfl, HN⟩; clear HE; have HE := HN; clear HN; (try clear hbx hfx); (have hbx := HE.out.cell 0 rfl); (have hfx := HE.out.frozen 0 rfl))
        | (go_at_call 12; (first | (with_reducible refine (Env.toInt64S HE.out (Kd.C_below HR1.out HE.out.below) hc1 hC).mono ?_) | (with_reducible refine (Env.toInt64S HE.out.drew (Kd.C_below HR1.out HE.out.drew.below) hc1 hC).mono ?_) | (with_reducible refine (Env.toInt64S (HE.out.box (t := 26) _ (by decide)) (Kd.C_below HR1.out (HE.out.box (t := 26) _ (by decide)).below) hc1 hC).mono ?_) | (with_reducible refine (Env.toInt64S (HE.out.box (t := 26) _ (by decide)).drew (Kd.C_below HR1.out (HE.out.box (t := 26) _ (by decide)).drew.below) hc1 hC).mono ?_)); rintro e wn ⟨Ar, cr, rfl, HN⟩; clear HE; have HE := HN; clear HN; (try clear hbx hfx); (have hbx := HE.out.cell 0 rfl); (have hfx := HE.out.frozen 0 rfl))
        | (go_at_call 12; (first | (with_reducible refine (Env.toInt64S HE.out (Kd.C_below HR3.out HE.out.below) hc3 hD).mono ?_) | (with_reducible refine (Env.toInt64S HE.out.drew (Kd.C_below HR3.out HE.out.drew.below) hc3 hD).mono ?_) | (with_reducible refine (Env.toInt64S (HE.out.box (t := 26) _ (by decide)) (Kd.C_below HR3.out (HE.out.box (t := 26) _ (by decide)).below) hc3 hD).mono ?_) | (with_reducible refine (Env.toInt64S (HE.out.box (t := 26) _ (by decide)).drew (Kd.C_below HR3.out (HE.out.box (t := 26) _ (by decide)).drew.below) hc3 hD).mono ?_)); rintro e wn ⟨Ar, cr, rfl, HN⟩; clear HE; have HE := HN; clear HN; (try clear hbx hfx); (have hbx := HE.out.cell 0 rfl); (have hfx := HE.out.frozen 0 rfl))
        | (go_at_call 13; (first | (with_reducible refine (Env.implDirect HE.out 3 2 1 0 rfl rfl rfl rfl hC hD HZ.out).mono ?_) | (with_reducible refine (Env.implDirect HE.out.drew 3 2 1 0 rfl rfl rfl rfl hC hD HZ.out).mono ?_) | (with_reducible refine (Env.implDirect (HE.out.box (t := 26) _ (by decide)) 3 2 1 0 rfl rfl rfl rfl hC hD HZ.out).mono ?_) | (with_reducible refine (Env.implDirect (HE.out.box (t := 26) _ (by decide)).drew 3 2 1 0 rfl rfl rfl rfl hC hD HZ.out).mono ?_)); rintro e wn ⟨Ar, cr, Ar2, cr2, rfl, HN⟩; clear HE; have HE := HN; clear HN; (try clear hbx hfx); (have hbx := HE.out.cell 0 rfl); (have hfx := HE.out.frozen 0 rfl)))
    all_goals
      first
        | refine hK _ _ (Met.intro (hJ _ _ ?_))
        | refine hJ _ _ ?_
      (repeat apply Exists.intro)
      refine ⟨?rel, rfl⟩
      case rel => first
        | exact ⟨_, _, _, _, _, rfl, rfl, rfl, ⟨(HE.out.set0 _).drop4⟩⟩
        | exact ⟨_, _, _, _, _, rfl, rfl, rfl, ⟨(HE.out.box (t := 26) _ (by decide)).drop4⟩⟩
        | exact ⟨_, _, _, _, _, rfl, rfl, rfl, ⟨((HE.out.box (t := 26) _ (by decide)).set0 _).drop4⟩⟩
  clear HE
  obtain ⟨g23, Aha, cha, Ahb, chb, rfl, rfl, rfl, HE⟩ := hcut
  have qb23 := HE.out.cell 0 rfl
  have qb17 := HE.out.cell 1 rfl
  have qb15 := HE.out.cell 2 rfl
  have qb13 := HE.out.cell 3 rfl
  have qb10 := HE.out.cell 4 rfl
  have qgx := HE.out.cell 5 rfl
  have qgs := HE.out.cell 6 rfl
  go_wp2_with fail
  refine (Env.eqSpace HE.out 0 8 rfl rfl hl0).mono ?_
  rintro e w24 ⟨rfl, HN⟩
  clear qb23 qb17 qb15 qb13 qb10 qgx qgs
  clear HE
  have HE := HN
  clear HN
  have qb23 := HE.out.cell 0 rfl
  have qb17 := HE.out.cell 1 rfl
  have qb15 := HE.out.cell 2 rfl
  have qb13 := HE.out.cell 3 rfl
  have qb10 := HE.out.cell 4 rfl
  have qgx := HE.out.cell 5 rfl
  have qgs := HE.out.cell 6 rfl
  go_wp2_with fail
  refine (Env.eqInt64S HE.out 1 9 rfl rfl hl1).mono ?_
  rintro e w25 ⟨rfl, HN⟩
  clear qb23 qb17 qb15 qb13 qb10 qgx qgs
  clear HE
  have HE := HN
  clear HN
  have qb23 := HE.out.cell 0 rfl
  have qb17 := HE.out.cell 1 rfl
  have qb15 := HE.out.cell 2 rfl
  have qb13 := HE.out.cell 3 rfl
  have qb10 := HE.out.cell 4 rfl
  have qgx := HE.out.cell 5 rfl
  have qgs := HE.out.cell 6 rfl
  go_wp2_with fail
  refine (Env.heldSpace HE.out 2 rfl (by omega) (by omega) hl0).mono ?_
  rintro e w26 ⟨rfl, HN⟩
  clear qb23 qb17 qb15 qb13 qb10 qgx qgs
  clear HE
  have HE := HN
  clear HN
  have qb23 := HE.out.cell 0 rfl
  have qb17 := HE.out.cell 1 rfl
  have qb15 := HE.out.cell 2 rfl
  have qb13 := HE.out.cell 3 rfl
  have qb10 := HE.out.cell 4 rfl
  have qgx := HE.out.cell 5 rfl
  have qgs := HE.out.cell 6 rfl
  go_wp2_with fail
  refine (Env.heldInt64S HE.out 3 rfl (by omega) (by omega) hl1).mono ?_
  rintro e w27 ⟨rfl, HN⟩
  clear qb23 qb17 qb15 qb13 qb10 qgx qgs
  clear HE
  have HE := HN
  clear HN
  go_wp2
  go_ret
  exact ⟨rfl, hgs ▸ HE.out.below⟩
end Go.Proofs.Ytbhgnphdhkmliaa.P
