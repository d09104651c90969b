/- A code with the sum of all digits at one more place: what the program's AddSumPlace returns. -/
import Derived.Test.YtbhgnphdhkmliaaHMapped
import Derived.Test.YtbhgnphdhkmliaaHAdd1
import Derived.Test.YtbhgnphdhkmliaaHClone
import Derived.Test.YtbhgnphdhkmliaaHLimited
import Derived.Test.YtbhgnphdhkmliaaHPair
import Derived.Test.YtbhgnphdhkmliaaQGiven
set_option linter.unusedVariables false
set_option linter.unusedSimpArgs false
namespace Go.Proofs.Ytbhgnphdhkmliaa.P
open Go.RowKit Go.Proofs.YtbhgnphdhkmliaaW.PrintWords Go.Proofs.YtbhgnphdhkmliaaW.PrintLast Go.Proofs.YtbhgnphdhkmliaaW.PrintMore CC

theorem blk_newk9 {w : World} {o : Obj} {k : Nat} (h : k = w.heap.size) : (w.alloc o).heap[k]? = some o := by
  subst h
  exact blk_new w o
theorem grownX {w w1 : World} {g base : Nat} {v : Value} {xs : List Int} (h : w.heap[g]? = some (.cells #[.slice none 0 0] 26 (0, 0))) (hg : w.grownBy w1 v.ownBlock) (hR : Kd.R (Kd.int .i64) 2 w base (fun _ => True) v xs) : w1.heap[g]? = some (.cells #[.slice none 0 0] 26 (0, 0)) := blk_grown h hg (Kd.R_ne hR h (by decide))
theorem R_setX {W : World} {g base : Nat} {v u : Value} {xs : List Int} (h : Kd.R (Kd.int .i64) 2 W base (fun _ => True) v xs) (hx : W.heap[g]? = some (.cells #[.slice none 0 0] 26 (0, 0))) : Kd.R (Kd.int .i64) 2 (W.setCell ⟨g, 0, none⟩ u) base (fun _ => True) v xs := Kd.R_mono (Kd.R_far (p := ⟨g, 0, none⟩) (Kd.R_types h hx (by decide)) (fun _ hk => hk.2) u) (fun _ _ => trivial)
/-- What AddSumPlace answers. -/
def addR (s C : List Int) (q : Int) : List Int × List Int × Int :=
  if Q.rCode s C [] = 0 then if 2 ≤ q ∧ q ≤ 4 then if isSp (s ++ [q]) = true then (s ++ [q], mappedL (addW s q) C, 0) else ([], [], 3) else ([], [], 2) else ([], [], Q.rCode s C [])

set_option maxHeartbeats 3000000 in
set_option maxRecDepth 100000 in
theorem addSum_calls (A : Option Addr) (c : Nat) (s : List Int) (A1 : Option Addr) (c1 : Nat) (C : List Int) (q : Int) (w : World) (hr : Kd.C (Kd.int .i64) w A s.length s) (hc : s.length ≤ c) (hr1 : Kd.C (Kd.int .i64) w A1 C.length C) (hc1 : C.length ≤ c1) (hCl : C.length ≤ 1048576) :
    Calls Try.prog 21 #[.agg #[.slice A s.length c], .slice A1 C.length c1, .int .i64 q] w
      fun e w' => ∃ v0 v1 : Value, e = .returned (.tuple #[.agg #[v0], v1, .int .i64 (addR s C q).2.2]) ∧ Kd.R (Kd.int .i64) 2 w' w.heap.size (fun k_ => some k_ ≠ v1.ownBlock) v0 (addR s C q).1 ∧ Kd.R (Kd.int .i64) 2 w' w.heap.size (fun k_ => some k_ ≠ v0.ownBlock) v1 (addR s C q).2.1 ∧ Below w.heap.size w w' := by
  have huS := Try.underlying26
  have HR := Aside0.mk hr
  have HR1 := Aside0.mk hr1
  obtain ⟨kb, hbc⟩ := (Q.codeCode_ev s (c := C) (ws := []) hCl (by decide)).rounds
  have HBC := Aside0.mk hbc
  clear hr hr1 hbc
  go_enter Try.func21, Try.ntmps21
  go_wp2_with fail
  have k0 : (((w.alloc (.cells #[.slice A s.length c] 26)).alloc (.cells #[.int .i64 q] 2)).alloc (.cells #[.slice none 0 0] 26)).heap[w.heap.size]? = some (.cells #[.slice A s.length c] 26 (0, 0)) := blk_alloc (blk_alloc (blk_new _ _) _) _
  have k1 : (((w.alloc (.cells #[.slice A s.length c] 26)).alloc (.cells #[.int .i64 q] 2)).alloc (.cells #[.slice none 0 0] 26)).heap[w.heap.size + 1]? = some (.cells #[.int .i64 q] 2 (0, 0)) := blk_alloc (by simpa using blk_new (w.alloc (.cells #[.slice A s.length c] 26)) (.cells #[.int .i64 q] 2)) _
  have k2 : (((w.alloc (.cells #[.slice A s.length c] 26)).alloc (.cells #[.int .i64 q] 2)).alloc (.cells #[.slice none 0 0] 26)).heap[w.heap.size + 1 + 1]? = some (.cells #[.slice none 0 0] 26 (0, 0)) := by simpa using blk_new ((w.alloc (.cells #[.slice A s.length c] 26)).alloc (.cells #[.int .i64 q] 2)) (.cells #[.slice none 0 0] 26)
  have hB : Below w.heap.size w (((w.alloc (.cells #[.slice A s.length c] 26)).alloc (.cells #[.int .i64 q] 2)).alloc (.cells #[.slice none 0 0] 26)) := below_alloc (below_alloc ((Below.refl _ _).alloc (Nat.le_refl _) _) _) _
  refine (impl_codeCode.calls kb A c s A1 c1 C none 0 [] (Q.rCode s C []) _ (Kd.C_below HR.out hB) hc (Kd.C_below HR1.out hB) hc1 (Kd.C_nil _ _) (by simp) HBC.out).mono ?_
  rintro e w0 ⟨rfl, hb⟩
  have K0 := Aside0.mk (blk_below k0 hb)
  have K1 := Aside0.mk (blk_below k1 hb)
  have K2 := Aside0.mk (blk_below k2 hb)
  have B1 := Aside0.mk (below_then hB hB.size hb)
  clear k0 k1 k2 hB hb
  obtain ⟨g, hg⟩ : ∃ g, g = w.heap.size := ⟨_, rfl⟩
  have HG := Aside0.mk hg
  rw [← hg] at K0 K1 K2 ⊢
  clear hg
  have hk2 : w0.cell? ⟨g + 1 + 1, 0, none⟩ = some (.slice none 0 0) := blk_cell K2.out 0
  have hf2 := blk_frozen K2.out 0
  have hc0 : w0.cell? ⟨g, 0, none⟩ = some (.slice A s.length c) := blk_cell K0.out 0
  have hc1' : w0.cell? ⟨g + 1, 0, none⟩ = some (.int .i64 q) := blk_cell K1.out 0
  have KE := Aside0.mk (blk_put (cs := #[.slice none 0 0]) (cs' := #[.slice none 0 0]) K2.out 0 (.slice none 0 0) rfl)
  have BE := Aside0.mk (below_set (g := g + 1 + 1) (j := 0) (v := .slice none 0 0) B1.out (by have := HG.out; omega))
  by_cases hz : Q.rCode s C [] = 0
  · by_cases hq : 2 ≤ q ∧ q ≤ 4
    · have HZ : Aside0 (addR s C q = if isSp (s ++ [q]) = true then (s ++ [q], mappedL (addW s q) C, 0) else ([], [], 3)) := ⟨by unfold addR; rw [if_pos hz, if_pos hq]⟩
      obtain ⟨hs, hC, _⟩ := Q.rCode_zero hz
      have HS := Aside0.mk hs
      have hsl := isSp_len hs
      have HCW : Aside0 (∀ x ∈ C, 0 ≤ x ∧ x ≤ 1024) := ⟨fun x hx => by have h1 := (isW_iff s x).1 (Q.isC_words hC x hx); have h2 := isSp_prd hs; omega⟩
      obtain ⟨hq0, hq1⟩ := hq
      have t1 : decide (q < 2) = false := decide_eq_false (by omega)
      have t2 : decide (4 < q) = false := decide_eq_false (by omega)
      have hl9 : (s ++ [q]).length = s.length + 1 := by simp
      have HL9 := Aside0.mk hl9
      rw [hz]
      clear hs hC hz HBC hk2 hf2 KE BE hl9
      obtain ⟨b, hb0⟩ : ∃ b, b = isSp (s ++ [q]) := ⟨_, rfl⟩
      have HBB := Aside0.mk hb0
      rw [← hb0] at HZ
      clear hb0
      go_upto_region 6 with (fail)
      go_cut [10, 11] (fun v10 v11 W => ∃ (gx : Nat) (A3 : Option Addr) (c3 : Nat), v10 = .pointer (some ⟨gx, 0, none⟩) ∧ v11 = .bool b ∧ Aside0 (W.heap[gx]? = some (.cells #[.slice A3 (s.length + 1) c3] 26 (0, 0))) ∧ Aside0 (Kd.R (Kd.int .i64) 2 W w0.heap.size (fun _ => True) (.slice A3 (s.length + 1) c3) (s ++ [q])) ∧ Aside0 (w0.heap.size ≤ gx) ∧ Aside0 (Below w0.heap.size w0 W))
      case first =>
        go_region_held3 (fun w' => w'.cell? ⟨g, 0, none⟩ = some (.slice A s.length c) ∧ w'.cell? ⟨g + 1, 0, none⟩ = some (.int .i64 q) ∧ Below w0.heap.size w0 w')
          (first | exact ⟨hc0, hc1', below_drew (Below.refl _ _)⟩ | (refine (fun hx => ⟨pw_cell_below hx hc0, pw_cell_below hx hc1', hx⟩) ?_; exact (by repeat (first | (with_reducible first | exact hBL | exact hBA | exact hBC | exact below_drew (Below.refl _ _) | exact Below.refl _ _ | apply below_alloc | apply below_drew) | (refine below_set ?_ (by (try simp only [World.size_alloc]); first | exact Nat.le_refl _ | omega))))))
          (first
            | (go_at_call 44; refine (clone_calls A c s _ ?k1 hc (by omega)).mono ?_; (case k1 => exact Kd.C_below HR.out (below_then B1.out B1.out.size (by assumption : _ ∧ _ ∧ Below _ _ _).2.2)); rintro e wC ⟨v, rfl, hRC, hbC⟩; obtain ⟨A2, c2, e2⟩ := Kd.R_slice hRC; subst e2; have hRC0 : Kd.R (Kd.int .i64) 2 wC w0.heap.size (fun _ => True) (.slice A2 s.length c2) s := Kd.R_lower hRC (by assumption : _ ∧ _ ∧ Below _ _ _).2.2.size; have hBC : Below w0.heap.size w0 wC := below_then (by assumption : _ ∧ _ ∧ Below _ _ _).2.2 (by assumption : _ ∧ _ ∧ Below _ _ _).2.2.size hbC; have szC := hBC.size; (first | (with_reducible have xC : _ = some (Obj.cells #[Value.slice none 0 0] 26 (0, 0)) := blk_below (blk_drew (blk_new _ _)) hbC) | (with_reducible have xC : _ = some (Obj.cells #[Value.slice none 0 0] 26 (0, 0)) := blk_below (blk_drew (blk_alloc (blk_new _ _) _)) hbC) | (with_reducible have xC : _ = some (Obj.cells #[Value.slice none 0 0] 26 (0, 0)) := blk_below (blk_new _ _) hbC) | (with_reducible have xC : _ = some (Obj.cells #[Value.slice none 0 0] 26 (0, 0)) := blk_below (blk_alloc (blk_new _ _) _) hbC) | skip))
            | (refine Kd.R_append_rows_step (Kd.int .i64) (w0 := w0) w0.heap.size (by rfl) (.tmp 29) (.tmp 31) 22 2 (.int .i64 0) 8 rfl Try.underlying22 infoI rfl (by decide) (by omega) (.slice A2 s.length c2) s [q] _ _ _ (fun _ => True) (fun _ => False) rfl rfl ?aO ?aR (fun _ _ h => h) (fun _ h => h.elim) ?aF ?aB ?aS ?aL ?_; (case aR => refine C_box ?_; repeat (first | (with_reducible first | exact blk_new _ _ | (refine blk_below ?_ hbC)) | exact blk_newk9 (by simp only [World.size_alloc]) | (with_reducible first | (refine blk_alloc ?_ _) | (refine blk_drew ?_)))); (case aB => exact (by repeat (first | (with_reducible first | exact hBL | exact hBA | exact hBC | exact below_drew (Below.refl _ _) | exact Below.refl _ _ | apply below_alloc | apply below_drew) | (refine below_set ?_ (by (try simp only [World.size_alloc]); first | exact Nat.le_refl _ | omega))))); (case aF => exact (fun _ _ => trivial)); (case aO => repeat (with_reducible first | exact hRC0 | apply Kd.R_alloc)); (case aS => exact ((by repeat (first | (with_reducible first | exact hBL | exact hBA | exact hBC | exact below_drew (Below.refl _ _) | exact Below.refl _ _ | apply below_alloc | apply below_drew) | (refine below_set ?_ (by (try simp only [World.size_alloc]); first | exact Nat.le_refl _ | omega)))) : Below w0.heap.size w0 _).size); (case aL => omega); intro v1 wA hRA hBA hgA hat; obtain ⟨A3, c3, e3⟩ := Kd.R_slice hRA; rw [HL9.out] at e3; subst e3; have szA := hBA.size; (first | (with_reducible have xA : _ = some (Obj.cells #[Value.slice none 0 0] 26 (0, 0)) := grownX (blk_new _ _) hgA (by repeat (with_reducible first | exact hRC0 | apply Kd.R_alloc))) | (with_reducible have xA : _ = some (Obj.cells #[Value.slice none 0 0] 26 (0, 0)) := grownX (blk_alloc (blk_new _ _) _) hgA (by repeat (with_reducible first | exact hRC0 | apply Kd.R_alloc))) | (with_reducible have xA : _ = some (Obj.cells #[Value.slice none 0 0] 26 (0, 0)) := grownX (xC) hgA (by repeat (with_reducible first | exact hRC0 | apply Kd.R_alloc))) | (with_reducible have xA : _ = some (Obj.cells #[Value.slice none 0 0] 26 (0, 0)) := grownX (blk_alloc xC _) hgA (by repeat (with_reducible first | exact hRC0 | apply Kd.R_alloc))) | (with_reducible have xA : _ = some (Obj.cells #[Value.slice none 0 0] 26 (0, 0)) := grownX (blk_alloc (blk_alloc xC _) _) hgA (by repeat (with_reducible first | exact hRC0 | apply Kd.R_alloc))) | skip))
            | (go_at_call 37; have hlim := fun (W : World) (hW : Kd.C (Kd.int .i64) W A3 (s ++ [q]).length (s ++ [q])) => limited_calls A3 c3 (s ++ [q]) W hW (by rw [HL9.out]; exact (Kd.R_reads' hRA).2.1) (by rw [HL9.out]; omega); rw [HL9.out, ← HBB.out] at hlim; refine (hlim _ ?k1).mono ?_; (case k1 => rw [← HL9.out]; refine (Kd.R_reads' (e := 2) (base := w0.heap.size) (ok := fun _ => True) (n := s.length + 1) (c := c3) ?_).2.2; repeat (with_reducible first | exact hRA | apply Kd.R_alloc)); rintro e wL ⟨rfl, hbL⟩; have hBL : Below w0.heap.size w0 wL := below_then (by assumption : _ ∧ _ ∧ Below _ _ _).2.2 (by assumption : _ ∧ _ ∧ Below _ _ _).2.2.size hbL; have szL := hBL.size; (first | ((with_reducible have xL : _ = some (Obj.cells #[Value.slice none 0 0] 26 (0, 0)) := blk_below (blk_new _ _) hbL); (try simp only [World.size_alloc] at xL); have xc := blk_cell xL 0; have xf := blk_frozen xL 0) | ((with_reducible have xL : _ = some (Obj.cells #[Value.slice none 0 0] 26 (0, 0)) := blk_below (xA) hbL); (try simp only [World.size_alloc] at xL); have xc := blk_cell xL 0; have xf := blk_frozen xL 0) | skip)))
        all_goals go_wp2
        all_goals go_meet
        all_goals
          refine ⟨_, A3, c3, rfl, rfl, ⟨?_⟩, ⟨?_⟩, ⟨?_⟩, ⟨?_⟩⟩
          · first | exact blk_put (cs := #[.slice none 0 0]) xL 0 _ rfl | exact blk_new _ _ | exact blk_newk9 (by simp only [World.size_alloc])
          · first | exact R_setX (Kd.R_below (by repeat (with_reducible first | exact hRA | apply Kd.R_alloc)) hbL) xL | exact Kd.R_alloc (Kd.R_below (by repeat (with_reducible first | exact hRA | apply Kd.R_alloc)) hbL) _
          · (try simp only [World.size_alloc]); first | exact Nat.le_refl _ | omega
          · exact (by repeat (first | (with_reducible first | exact hBL | exact hBA | exact hBC | exact below_drew (Below.refl _ _) | exact Below.refl _ _ | apply below_alloc | apply below_drew) | (refine below_set ?_ (by (try simp only [World.size_alloc]); first | exact Nat.le_refl _ | omega))))
      case rest =>
        obtain ⟨gx, A3, c3, rfl, rfl, HX, H3, HLG, HBW⟩ := hcut
        have M0 := Aside0.mk (blk_below K0.out HBW.out)
        have M1 := Aside0.mk (blk_below K1.out HBW.out)
        have M2 := Aside0.mk (blk_below K2.out HBW.out)
        have B3 := Aside0.mk (below_then B1.out B1.out.size HBW.out)
        have R3 := Aside0.mk (Kd.R_lower H3.out B1.out.size)
        have hg1 : gx ≠ g + 1 + 1 := by have := blk_lt K2.out; have := HLG.out; omega
        have hG2 : w.heap.size ≤ g + 1 + 1 := by have := HG.out; omega
        clear K0 K1 K2 B1 HBW H3 HLG hc0 hc1' t1 t2
        cases b with
        | false =>
          have HZ2 : Aside0 (addR s C q = ([], [], 3)) := ⟨HZ.out⟩
          have hk2 := blk_cell M2.out 0
          have hf2 := blk_frozen M2.out 0
          have KE := Aside0.mk (blk_put (cs := #[.slice none 0 0]) (cs' := #[.slice none 0 0]) M2.out 0 (.slice none 0 0) rfl)
          have BE := Aside0.mk (below_set (g := g + 1 + 1) (j := 0) (v := .slice none 0 0) B3.out hG2)
          clear HZ
          go_wp2
          refine bodyPost_ret (results_ctt rfl _ _ (g + 1 + 1) 26 #[.slice none 0 0] (0, 0) _ rfl KE.out huS rfl (by kernel_rfl)) rfl ?_
          rw [HZ2.out]
          exact ⟨_, _, rfl, Kd.R_nil _ _ _ _ _, Kd.R_nil _ _ _ _ _, BE.out⟩
        | true =>
          have HZ2 : Aside0 (addR s C q = (s ++ [q], mappedL (addW s q) C, 0)) := ⟨HZ.out⟩
          have c3' := blk_cell HX.out 0
          have HF : Aside0 (∀ (x : Int) (X : World), x ∈ C → Below wc.drew.heap.size wc.drew X → Calls Try.prog 46 #[.int .i64 x, .pointer (some ⟨g, 0, none⟩), .pointer (some ⟨g + 1, 0, none⟩)] X fun e w' => e = .returned (.int .i64 (addW s q x)) ∧ Below X.heap.size X w') := ⟨fun x X hx hX => by
            have hBX := below_then (below_drew B3.out) (below_drew B3.out).size hX
            exact add1_calls g (g + 1) A c s q x X (Kd.C_below HR.out hBX) hc HS.out (HCW.out x hx).1 (HCW.out x hx).2 hq0 hq1 (pw_cell_below hX (blk_cell (blk_drew M0.out) 0)) (pw_cell_below hX (blk_cell (blk_drew M1.out) 0))⟩
          clear HZ M0 M1
          go_wp2_with fail
          go_region_held3 (fun w' => w'.cell? ⟨gx, 0, none⟩ = some (.slice A3 (s.length + 1) c3))
            (first | exact c3' | exact pw_cell_below hb c3' | exact (cell_far (p := ⟨g + 1 + 1, _, none⟩) hg1 _).trans (pw_cell_below hb c3'))
            (first | (go_at_call 45; refine («AddSumPlace$1».mapped_calls (some ⟨g, 0, none⟩) (some ⟨g + 1, 0, none⟩) (addW s q) A1 c1 C _ (Kd.C_below HR1.out (below_drew B3.out)) hc1 hCl HF.out).mono ?_; rintro e w4 ⟨v4, rfl, hO, hb⟩; obtain ⟨A4, c4, e4⟩ := Kd.R_slice hO; subst e4; have hK2 := blk_below (blk_drew M2.out) hb; have hk2 := blk_cell hK2 0; have hf2 := blk_frozen hK2 0; have HK2 := Aside0.mk hK2; clear hK2))
          obtain ⟨P0, P1⟩ := rows_apart (Kd.R_drew R3.out) hO hb (below_drew B3.out).size
          have hB5 := below_then (below_drew B3.out) (below_drew B3.out).size hb
          have Q0 := Aside0.mk (Kd.R_mono (Kd.R_far (p := ⟨g + 1 + 1, 0, none⟩) (Kd.R_types P0 HK2.out (by decide)) (fun _ hk => hk.2) (.slice A3 (s.length + 1) c3)) (fun _ hk => hk.1))
          have Q1 := Aside0.mk (Kd.R_mono (Kd.R_far (p := ⟨g + 1 + 1, 0, none⟩) (Kd.R_types P1 HK2.out (by decide)) (fun _ hk => hk.2) (.slice A3 (s.length + 1) c3)) (fun _ hk => hk.1))
          have KX := Aside0.mk (blk_put (cs := #[.slice none 0 0]) (cs' := #[.slice A3 (s.length + 1) c3]) HK2.out 0 (.slice A3 (s.length + 1) c3) rfl)
          have BX := Aside0.mk (below_set (j := 0) (v := .slice A3 (s.length + 1) c3) hB5 hG2)
          clear P0 P1 hB5 hO hb hk2 hf2 HK2
          go_wp2
          refine bodyPost_ret (results_ctt rfl _ _ (g + 1 + 1) 26 #[.slice A3 (s.length + 1) c3] (0, 0) _ rfl KX.out huS rfl (by kernel_rfl)) rfl ?_
          rw [HZ2.out]
          exact ⟨_, _, rfl, Q0.out, Q1.out, BX.out⟩
    · have HZ : Aside0 (addR s C q = ([], [], 2)) := ⟨by unfold addR; rw [if_pos hz, if_neg hq]⟩
      rw [hz]
      clear HBC hz hc0
      by_cases h2 : q < 2
      · have t1 : decide (q < 2) = true := decide_eq_true h2
        clear hq
        go_wp2
        refine bodyPost_ret (results_ctt rfl _ _ (g + 1 + 1) 26 #[.slice none 0 0] (0, 0) _ rfl KE.out huS rfl (by kernel_rfl)) rfl ?_
        rw [HZ.out]
        exact ⟨_, _, rfl, Kd.R_nil _ _ _ _ _, Kd.R_nil _ _ _ _ _, BE.out⟩
      · have t1 : decide (q < 2) = false := decide_eq_false h2
        have t2 : decide (4 < q) = true := decide_eq_true (by omega)
        clear hq
        go_wp2
        refine bodyPost_ret (results_ctt rfl _ _ (g + 1 + 1) 26 #[.slice none 0 0] (0, 0) _ rfl KE.out huS rfl (by kernel_rfl)) rfl ?_
        rw [HZ.out]
        exact ⟨_, _, rfl, Kd.R_nil _ _ _ _ _, Kd.R_nil _ _ _ _ _, BE.out⟩
  · have HZ : Aside0 (addR s C q = ([], [], Q.rCode s C [])) := ⟨by unfold addR; rw [if_neg hz]⟩
    clear HBC hc0 hc1'
    generalize Q.rCode s C [] = z at *
    go_wp2
    refine bodyPost_ret (results_ctt rfl _ _ (g + 1 + 1) 26 #[.slice none 0 0] (0, 0) _ rfl KE.out huS rfl (by kernel_rfl)) rfl ?_
    rw [HZ.out]
    exact ⟨_, _, rfl, Kd.R_nil _ _ _ _ _, Kd.R_nil _ _ _ _ _, BE.out⟩

/-- What the program's AddSumPlace returns. -/
def impl_AddSumPlace.f (l0_0 l1 : List Int) (a2 : Int) : Option (List Int × List Int × Int) := if l1.length ≤ 1048576 then some (addR l0_0 l1 a2) else none

theorem impl_AddSumPlace.calls (A0_0 : Option Addr) (c0_0 : Nat) (l0_0 : List Int) (A1 : Option Addr) (c1 : Nat) (l1 : List Int) (a2 : Int) (r1 : List Int) (r2 : List Int) (r3 : Int) (w : World) (hr0_0 : Kd.C (Kd.int .i64) w A0_0 l0_0.length l0_0) (hc0_0 : l0_0.length ≤ c0_0) (hr1 : Kd.C (Kd.int .i64) w A1 l1.length l1) (hc1 : l1.length ≤ c1) (h : impl_AddSumPlace.f l0_0 l1 a2 = some (r1, r2, r3)) :
    Calls Try.prog 21 #[.agg #[.slice A0_0 l0_0.length c0_0], .slice A1 l1.length c1, .int .i64 a2] w fun e w' => ∃ v0_ v1_ : Value, e = .returned (.tuple #[.agg #[v0_], v1_, .int .i64 r3]) ∧ Kd.R (Kd.int .i64) 2 w' w.heap.size (fun k_ => some k_ ≠ (v1_ : Value).ownBlock) v0_ r1 ∧ Kd.R (Kd.int .i64) 2 w' w.heap.size (fun k_ => some k_ ≠ (v0_ : Value).ownBlock) v1_ r2 ∧ Below w.heap.size w w' := by
  unfold impl_AddSumPlace.f at h
  split at h
  · rename_i hl
    have h2 := Option.some.inj h
    have e1 : (addR l0_0 l1 a2).1 = r1 := by rw [h2]
    have e2 : (addR l0_0 l1 a2).2.1 = r2 := by rw [h2]
    have e3 : (addR l0_0 l1 a2).2.2 = r3 := by rw [h2]
    subst e1 e2 e3
    exact addSum_calls A0_0 c0_0 l0_0 A1 c1 l1 a2 w hr0_0 hc0_0 hr1 hc1 hl
  · cases h
end Go.Proofs.Ytbhgnphdhkmliaa.P
