/- A code with the places in an order: what the program's OrderPlaces returns. -/
import Derived.Test.YtbhgnphdhkmliaaHMapped
import Derived.Test.YtbhgnphdhkmliaaHPlaces1
import Derived.Test.YtbhgnphdhkmliaaQWord0
import Derived.Test.YtbhgnphdhkmliaaQGiven
import Derived.Test.YtbhgnphdhkmliaaFimplorderedSpace
import Derived.Test.YtbhgnphdhkmliaaFCode
import Derived.Test.YtbhgnphdhkmliaaHPair
import Derived.BigQuiet
set_option linter.unusedVariables false
set_option linter.unusedSimpArgs false
namespace Go.Proofs.Ytbhgnphdhkmliaa.P
open Go.RowKit Go.Proofs.YtbhgnphdhkmliaaW.PrintWords Go.Proofs.YtbhgnphdhkmliaaW.PrintLast Go.Proofs.YtbhgnphdhkmliaaW.PrintMore CC

/-- What OrderPlaces answers. -/
def placesR (s C p : List Int) : List Int × List Int × Int :=
  if Q.rCode s C [] = 0 then if ordQ p s.length = true then (ospL s p, mappedL (plW s p) C, 0) else ([], [], 2) else ([], [], Q.rCode s C [])
theorem orderedSpace_l {s p : List Int} (h : ordQ p s.length = true) (hs : s.length ≤ 8) : ∀ (k m : Nat), m + k = p.length →
    Ev (fun j => impl_orderedSpace.l0 j p (p.length : Int) (m : Int) s (putN p.length s p m)) (ospL s p)
  | 0, m, hm => by
    refine Ev.step (fun k => by simp only [impl_orderedSpace.l0]; exact rfl) ?_
    refine Q.Ev.iff_neg (by omega) ?_
    obtain rfl : m = p.length := by omega
    exact Ev.now _
  | k + 1, m, hm => by
    obtain ⟨hl, _, _, _⟩ := ordQ_facts h
    have ih := orderedSpace_l h hs k (m + 1) (by omega)
    have hb := ordQ_rd h m (by omega)
    refine Ev.step (fun k => by simp only [impl_orderedSpace.l0]; exact rfl) ?_
    refine Q.Ev.iff_pos (by omega) (Q.Ev.iff_pos (by omega) (Q.Ev.iff_pos (by omega) (Q.Ev.iff_pos (by omega) (Q.Ev.iff_pos hb.1 (Q.Ev.iff_pos (by rw [putN_length]; exact hb.2) ?_)))))
    rw [Q.wrap_nat (by unfold maxLen; omega)]
    exact ih
theorem orderedSpace_ev {s p : List Int} (h : ordQ p s.length = true) (hs : s.length ≤ 8) : Ev (fun k => impl_orderedSpace.f k s p) (ospL s p) := by
  obtain ⟨hl, _, _, _⟩ := ordQ_facts h
  unfold impl_orderedSpace.f
  refine Q.Ev.iff_pos (by omega) (Q.Ev.iff_pos (by omega) ?_)
  rw [Int.toNat_natCast]
  exact orderedSpace_l h hs p.length 0 (by omega)
theorem places_eq9 (s : List Int) : impl_places.f s = some (s.length : Int) := rfl

set_option maxHeartbeats 3000000 in
set_option maxRecDepth 100000 in
theorem orderPlaces_calls (A : Option Addr) (c : Nat) (s : List Int) (A1 : Option Addr) (c1 : Nat) (C : List Int) (A2 : Option Addr) (c2 : Nat) (p : List Int) (w : World) (hr : Kd.C (Kd.int .i64) w A s.length s) (hc : s.length ≤ c) (hr1 : Kd.C (Kd.int .i64) w A1 C.length C) (hc1 : C.length ≤ c1) (hCl : C.length ≤ 1048576) (hr2 : Kd.C (Kd.int .i64) w A2 p.length p) (hc2 : p.length ≤ c2) (hpl : p.length ≤ 1048576) :
    Calls Try.prog 23 #[.agg #[.slice A s.length c], .slice A1 C.length c1, .slice A2 p.length c2] w
      fun e w' => ∃ v0 v1 : Value, e = .returned (.tuple #[.agg #[v0], v1, .int .i64 (placesR s C p).2.2]) ∧ Kd.R (Kd.int .i64) 2 w' w.heap.size (fun k_ => some k_ ≠ v1.ownBlock) v0 (placesR s C p).1 ∧ Kd.R (Kd.int .i64) 2 w' w.heap.size (fun k_ => some k_ ≠ v0.ownBlock) v1 (placesR s C p).2.1 ∧ Below w.heap.size w w' := by
  have huS := Try.underlying26
  have HR := Aside0.mk hr
  have HR1 := Aside0.mk hr1
  have HR2 := Aside0.mk hr2
  obtain ⟨kb, hbc⟩ := (Q.codeCode_ev s (c := C) (ws := []) hCl (by decide)).rounds
  have HBC := Aside0.mk hbc
  clear hr hr1 hr2 hbc
  go_enter Try.func23, Try.ntmps23
  go_wp2_with fail
  have k0 : (((w.alloc (.cells #[.slice A s.length c] 26)).alloc (.cells #[.slice A2 p.length c2] 22)).alloc (.cells #[.slice none 0 0] 26)).heap[w.heap.size]? = some (.cells #[.slice A s.length c] 26 (0, 0)) := blk_alloc (blk_alloc (blk_new _ _) _) _
  have k1 : (((w.alloc (.cells #[.slice A s.length c] 26)).alloc (.cells #[.slice A2 p.length c2] 22)).alloc (.cells #[.slice none 0 0] 26)).heap[w.heap.size + 1]? = some (.cells #[.slice A2 p.length c2] 22 (0, 0)) := blk_alloc (by simpa using blk_new (w.alloc (.cells #[.slice A s.length c] 26)) (.cells #[.slice A2 p.length c2] 22)) _
  have k2 : (((w.alloc (.cells #[.slice A s.length c] 26)).alloc (.cells #[.slice A2 p.length c2] 22)).alloc (.cells #[.slice none 0 0] 26)).heap[w.heap.size + 1 + 1]? = some (.cells #[.slice none 0 0] 26 (0, 0)) := by simpa using blk_new ((w.alloc (.cells #[.slice A s.length c] 26)).alloc (.cells #[.slice A2 p.length c2] 22)) (.cells #[.slice none 0 0] 26)
  have hB : Below w.heap.size w (((w.alloc (.cells #[.slice A s.length c] 26)).alloc (.cells #[.slice A2 p.length c2] 22)).alloc (.cells #[.slice none 0 0] 26)) := below_alloc (below_alloc ((Below.refl _ _).alloc (Nat.le_refl _) _) _) _
  refine (impl_codeCode.calls kb A c s A1 c1 C none 0 [] (Q.rCode s C []) _ (Kd.C_below HR.out hB) hc (Kd.C_below HR1.out hB) hc1 (Kd.C_nil _ _) (by simp) HBC.out).mono ?_
  rintro e w0 ⟨rfl, hb⟩
  have K0 := Aside0.mk (blk_below k0 hb)
  have K1 := Aside0.mk (blk_below k1 hb)
  have K2 := Aside0.mk (blk_below k2 hb)
  have B1 := Aside0.mk (below_then hB hB.size hb)
  clear k0 k1 k2 hB hb
  obtain ⟨g, hg⟩ : ∃ g, g = w.heap.size := ⟨_, rfl⟩
  have HG := Aside0.mk hg
  rw [← hg] at K0 K1 K2 ⊢
  clear hg
  have hk2 : w0.cell? ⟨g + 1 + 1, 0, none⟩ = some (.slice none 0 0) := blk_cell K2.out 0
  have hf2 := blk_frozen K2.out 0
  have KE := Aside0.mk (blk_put (cs := #[.slice none 0 0]) (cs' := #[.slice none 0 0]) K2.out 0 (.slice none 0 0) rfl)
  have BE := Aside0.mk (below_set (g := g + 1 + 1) (j := 0) (v := .slice none 0 0) B1.out (by have := HG.out; omega))
  by_cases hz : Q.rCode s C [] = 0
  · obtain ⟨hs, hC, _⟩ := Q.rCode_zero hz
    have HS := Aside0.mk hs
    have hsl := isSp_len hs
    have HCW : Aside0 (∀ x ∈ C, 0 ≤ x ∧ x ≤ 1024) := ⟨fun x hx => by have h1 := (isW_iff s x).1 (Q.isC_words hC x hx); have h2 := isSp_prd hs; omega⟩
    have HZ : Aside0 (placesR s C p = if ordQ p s.length = true then (ospL s p, mappedL (plW s p) C, 0) else ([], [], 2)) := ⟨by unfold placesR; rw [if_pos hz]⟩
    rw [hz]
    obtain ⟨bq, hbq⟩ : ∃ bq, ordQ p s.length = bq := ⟨_, rfl⟩
    have HIO : ∀ W, Kd.C (Kd.int .i64) W A2 p.length p → Calls Try.prog 50 #[.slice A2 p.length c2, .int .i64 (s.length : Int)] W fun e w' => e = .returned (.bool bq) ∧ Below W.heap.size W w' := fun W hW => by
      rw [← hbq]
      exact isOrder_calls A2 c2 p s.length W hW hc2 hpl
    have HIO := Aside0.mk HIO
    have HBQ := Aside0.mk hbq
    rw [hbq] at HZ
    have hc0 : w0.cell? ⟨g, 0, none⟩ = some (.slice A s.length c) := blk_cell K0.out 0
    have hc1' : w0.cell? ⟨g + 1, 0, none⟩ = some (.slice A2 p.length c2) := blk_cell K1.out 0
    clear hs hC hz HBC hbq hk2 hf2 KE BE
    go_wp2_with fail
    go_region_held3 (fun w' => w'.cell? ⟨g, 0, none⟩ = some (.slice A s.length c) ∧ w'.cell? ⟨g + 1, 0, none⟩ = some (.slice A2 p.length c2) ∧ Below w0.heap.size w0 w')
      (first | exact ⟨hc0, hc1', below_drew (Below.refl _ _)⟩ | exact (And.imp (pw_cell_below hb) (And.imp (pw_cell_below hb) (fun hS => below_then hS hS.size hb))) (by assumption))
      (first
        | (go_at_call 51; refine (impl_places.calls _ c s (s.length : Int) _ ?k1 hc (places_eq9 s)).mono ?_; (case k1 => exact Kd.C_below HR.out (below_then B1.out B1.out.size (by first | assumption | exact (by assumption : _ ∧ _ ∧ Below _ _ _).2.2))); rintro e w' ⟨rfl, hb⟩)
        | (go_at_call 50; refine (HIO.out _ ?k1).mono ?_; (case k1 => exact Kd.C_below HR2.out (below_then B1.out B1.out.size (by first | assumption | exact (by assumption : _ ∧ _ ∧ Below _ _ _).2.2))); rintro e w' ⟨rfl, hb⟩))
    all_goals
      obtain ⟨_, _, hBW⟩ := (by assumption : World.cell? _ ⟨g, 0, none⟩ = some (Value.slice A s.length c) ∧ World.cell? _ ⟨g + 1, 0, none⟩ = some (Value.slice A2 p.length c2) ∧ _)
      rename_i wI
      have N0 := Aside0.mk (blk_below K0.out hBW)
      have N1 := Aside0.mk (blk_below K1.out hBW)
      have N2 := Aside0.mk (blk_below K2.out hBW)
      have B9 := Aside0.mk (below_then B1.out B1.out.size hBW)
      clear hBW K0 K1 K2 B1 hc0 hc1'
      cases bq with
      | false =>
        have HZ2 : Aside0 (placesR s C p = ([], [], 2)) := ⟨HZ.out⟩
        have hk2 := blk_cell N2.out 0
        have hf2 := blk_frozen N2.out 0
        have KE := Aside0.mk (blk_put (cs := #[.slice none 0 0]) (cs' := #[.slice none 0 0]) N2.out 0 (.slice none 0 0) rfl)
        have BE := Aside0.mk (below_set (g := g + 1 + 1) (j := 0) (v := .slice none 0 0) B9.out (by have := HG.out; omega))
        clear HZ HIO HBQ
        go_wp2
        refine bodyPost_ret (results_ctt rfl _ _ (g + 1 + 1) 26 #[.slice none 0 0] (0, 0) _ rfl KE.out huS rfl (by kernel_rfl)) rfl ?_
        rw [HZ2.out]
        exact ⟨_, _, rfl, Kd.R_nil _ _ _ _ _, Kd.R_nil _ _ _ _ _, BE.out⟩
      | true =>
        have HZ : Aside0 (placesR s C p = (ospL s p, mappedL (plW s p) C, 0)) := ⟨HZ.out⟩
        obtain ⟨ko, hko⟩ := (orderedSpace_ev HBQ.out hsl).rounds
        have HKO := Aside0.mk hko
        have hc0 := blk_cell N0.out 0
        have hc1' := blk_cell N1.out 0
        clear HIO hko
        go_wp2_with fail
        refine (impl_orderedSpace.calls ko A c s A2 c2 p (ospL s p) _ (Kd.C_below HR.out B9.out) hc (Kd.C_below HR2.out B9.out) hc2 HKO.out).mono ?_
        rintro e w1 ⟨v0, rfl, hR0, hb⟩
        obtain ⟨A3, c3, e3⟩ := Kd.R_slice hR0
        subst e3
        have hc3 := (Kd.R_reads' hR0).2.1
        have L0 := Aside0.mk (blk_below N0.out hb)
        have L1 := Aside0.mk (blk_below N1.out hb)
        have L2 := Aside0.mk (blk_below N2.out hb)
        have R0 := Aside0.mk (Kd.R_lower hR0 B9.out.size)
        have B2 := Aside0.mk (below_then B9.out B9.out.size hb)
        clear hR0 hb hc0 hc1' N0 N1 N2 B9
        go_wp2_with fail
        have M0 := blk_alloc L0.out (.cells #[.slice A3 (ospL s p).length c3] 26)
        have M1 := blk_alloc L1.out (.cells #[.slice A3 (ospL s p).length c3] 26)
        have M2 := Aside0.mk (blk_alloc L2.out (.cells #[.slice A3 (ospL s p).length c3] 26))
        have M3 := blk_new w1 (.cells #[.slice A3 (ospL s p).length c3] 26)
        have B3 := Aside0.mk (below_alloc B2.out (.cells #[.slice A3 (ospL s p).length c3] 26))
        have R3 := Aside0.mk (Kd.R_alloc R0.out (.cells #[.slice A3 (ospL s p).length c3] 26))
        have hg1 : g + 1 + 1 ≠ w1.heap.size := by have := blk_lt L2.out; omega
        have c0 := blk_cell M0 0
        have c1' := blk_cell M1 0
        have c3' := blk_cell M3 0
        have HM0 := Aside0.mk M0
        have HM1 := Aside0.mk M1
        have HM3 := Aside0.mk M3
        clear L0 L1 L2 B2 R0 M0 M1 M3
        generalize w1.alloc (.cells #[.slice A3 (ospL s p).length c3] 26) = W at *
        generalize w1.heap.size = gx at *
        have HF : Aside0 (∀ (x : Int) (X : World), x ∈ C → Below W.drew.heap.size W.drew X → Calls Try.prog 53 #[.int .i64 x, .pointer (some ⟨gx, 0, none⟩), .pointer (some ⟨g, 0, none⟩), .pointer (some ⟨g + 1, 0, none⟩)] X fun e w' => e = .returned (.int .i64 (plW s p x)) ∧ Below X.heap.size X w') := ⟨fun x X hx hX => by
          have hBX := below_then (below_drew B3.out) (below_drew B3.out).size hX
          exact place1_calls gx g (g + 1) A3 c3 A c s A2 c2 p x X (Kd.C_below (Kd.C_below (Kd.R_reads' R3.out).2.2 (below_drew (Below.refl _ _))) hX) hc3 (Kd.C_below HR.out hBX) hc (Kd.C_below HR2.out hBX) hc2 HS.out HBQ.out (HCW.out x hx).1 (HCW.out x hx).2 (pw_cell_below hX (blk_cell (blk_drew HM3.out) 0)) (pw_cell_below hX (blk_cell (blk_drew HM0.out) 0)) (pw_cell_below hX (blk_cell (blk_drew HM1.out) 0))⟩
        clear HM0 HM1 c0 c1'
        go_region_held3 (fun w' => w'.cell? ⟨gx, 0, none⟩ = some (.slice A3 (ospL s p).length c3))
          (first | exact c3' | exact pw_cell_below hb c3' | exact (cell_far (p := ⟨g + 1 + 1, _, none⟩) hg1.symm _).trans (pw_cell_below hb c3'))
          (first | (go_at_call 45; refine («OrderPlaces$1».mapped_calls (some ⟨gx, 0, none⟩) (some ⟨g, 0, none⟩) (some ⟨g + 1, 0, none⟩) (plW s p) A1 c1 C _ (Kd.C_below HR1.out (below_drew B3.out)) hc1 hCl HF.out).mono ?_; rintro e w4 ⟨v4, rfl, hO, hb⟩; obtain ⟨A4, c4, e4⟩ := Kd.R_slice hO; subst e4; have hK2 := blk_below (blk_drew M2.out) hb; have hk2 := blk_cell hK2 0; have hf2 := blk_frozen hK2 0; have HK2 := Aside0.mk hK2; clear hK2))
        obtain ⟨P0, P1⟩ := rows_apart (Kd.R_drew R3.out) hO hb (below_drew B3.out).size
        have hB5 := below_then (below_drew B3.out) (below_drew B3.out).size hb
        have hG2 : w.heap.size ≤ g + 1 + 1 := by have := HG.out; omega
        have Q0 := Aside0.mk (Kd.R_mono (Kd.R_far (p := ⟨g + 1 + 1, 0, none⟩) (Kd.R_types P0 HK2.out (by decide)) (fun _ hk => hk.2) (.slice A3 (ospL s p).length c3)) (fun _ hk => hk.1))
        have Q1 := Aside0.mk (Kd.R_mono (Kd.R_far (p := ⟨g + 1 + 1, 0, none⟩) (Kd.R_types P1 HK2.out (by decide)) (fun _ hk => hk.2) (.slice A3 (ospL s p).length c3)) (fun _ hk => hk.1))
        have KX := Aside0.mk (blk_put (cs := #[.slice none 0 0]) (cs' := #[.slice A3 (ospL s p).length c3]) HK2.out 0 (.slice A3 (ospL s p).length c3) rfl)
        have BX := Aside0.mk (below_set (j := 0) (v := .slice A3 (ospL s p).length c3) hB5 hG2)
        clear P0 P1 hB5 hO hb hk2 hf2 HK2
        go_wp2
        refine bodyPost_ret (results_ctt rfl _ _ (g + 1 + 1) 26 #[.slice A3 (ospL s p).length c3] (0, 0) _ rfl KX.out huS rfl (by kernel_rfl)) rfl ?_
        rw [HZ.out]
        exact ⟨_, _, rfl, Q0.out, Q1.out, BX.out⟩
  · have HZ : Aside0 (placesR s C p = ([], [], Q.rCode s C [])) := ⟨by unfold placesR; rw [if_neg hz]⟩
    clear HBC
    generalize Q.rCode s C [] = z at *
    go_wp2
    refine bodyPost_ret (results_ctt rfl _ _ (g + 1 + 1) 26 #[.slice none 0 0] (0, 0) _ rfl KE.out huS rfl (by kernel_rfl)) rfl ?_
    rw [HZ.out]
    exact ⟨_, _, rfl, Kd.R_nil _ _ _ _ _, Kd.R_nil _ _ _ _ _, BE.out⟩

/-- What the program's OrderPlaces returns. -/
def impl_OrderPlaces.f (l0_0 l1 l2 : List Int) : Option (List Int × List Int × Int) := if l1.length ≤ 1048576 ∧ l2.length ≤ 1048576 then some (placesR l0_0 l1 l2) else none

theorem impl_OrderPlaces.calls (A0_0 : Option Addr) (c0_0 : Nat) (l0_0 : List Int) (A1 : Option Addr) (c1 : Nat) (l1 : List Int) (A2 : Option Addr) (c2 : Nat) (l2 : List Int) (r1 : List Int) (r2 : List Int) (r3 : Int) (w : World) (hr0_0 : Kd.C (Kd.int .i64) w A0_0 l0_0.length l0_0) (hc0_0 : l0_0.length ≤ c0_0) (hr1 : Kd.C (Kd.int .i64) w A1 l1.length l1) (hc1 : l1.length ≤ c1) (hr2 : Kd.C (Kd.int .i64) w A2 l2.length l2) (hc2 : l2.length ≤ c2) (h : impl_OrderPlaces.f l0_0 l1 l2 = some (r1, r2, r3)) :
    Calls Try.prog 23 #[.agg #[.slice A0_0 l0_0.length c0_0], .slice A1 l1.length c1, .slice A2 l2.length c2] w fun e w' => ∃ v0_ v1_ : Value, e = .returned (.tuple #[.agg #[v0_], v1_, .int .i64 r3]) ∧ Kd.R (Kd.int .i64) 2 w' w.heap.size (fun k_ => some k_ ≠ (v1_ : Value).ownBlock) v0_ r1 ∧ Kd.R (Kd.int .i64) 2 w' w.heap.size (fun k_ => some k_ ≠ (v0_ : Value).ownBlock) v1_ r2 ∧ Below w.heap.size w w' := by
  unfold impl_OrderPlaces.f at h
  split at h
  · rename_i hl
    have h2 := Option.some.inj h
    have e1 : (placesR l0_0 l1 l2).1 = r1 := by rw [h2]
    have e2 : (placesR l0_0 l1 l2).2.1 = r2 := by rw [h2]
    have e3 : (placesR l0_0 l1 l2).2.2 = r3 := by rw [h2]
    subst e1 e2 e3
    exact orderPlaces_calls A0_0 c0_0 l0_0 A1 c1 l1 A2 c2 l2 w hr0_0 hc0_0 hr1 hc1 hl.1 hr2 hc2 hl.2
  · cases h
end Go.Proofs.Ytbhgnphdhkmliaa.P
