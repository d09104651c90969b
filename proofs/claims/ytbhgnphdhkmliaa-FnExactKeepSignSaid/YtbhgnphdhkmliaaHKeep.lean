/- The words with a sign at a place, without it: what the program's KeepSign returns. -/
import Derived.Test.YtbhgnphdhkmliaaHMapped
import Derived.Test.YtbhgnphdhkmliaaHOut1
import Derived.Test.YtbhgnphdhkmliaaHWoPlace
import Derived.Test.YtbhgnphdhkmliaaHKeep1
import Derived.Test.YtbhgnphdhkmliaaHDel
import Derived.Test.YtbhgnphdhkmliaaHClone
import Derived.Test.YtbhgnphdhkmliaaQPlace
import Derived.Test.YtbhgnphdhkmliaaHPair
import Derived.BigQuiet
set_option linter.unusedVariables false
set_option linter.unusedSimpArgs false
namespace Go.Proofs.Ytbhgnphdhkmliaa.P
open Go.RowKit Go.Proofs.YtbhgnphdhkmliaaW.PrintWords Go.Proofs.YtbhgnphdhkmliaaW.PrintLast Go.Proofs.YtbhgnphdhkmliaaW.PrintMore CC

/-- The words that have a sign at a place. -/
def keptW (s : List Int) (n : Nat) (d : Int) (C : List Int) : List Int := C.filter fun x => !(rd (dig8 s x) (n : Int) != d)
/-- What KeepSign answers. -/
def keepR (s C : List Int) (i d : Int) : List Int × List Int × Int :=
  if Q.rPlace s C i d = 0 then (s.eraseIdx i.toNat, mappedL (outW s i.toNat) (keptW s i.toNat d C), 0) else ([], [], Q.rPlace s C i d)

set_option maxHeartbeats 3000000 in
set_option maxRecDepth 100000 in
theorem keepSign_calls (A : Option Addr) (c : Nat) (s : List Int) (A1 : Option Addr) (c1 : Nat) (C : List Int) (i d : Int) (w : World) (hr : Kd.C (Kd.int .i64) w A s.length s) (hc : s.length ≤ c) (hr1 : Kd.C (Kd.int .i64) w A1 C.length C) (hc1 : C.length ≤ c1) (hCl : C.length ≤ 1048576) :
    Calls Try.prog 29 #[.agg #[.slice A s.length c], .slice A1 C.length c1, .int .i64 i, .int .i64 d] w
      fun e w' => ∃ v0 v1 : Value, e = .returned (.tuple #[.agg #[v0], v1, .int .i64 (keepR s C i d).2.2]) ∧ Kd.R (Kd.int .i64) 2 w' w.heap.size (fun k_ => some k_ ≠ v1.ownBlock) v0 (keepR s C i d).1 ∧ Kd.R (Kd.int .i64) 2 w' w.heap.size (fun k_ => some k_ ≠ v0.ownBlock) v1 (keepR s C i d).2.1 ∧ Below w.heap.size w w' := by
  have huS := Try.underlying26
  have HR := Aside0.mk hr
  have HR1 := Aside0.mk hr1
  obtain ⟨kb, hbc⟩ := (Q.placeCode_ev s (C := C) hCl i d).rounds
  have HBC := Aside0.mk hbc
  clear hr hr1 hbc
  go_enter Try.func29, Try.ntmps29
  go_wp2_with fail
  have k0 : ((((w.alloc (.cells #[.slice A s.length c] 26)).alloc (.cells #[.int .i64 i] 2)).alloc (.cells #[.int .i64 d] 2)).alloc (.cells #[.slice none 0 0] 26)).heap[w.heap.size]? = some (.cells #[.slice A s.length c] 26 (0, 0)) := blk_alloc (blk_alloc (blk_alloc (blk_new _ _) _) _) _
  have k1 : ((((w.alloc (.cells #[.slice A s.length c] 26)).alloc (.cells #[.int .i64 i] 2)).alloc (.cells #[.int .i64 d] 2)).alloc (.cells #[.slice none 0 0] 26)).heap[w.heap.size + 1]? = some (.cells #[.int .i64 i] 2 (0, 0)) := blk_alloc (blk_alloc (by simpa using blk_new (w.alloc (.cells #[.slice A s.length c] 26)) (.cells #[.int .i64 i] 2)) _) _
  have kd : ((((w.alloc (.cells #[.slice A s.length c] 26)).alloc (.cells #[.int .i64 i] 2)).alloc (.cells #[.int .i64 d] 2)).alloc (.cells #[.slice none 0 0] 26)).heap[w.heap.size + 1 + 1]? = some (.cells #[.int .i64 d] 2 (0, 0)) := blk_alloc (by simpa using blk_new ((w.alloc (.cells #[.slice A s.length c] 26)).alloc (.cells #[.int .i64 i] 2)) (.cells #[.int .i64 d] 2)) _
  have k2 : ((((w.alloc (.cells #[.slice A s.length c] 26)).alloc (.cells #[.int .i64 i] 2)).alloc (.cells #[.int .i64 d] 2)).alloc (.cells #[.slice none 0 0] 26)).heap[w.heap.size + 1 + 1 + 1]? = some (.cells #[.slice none 0 0] 26 (0, 0)) := by simpa using blk_new (((w.alloc (.cells #[.slice A s.length c] 26)).alloc (.cells #[.int .i64 i] 2)).alloc (.cells #[.int .i64 d] 2)) (.cells #[.slice none 0 0] 26)
  have hB : Below w.heap.size w ((((w.alloc (.cells #[.slice A s.length c] 26)).alloc (.cells #[.int .i64 i] 2)).alloc (.cells #[.int .i64 d] 2)).alloc (.cells #[.slice none 0 0] 26)) := below_alloc (below_alloc (below_alloc ((Below.refl _ _).alloc (Nat.le_refl _) _) _) _) _
  refine (impl_placeCode.calls kb A c s A1 c1 C i d (Q.rPlace s C i d) _ (Kd.C_below HR.out hB) hc (Kd.C_below HR1.out hB) hc1 HBC.out).mono ?_
  rintro e w0 ⟨rfl, hb⟩
  have K0 := Aside0.mk (blk_below k0 hb)
  have K1 := Aside0.mk (blk_below k1 hb)
  have KD := Aside0.mk (blk_below kd hb)
  have K2 := Aside0.mk (blk_below k2 hb)
  have B1 := Aside0.mk (below_then hB hB.size hb)
  clear k0 k1 kd k2 hB hb
  obtain ⟨g, hg⟩ : ∃ g, g = w.heap.size := ⟨_, rfl⟩
  have HG := Aside0.mk hg
  rw [← hg] at K0 K1 KD K2 ⊢
  clear hg
  by_cases hz : Q.rPlace s C i d = 0
  · have HZ : Aside0 (keepR s C i d = (s.eraseIdx i.toNat, mappedL (outW s i.toNat) (keptW s i.toNat d C), 0)) := ⟨by unfold keepR; rw [if_pos hz]⟩
    obtain ⟨hcz, hp, _, hl1⟩ := Q.rPlace_zero hz
    obtain ⟨hs, hC, _⟩ := Q.rCode_zero hcz
    have HS := Aside0.mk hs
    have hsl := isSp_len hs
    have hsp := isSp_pos hs
    have h2 : 2 ≤ s.length := by omega
    have HCW : Aside0 (∀ x ∈ C, 0 ≤ x ∧ x ≤ 1024) := ⟨fun x hx => by have h1 := (isW_iff s x).1 (Q.isC_words hC x hx); have h2 := isSp_prd hs; omega⟩
    obtain ⟨n, rfl⟩ : ∃ n : Nat, i = (n : Int) := ⟨i.toNat, by omega⟩
    have hn : n < s.length := by omega
    rw [Int.toNat_natCast] at HZ
    rw [hz]
    clear hs hC hz HBC hcz hp hl1
    have hc0 : w0.cell? ⟨g, 0, none⟩ = some (.slice A s.length c) := blk_cell K0.out 0
    have hc1' : w0.cell? ⟨g + 1, 0, none⟩ = some (.int .i64 (n : Int)) := blk_cell K1.out 0
    go_wp2_with fail
    refine (withoutPlace_calls A c s n _ (Kd.C_below HR.out B1.out) hc hn hsl).mono ?_
    rintro e w1 ⟨v0, rfl, hR0, hb⟩
    obtain ⟨A3, c3, e3⟩ := Kd.R_slice hR0
    subst e3
    have hc3 := (Kd.R_reads' hR0).2.1
    have L0 := Aside0.mk (blk_below K0.out hb)
    have L1 := Aside0.mk (blk_below K1.out hb)
    have LD := Aside0.mk (blk_below KD.out hb)
    have L2 := Aside0.mk (blk_below K2.out hb)
    have R0 := Aside0.mk (Kd.R_lower hR0 B1.out.size)
    have B2 := Aside0.mk (below_then B1.out B1.out.size hb)
    clear hR0 hb hc0 hc1' K0 K1 KD K2 B1
    go_wp2_with fail
    have M0 := blk_alloc L0.out (.cells #[.slice A3 (s.eraseIdx n).length c3] 26)
    have M1 := blk_alloc L1.out (.cells #[.slice A3 (s.eraseIdx n).length c3] 26)
    have MD := Aside0.mk (blk_alloc LD.out (.cells #[.slice A3 (s.eraseIdx n).length c3] 26))
    have M2 := Aside0.mk (blk_alloc L2.out (.cells #[.slice A3 (s.eraseIdx n).length c3] 26))
    have M3 := blk_new w1 (.cells #[.slice A3 (s.eraseIdx n).length c3] 26)
    have B3 := Aside0.mk (below_alloc B2.out (.cells #[.slice A3 (s.eraseIdx n).length c3] 26))
    have R3 := Aside0.mk (Kd.R_alloc R0.out (.cells #[.slice A3 (s.eraseIdx n).length c3] 26))
    have hg1 : g + 1 + 1 + 1 ≠ w1.heap.size := by have := blk_lt L2.out; omega
    have HM0 := Aside0.mk M0
    have HM1 := Aside0.mk M1
    have HM3 := Aside0.mk M3
    clear L0 L1 LD L2 B2 R0 M0 M1 M3
    generalize w1.alloc (.cells #[.slice A3 (s.eraseIdx n).length c3] 26) = W at *
    generalize w1.heap.size = gx at *
    go_wp2_with fail
    refine (clone_calls A1 c1 C _ (Kd.C_below HR1.out B3.out) hc1 hCl).mono ?_
    rintro e w5 ⟨v5, rfl, hR5, hb5⟩
    obtain ⟨A5, c5, rfl⟩ := Kd.R_slice hR5
    have HO5 := Aside0.mk (Kd.own_of_R hR5)
    have HBS := Aside0.mk (Kd.R_base hR5)
    have N0 := Aside0.mk (blk_below HM0.out hb5)
    have N1 := Aside0.mk (blk_below HM1.out hb5)
    have ND := Aside0.mk (blk_below MD.out hb5)
    have N2 := Aside0.mk (blk_below M2.out hb5)
    have N3 := Aside0.mk (blk_below HM3.out hb5)
    have l0 := blk_lt HM0.out
    have l1 := blk_lt HM1.out
    have ld := blk_lt MD.out
    have l2 := blk_lt M2.out
    have l3 := blk_lt HM3.out
    have B5 := Aside0.mk (below_then B3.out B3.out.size hb5)
    have R5 := Aside0.mk (Kd.R_below (Kd.R_bound R3.out) hb5)
    have lW : w.heap.size ≤ W.heap.size := B3.out.size
    clear hR5 hb5 HM0 HM1 MD M2 HM3 R3 B3
    go_wp2_with fail
    refine («KeepSign$1».delete_calls (some ⟨g, 0, none⟩) (some ⟨g + 1, 0, none⟩) (some ⟨g + 1 + 1, 0, none⟩) (fun x => rd (dig8 s x) (n : Int) != d) W.heap.size A5 c5 C w5 HO5.out hCl ?hf).mono ?_
    case hf =>
      intro x X hx hgr
      have hBX := pw_below_grown B5.out _ B5.out.size hgr (fun k hk => by have := HBS.out k hk; omega)
      exact keep1_calls g (g + 1) (g + 1 + 1) n d A c s x X (Kd.C_below HR.out hBX) hc HS.out hn (HCW.out x hx).1 (HCW.out x hx).2 (blk_cell (blk_grown N0.out hgr (fun e => by have := HBS.out _ e.symm; omega)) 0) (blk_cell (blk_grown N1.out hgr (fun e => by have := HBS.out _ e.symm; omega)) 0) (blk_cell (blk_grown ND.out hgr (fun e => by have := HBS.out _ e.symm; omega)) 0)
    rintro e w6 ⟨v6, rfl, hR6, hg6⟩
    obtain ⟨A6, c6, rfl⟩ := Kd.R_slice hR6
    have HM0 := Aside0.mk (blk_grown N0.out hg6 (fun e => by have := HBS.out _ e.symm; omega))
    have HM1 := Aside0.mk (blk_grown N1.out hg6 (fun e => by have := HBS.out _ e.symm; omega))
    have M2 := Aside0.mk (blk_grown N2.out hg6 (fun e => by have := HBS.out _ e.symm; omega))
    have HM3 := Aside0.mk (blk_grown N3.out hg6 (fun e => by have := HBS.out _ e.symm; omega))
    have B3 := Aside0.mk (pw_below_grown B5.out _ B5.out.size hg6 (fun k hk => by have := HBS.out k hk; omega))
    have R3 := Aside0.mk (Kd.R_mono (Kd.R_grown R5.out hg6 (fun k hk e => by have := HBS.out _ e.symm; have := hk.2.2.1; omega)) (fun _ _ => trivial) : Kd.R (Kd.int .i64) 2 w6 w.heap.size (fun _ => True) (.slice A3 (s.eraseIdx n).length c3) (s.eraseIdx n))
    have hKE : (C.filter fun x => !(rd (dig8 s x) (n : Int) != d)) = keptW s n d C := rfl
    rw [hKE] at hR6 ⊢
    clear hKE
    have hKL : (keptW s n d C).length ≤ 1048576 := Nat.le_trans (List.length_filter_le _ _) hCl
    have HKM : Aside0 (∀ x ∈ keptW s n d C, x ∈ C) := ⟨fun x hx => (List.mem_filter.1 hx).1⟩
    have hrd6 := Kd.R_reads' hR6
    have HR6 := Aside0.mk hrd6.2.2
    have hc6 := hrd6.2.1
    clear N0 N1 ND N2 N3 B5 R5 HO5 HBS hg6 hR6 hrd6
    generalize keptW s n d C = KC at *
    have c3' := blk_cell HM3.out 0
    go_wp2_with fail
    have HF : Aside0 (∀ (x : Int) (X : World), x ∈ KC → Below w6.drew.heap.size w6.drew X → Calls Try.prog 74 #[.int .i64 x, .pointer (some ⟨gx, 0, none⟩), .pointer (some ⟨g, 0, none⟩), .pointer (some ⟨g + 1, 0, none⟩)] X fun e w' => e = .returned (.int .i64 (outW s n x)) ∧ Below X.heap.size X w') := ⟨fun x X hx hX => by
      have hBX := below_then (below_drew B3.out) (below_drew B3.out).size hX
      exact «KeepSign$2».out_calls gx g (g + 1) n A3 c3 A c s x X (Kd.C_below (Kd.C_below (Kd.R_reads' R3.out).2.2 (below_drew (Below.refl _ _))) hX) hc3 (Kd.C_below HR.out hBX) hc HS.out h2 hn (HCW.out x (HKM.out x hx)).1 (HCW.out x (HKM.out x hx)).2 (pw_cell_below hX (blk_cell (blk_drew HM3.out) 0)) (pw_cell_below hX (blk_cell (blk_drew HM0.out) 0)) (pw_cell_below hX (blk_cell (blk_drew HM1.out) 0))⟩
    clear HM0 HM1
    go_region_held3 (fun w' => w'.cell? ⟨gx, 0, none⟩ = some (.slice A3 (s.eraseIdx n).length c3))
      (first | exact c3' | exact pw_cell_below hb c3' | exact (cell_far (p := ⟨g + 1 + 1 + 1, _, none⟩) hg1.symm _).trans (pw_cell_below hb c3'))
      (first | (go_at_call 45; refine («KeepSign$2».mapped_calls (some ⟨gx, 0, none⟩) (some ⟨g, 0, none⟩) (some ⟨g + 1, 0, none⟩) (outW s n) A6 c6 KC _ (Kd.C_below HR6.out (below_drew (Below.refl _ _))) hc6 hKL HF.out).mono ?_; rintro e w4 ⟨v4, rfl, hO, hb⟩; obtain ⟨A4, c4, e4⟩ := Kd.R_slice hO; subst e4; have hK2 := blk_below (blk_drew M2.out) hb; have hk2 := blk_cell hK2 0; have hf2 := blk_frozen hK2 0; have HK2 := Aside0.mk hK2; clear hK2))
    obtain ⟨P0, P1⟩ := rows_apart (Kd.R_drew R3.out) hO hb (below_drew B3.out).size
    have hB5 := below_then (below_drew B3.out) (below_drew B3.out).size hb
    have hG2 : w.heap.size ≤ g + 1 + 1 + 1 := by have := HG.out; omega
    have Q0 := Aside0.mk (Kd.R_mono (Kd.R_far (p := ⟨g + 1 + 1 + 1, 0, none⟩) (Kd.R_types P0 HK2.out (by decide)) (fun _ hk => hk.2) (.slice A3 (s.eraseIdx n).length c3)) (fun _ hk => hk.1))
    have Q1 := Aside0.mk (Kd.R_mono (Kd.R_far (p := ⟨g + 1 + 1 + 1, 0, none⟩) (Kd.R_types P1 HK2.out (by decide)) (fun _ hk => hk.2) (.slice A3 (s.eraseIdx n).length c3)) (fun _ hk => hk.1))
    have KX := Aside0.mk (blk_put (cs := #[.slice none 0 0]) (cs' := #[.slice A3 (s.eraseIdx n).length c3]) HK2.out 0 (.slice A3 (s.eraseIdx n).length c3) rfl)
    have BX := Aside0.mk (below_set (j := 0) (v := .slice A3 (s.eraseIdx n).length c3) hB5 hG2)
    clear P0 P1 hB5 hO hb hk2 hf2 HK2
    go_wp2
    refine bodyPost_ret (results_ctt rfl _ _ (g + 1 + 1 + 1) 26 #[.slice A3 (s.eraseIdx n).length c3] (0, 0) _ rfl KX.out huS rfl (by kernel_rfl)) rfl ?_
    rw [HZ.out]
    exact ⟨_, _, rfl, Q0.out, Q1.out, BX.out⟩
  · have HZ : Aside0 (keepR s C i d = ([], [], Q.rPlace s C i d)) := ⟨by unfold keepR; rw [if_neg hz]⟩
    clear HBC
    generalize Q.rPlace s C i d = z at *
    have hk2 : w0.cell? ⟨g + 1 + 1 + 1, 0, none⟩ = some (.slice none 0 0) := blk_cell K2.out 0
    have hf2 := blk_frozen K2.out 0
    have KX := Aside0.mk (blk_put (cs := #[.slice none 0 0]) (cs' := #[.slice none 0 0]) K2.out 0 (.slice none 0 0) rfl)
    have BX := Aside0.mk (below_set (g := g + 1 + 1 + 1) (j := 0) (v := .slice none 0 0) B1.out (by have := HG.out; omega))
    go_wp2
    refine bodyPost_ret (results_ctt rfl _ _ (g + 1 + 1 + 1) 26 #[.slice none 0 0] (0, 0) _ rfl KX.out huS rfl (by kernel_rfl)) rfl ?_
    rw [HZ.out]
    exact ⟨_, _, rfl, Kd.R_nil _ _ _ _ _, Kd.R_nil _ _ _ _ _, BX.out⟩

/-- What the program's KeepSign returns. -/
def impl_KeepSign.f (l0_0 l1 : List Int) (a2 a3 : Int) : Option (List Int × List Int × Int) := if l1.length ≤ 1048576 then some (keepR l0_0 l1 a2 a3) else none

theorem impl_KeepSign.calls (A0_0 : Option Addr) (c0_0 : Nat) (l0_0 : List Int) (A1 : Option Addr) (c1 : Nat) (l1 : List Int) (a2 : Int) (a3 : Int) (r1 : List Int) (r2 : List Int) (r3 : Int) (w : World) (hr0_0 : Kd.C (Kd.int .i64) w A0_0 l0_0.length l0_0) (hc0_0 : l0_0.length ≤ c0_0) (hr1 : Kd.C (Kd.int .i64) w A1 l1.length l1) (hc1 : l1.length ≤ c1) (h : impl_KeepSign.f l0_0 l1 a2 a3 = some (r1, r2, r3)) :
    Calls Try.prog 29 #[.agg #[.slice A0_0 l0_0.length c0_0], .slice A1 l1.length c1, .int .i64 a2, .int .i64 a3] w fun e w' => ∃ v0_ v1_ : Value, e = .returned (.tuple #[.agg #[v0_], v1_, .int .i64 r3]) ∧ Kd.R (Kd.int .i64) 2 w' w.heap.size (fun k_ => some k_ ≠ (v1_ : Value).ownBlock) v0_ r1 ∧ Kd.R (Kd.int .i64) 2 w' w.heap.size (fun k_ => some k_ ≠ (v0_ : Value).ownBlock) v1_ r2 ∧ Below w.heap.size w w' := by
  unfold impl_KeepSign.f at h
  split at h
  · rename_i hl
    have h2 := Option.some.inj h
    have e1 : (keepR l0_0 l1 a2 a3).1 = r1 := by rw [h2]
    have e2 : (keepR l0_0 l1 a2 a3).2.1 = r2 := by rw [h2]
    have e3 : (keepR l0_0 l1 a2 a3).2.2 = r3 := by rw [h2]
    subst e1 e2 e3
    exact keepSign_calls A0_0 c0_0 l0_0 A1 c1 l1 a2 a3 w hr0_0 hc0_0 hr1 hc1 hl
  · cases h
end Go.Proofs.Ytbhgnphdhkmliaa.P
