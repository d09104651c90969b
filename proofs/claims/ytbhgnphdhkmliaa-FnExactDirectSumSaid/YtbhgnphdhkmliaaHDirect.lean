/- The direct sum of two codes: what the program's DirectSum returns. -/
import Derived.Test.YtbhgnphdhkmliaaHConcat
import Derived.Test.YtbhgnphdhkmliaaHLimited
import Derived.Test.YtbhgnphdhkmliaaHPair
import Derived.Test.YtbhgnphdhkmliaaQGiven
import Derived.Test.YtbhgnphdhkmliaaFimpltwoCode
import Derived.FnLit
set_option linter.unusedVariables false
set_option linter.unusedSimpArgs false
namespace Go.Proofs.Ytbhgnphdhkmliaa.P
open Go.RowKit Go.Proofs.YtbhgnphdhkmliaaW.PrintWords Go.Proofs.YtbhgnphdhkmliaaW.PrintLast Go.Proofs.YtbhgnphdhkmliaaW.PrintMore CC

/-- The words of a direct sum. -/
def dsL (C D : List Int) (P : Int) : List Int := C.flatMap fun u => D.map fun x => u * P + x
/-- The words of a direct sum so far. -/
def dsP (C D : List Int) (P : Int) (i j : Nat) : List Int := dsL (C.take i) D P ++ (D.take j).map fun x => rd C (i : Int) * P + x
theorem dsP_nil (C D : List Int) (P : Int) (i : Nat) : dsP C D P i 0 = dsL (C.take i) D P := by simp [dsP]
theorem dsP_step {C D : List Int} (P : Int) {i j : Nat} (hj : j < D.length) : dsP C D P i (j + 1) = dsP C D P i j ++ [rd C (i : Int) * P + rd D (j : Int)] := by
  unfold dsP
  rw [take_rd8 hj, List.map_append, List.append_assoc]
  rfl
theorem dsP_row {C D : List Int} (P : Int) {i : Nat} (hi : i < C.length) : dsP C D P i D.length = dsP C D P (i + 1) 0 := by
  rw [dsP_nil]
  unfold dsP dsL
  rw [take_rd8 hi, List.flatMap_append, List.take_length]
  simp
theorem dsL_len (D : List Int) (P : Int) : ∀ C : List Int, (dsL C D P).length = C.length * D.length
  | [] => by simp [dsL]
  | u :: C => by
    have ih := dsL_len D P C
    unfold dsL at ih ⊢
    rw [List.flatMap_cons, List.length_append, List.length_map, ih, List.length_cons, Nat.succ_mul, Nat.add_comm]
theorem dsP_len {C D : List Int} (P : Int) {i j : Nat} (hi : i ≤ C.length) (hj : j ≤ D.length) (hC : C.length ≤ 1024) (hD : D.length ≤ 1024) : (dsP C D P i j).length ≤ 1048576 + 1024 := by
  unfold dsP
  rw [List.length_append, dsL_len, List.length_map, List.length_take, List.length_take]
  have : min i C.length * D.length ≤ 1024 * 1024 := Nat.mul_le_mul (by omega) hD
  omega
/-- The code of two spaces with codes. -/
def rTwoD (s C x D : List Int) : Int := if isSp s = true ∧ isSp x = true then if isC s C = true ∧ isC x D = true then 0 else 2 else 1
theorem rTwoD_zero {s C x D : List Int} (h : rTwoD s C x D = 0) : isSp s = true ∧ isSp x = true ∧ isC s C = true ∧ isC x D = true := by
  unfold rTwoD at h
  split at h
  · rename_i h1
    split at h
    · rename_i h2
      exact ⟨h1.1, h1.2, h2.1, h2.2⟩
    · cases h
  · cases h
theorem twoCode_ev (s x : List Int) {C D : List Int} (hc : C.length ≤ 1048576) (hd : D.length ≤ 1048576) : Ev (fun k => impl_twoCode.f k s C x D) (rTwoD s C x D) := by
  unfold impl_twoCode.f rTwoD
  refine Ev.bind (Q.isSpace_ev s) ?_
  by_cases hs : isSp s = true
  · refine Q.Ev.iff_pos hs ?_
    refine Ev.bind (Q.isSpace_ev x) ?_
    by_cases hx : isSp x = true
    · rw [if_pos ⟨hs, hx⟩, hx]
      refine Ev.step (fun k => by simp only [impl_twoCode.j0]; exact rfl) ?_
      refine Q.Ev.iff_neg (by simp) ?_
      refine Ev.bind (Q.isCode_ev hs hc) ?_
      by_cases h1 : isC s C = true
      · refine Q.Ev.iff_pos h1 ?_
        refine Ev.bind (Q.isCode_ev hx hd) ?_
        by_cases h2 : isC x D = true
        · rw [if_pos (show isC s C = true ∧ isC x D = true from ⟨h1, h2⟩)]
          exact Q.Ev.iff_pos h2 (Ev.now _)
        · rw [if_neg (show ¬ (isC s C = true ∧ isC x D = true) from fun z => h2 z.2)]
          exact Q.Ev.iff_neg h2 (Ev.now _)
      · rw [if_neg (show ¬ (isC s C = true ∧ isC x D = true) from fun z => h1 z.1)]
        exact Q.Ev.iff_neg h1 (Ev.now _)
    · rw [if_neg (fun z => hx z.2), Bool.eq_false_iff.2 hx]
      refine Ev.step (fun k => by simp only [impl_twoCode.j0]; exact rfl) ?_
      exact Q.Ev.iff_pos (by first | rfl | trivial | simp) (Ev.now _)
  · rw [if_neg (fun z => hs z.1)]
    refine Q.Ev.iff_neg hs ?_
    refine Ev.step (fun k => by simp only [impl_twoCode.j0]; exact rfl) ?_
    exact Q.Ev.iff_pos (by first | rfl | trivial | simp) (Ev.now _)
/-- What DirectSum answers. -/
def directR (s C x D : List Int) : List Int × List Int × Int :=
  if rTwoD s C x D = 0 then if isSp (s ++ x) = true then (s ++ x, dsL C D (prd x), 0) else ([], [], 3) else ([], [], rTwoD s C x D)

set_option maxHeartbeats 4000000 in
set_option maxRecDepth 100000 in
theorem directSum_calls (A : Option Addr) (c : Nat) (s : List Int) (A1 : Option Addr) (c1 : Nat) (C : List Int) (A2 : Option Addr) (c2 : Nat) (x : List Int) (A3 : Option Addr) (c3 : Nat) (D : List Int) (w : World) (hr : Kd.C (Kd.int .i64) w A s.length s) (hc : s.length ≤ c) (hr1 : Kd.C (Kd.int .i64) w A1 C.length C) (hc1 : C.length ≤ c1) (hCl : C.length ≤ 1048576)
    (hr2 : Kd.C (Kd.int .i64) w A2 x.length x) (hc2 : x.length ≤ c2) (hr3 : Kd.C (Kd.int .i64) w A3 D.length D) (hc3 : D.length ≤ c3) (hDl : D.length ≤ 1048576) :
    Calls Try.prog 13 #[.agg #[.slice A s.length c], .slice A1 C.length c1, .agg #[.slice A2 x.length c2], .slice A3 D.length c3] w
      fun e w' => ∃ v0 v1 : Value, e = .returned (.tuple #[.agg #[v0], v1, .int .i64 (directR s C x D).2.2]) ∧ Kd.R (Kd.int .i64) 2 w' w.heap.size (fun k_ => some k_ ≠ v1.ownBlock) v0 (directR s C x D).1 ∧ Kd.R (Kd.int .i64) 2 w' w.heap.size (fun k_ => some k_ ≠ v0.ownBlock) v1 (directR s C x D).2.1 ∧ Below w.heap.size w w' := by
  have huS := Try.underlying26
  have HR := Aside0.mk hr
  have HR1 := Aside0.mk hr1
  have HR2 := Aside0.mk hr2
  have HR3 := Aside0.mk hr3
  obtain ⟨kb, hbc⟩ := (twoCode_ev s x hCl hDl).rounds
  have HBC := Aside0.mk hbc
  clear hr hr1 hr2 hr3 hbc
  go_enter Try.func13, Try.ntmps13
  go_wp2_with fail
  have k0 : (((w.alloc (.cells #[.slice A s.length c] 26)).alloc (.cells #[.slice A2 x.length c2] 26)).alloc (.cells #[.slice none 0 0] 26)).heap[w.heap.size]? = some (.cells #[.slice A s.length c] 26 (0, 0)) := blk_alloc (blk_alloc (blk_new _ _) _) _
  have k1 : (((w.alloc (.cells #[.slice A s.length c] 26)).alloc (.cells #[.slice A2 x.length c2] 26)).alloc (.cells #[.slice none 0 0] 26)).heap[w.heap.size + 1]? = some (.cells #[.slice A2 x.length c2] 26 (0, 0)) := blk_alloc (by simpa using blk_new (w.alloc (.cells #[.slice A s.length c] 26)) (.cells #[.slice A2 x.length c2] 26)) _
  have k2 : (((w.alloc (.cells #[.slice A s.length c] 26)).alloc (.cells #[.slice A2 x.length c2] 26)).alloc (.cells #[.slice none 0 0] 26)).heap[w.heap.size + 1 + 1]? = some (.cells #[.slice none 0 0] 26 (0, 0)) := by simpa using blk_new ((w.alloc (.cells #[.slice A s.length c] 26)).alloc (.cells #[.slice A2 x.length c2] 26)) (.cells #[.slice none 0 0] 26)
  have hB : Below w.heap.size w (((w.alloc (.cells #[.slice A s.length c] 26)).alloc (.cells #[.slice A2 x.length c2] 26)).alloc (.cells #[.slice none 0 0] 26)) := below_alloc (below_alloc ((Below.refl _ _).alloc (Nat.le_refl _) _) _) _
  refine (impl_twoCode.calls kb A c s A1 c1 C A2 c2 x A3 c3 D (rTwoD s C x D) _ (Kd.C_below HR.out hB) hc (Kd.C_below HR1.out hB) hc1 (Kd.C_below HR2.out hB) hc2 (Kd.C_below HR3.out hB) hc3 HBC.out).mono ?_
  rintro e w0 ⟨rfl, hb⟩
  have K0 := Aside0.mk (blk_below k0 hb)
  have K1 := Aside0.mk (blk_below k1 hb)
  have K2 := Aside0.mk (blk_below k2 hb)
  have B1 := Aside0.mk (below_then hB hB.size hb)
  clear k0 k1 k2 hB hb
  obtain ⟨g, hg⟩ : ∃ g, g = w.heap.size := ⟨_, rfl⟩
  have HG := Aside0.mk hg
  rw [← hg] at K0 K1 K2 ⊢
  clear hg
  have hk2 : w0.cell? ⟨g + 1 + 1, 0, none⟩ = some (.slice none 0 0) := blk_cell K2.out 0
  have hf2 := blk_frozen K2.out 0
  have KE := Aside0.mk (blk_put (cs := #[.slice none 0 0]) (cs' := #[.slice none 0 0]) K2.out 0 (.slice none 0 0) rfl)
  have BE := Aside0.mk (below_set (g := g + 1 + 1) (j := 0) (v := .slice none 0 0) B1.out (by have := HG.out; omega))
  by_cases hz : rTwoD s C x D = 0
  · obtain ⟨hs, hx, hC, hD⟩ := rTwoD_zero hz
    have hsl := isSp_len hs
    have hxl := isSp_len hx
    have HX := Aside0.mk hx
    have hCn := Q.isC_len hs hC
    have hDn := Q.isC_len hx hD
    have HZ : Aside0 (directR s C x D = if isSp (s ++ x) = true then (s ++ x, dsL C D (prd x), 0) else ([], [], 3)) := ⟨by unfold directR; rw [if_pos hz]⟩
    have HCW : Aside0 (∀ n : Nat, n < C.length → 0 ≤ rd C (n : Int) ∧ rd C (n : Int) ≤ 1024) := ⟨fun n hn => by have h1 := (isW_iff s _).1 (Q.isC_rd hC hn); have h2 := isSp_prd hs; omega⟩
    have HDW : Aside0 (∀ n : Nat, n < D.length → 0 ≤ rd D (n : Int) ∧ rd D (n : Int) ≤ 1024) := ⟨fun n hn => by have h1 := (isW_iff x _).1 (Q.isC_rd hD hn); have h2 := isSp_prd hx; omega⟩
    rw [hz]
    obtain ⟨b, hb0⟩ : ∃ b, b = isSp (s ++ x) := ⟨_, rfl⟩
    have HBB := Aside0.mk hb0
    rw [← hb0] at HZ
    have HL9 : Aside0 ((s ++ x).length = s.length + x.length) := ⟨List.length_append⟩
    have hc0 : w0.cell? ⟨g, 0, none⟩ = some (.slice A s.length c) := blk_cell K0.out 0
    have hc1' : w0.cell? ⟨g + 1, 0, none⟩ = some (.slice A2 x.length c2) := blk_cell K1.out 0
    clear hs hx hC hD hz HBC hk2 hf2 KE BE hb0
    go_wp2_with fail
    have KB := blk_new w0 (.cells #[.slice A s.length c, .slice A2 x.length c2] 22)
    have BB := Aside0.mk (below_alloc B1.out (.cells #[.slice A s.length c, .slice A2 x.length c2] 22))
    have hBA : Below w0.heap.size w0 (w0.alloc (.cells #[.slice A s.length c, .slice A2 x.length c2] 22)) := (Below.refl _ _).alloc (Nat.le_refl _) _
    refine (concat_calls w0.heap.size A c s A2 c2 x _ (Kd.C_below HR.out BB.out) hc (by omega) (Kd.C_below HR2.out BB.out) hc2 (by omega) (blk_cell KB 0) (blk_cell KB 1)).mono ?_
    rintro e w1 ⟨v1, rfl, hR1, hb⟩
    obtain ⟨A5, c5, rfl⟩ := Kd.R_slice hR1
    have R1 := Aside0.mk (Kd.R_lower hR1 BB.out.size)
    have hB1 := below_then hBA hBA.size hb
    have L0 := Aside0.mk (blk_below K0.out hB1)
    have L1 := Aside0.mk (blk_below K1.out hB1)
    have L2 := Aside0.mk (blk_below K2.out hB1)
    have B2 := Aside0.mk (below_then BB.out BB.out.size hb)
    have hc5 := (Kd.R_reads' hR1).2.1
    clear KB BB hBA hR1 hb hB1 K0 K1 K2 B1 hc0 hc1'
    go_wp2_with fail
    have hlim := fun (W : World) (hW : Kd.C (Kd.int .i64) W A5 (s ++ x).length (s ++ x)) => limited_calls A5 c5 (s ++ x) W hW hc5 (by rw [HL9.out]; omega)
    rw [HL9.out, ← HBB.out] at hlim
    refine (hlim _ (by rw [← HL9.out]; exact (Kd.R_reads' R1.out).2.2)).mono ?_
    clear hlim
    rintro e w2 ⟨rfl, hb⟩
    have M0 := Aside0.mk (blk_below L0.out hb)
    have M1 := Aside0.mk (blk_below L1.out hb)
    have M2 := Aside0.mk (blk_below L2.out hb)
    have R2 := Kd.R_below R1.out hb
    rw [HL9.out] at R2
    have R2 := Aside0.mk R2
    have B3 := Aside0.mk (below_then B2.out B2.out.size hb)
    clear hb L0 L1 L2 R1 B2 hc5
    generalize s.length + x.length = ln at *
    have N0 := Aside0.mk (blk_alloc M0.out (.cells #[.slice A5 ln c5] 26))
    have N1 := Aside0.mk (blk_alloc M1.out (.cells #[.slice A5 ln c5] 26))
    have N2 := Aside0.mk (blk_alloc M2.out (.cells #[.slice A5 ln c5] 26))
    have N3 := Aside0.mk (blk_new w2 (.cells #[.slice A5 ln c5] 26))
    have B4 := Aside0.mk (below_alloc B3.out (.cells #[.slice A5 ln c5] 26))
    have R4 := Aside0.mk (Kd.R_alloc R2.out (.cells #[.slice A5 ln c5] 26))
    have hgx : g + 1 + 1 ≠ w2.heap.size := by have := blk_lt M2.out; omega
    have hG2 : w.heap.size ≤ g + 1 + 1 := by have := HG.out; omega
    have lW : w.heap.size ≤ w2.heap.size := B3.out.size
    clear M0 M1 M2 B3 R2
    cases b with
    | false =>
      have HZ2 : Aside0 (directR s C x D = ([], [], 3)) := ⟨HZ.out⟩
      have hk2 := blk_cell N2.out 0
      have hf2 := blk_frozen N2.out 0
      have KE := Aside0.mk (blk_put (cs := #[.slice none 0 0]) (cs' := #[.slice none 0 0]) N2.out 0 (.slice none 0 0) rfl)
      have BE := Aside0.mk (below_set (g := g + 1 + 1) (j := 0) (v := .slice none 0 0) B4.out hG2)
      clear HZ
      go_wp2
      refine bodyPost_ret (results_ctt rfl _ _ (g + 1 + 1) 26 #[.slice none 0 0] (0, 0) _ rfl KE.out huS rfl (by kernel_rfl)) rfl ?_
      rw [HZ2.out]
      exact ⟨_, _, rfl, Kd.R_nil _ _ _ _ _, Kd.R_nil _ _ _ _ _, BE.out⟩
    | true =>
      have HZ2 : Aside0 (directR s C x D = (s ++ x, dsL C D (prd x), 0)) := ⟨HZ.out⟩
      clear HZ
      go_wp2_with fail
      obtain ⟨kc, hkc⟩ := (Q.count_sp HX.out).rounds
      have HKC := Aside0.mk hkc
      clear hkc
      obtain ⟨P, hP⟩ : ∃ P, P = prd x := ⟨_, rfl⟩
      rw [← hP] at HKC HZ2
      have p0 := isSp_prd1 HX.out
      have p1 := isSp_prd HX.out
      rw [← hP] at p0 p1
      clear hP
      have hgV : (w2.alloc (.cells #[.slice A5 ln c5] 26)).heap.size = w2.heap.size + 1 := World.size_alloc _ _
      have HGV := Aside0.mk hgV
      generalize hV : w2.alloc (.cells #[.slice A5 ln c5] 26) = V at *
      clear hV
      generalize w2.heap.size = gx at *
      obtain ⟨i0, hi, hz0, hz1, hz2⟩ := info_parts infoI
      have HI := Aside0.mk (And.intro hi (And.intro hz0 (And.intro hz1 hz2)))
      clear hi hz0 hz1 hz2
      have hO : (V.alloc (.cells #[] 2)).ownsRow V.heap.size 2 1 (.slice (some ⟨gx + 1, 0, none⟩) 0 0) (dsP C D P 0 0).length (nums .i64 (dsP C D P 0 0)) :=
        ⟨rfl, .inr ⟨gx + 1, 0, #[], rfl, by omega, by rw [← hgV]; exact blk_new V (.cells #[] 2), by show 0 ≤ 0; omega, by unfold maxLen; omega, rfl, rfl⟩⟩
      have hBV : Below V.heap.size V (V.alloc (.cells #[] 2)) := (Below.refl _ _).alloc (Nat.le_refl _) _
      have HO := Aside0.mk hO
      have HBV := Aside0.mk hBV
      clear hO hBV hgV
      go_loopw [14, 44] (fun v i W => ∃ (n : Nat) (vo : Value), n ≤ C.length ∧ vo = v ∧ i = .int .i64 n ∧ Aside0 (W.ownsRow V.heap.size 2 1 vo (dsP C D P n 0).length (nums .i64 (dsP C D P n 0))) ∧ Aside0 (Below V.heap.size V W)) (fun _ i _ => C.length - (intOf i).toNat)
      case atStart => exact ⟨0, _, by omega, rfl, rfl, HO, HBV⟩
      case round =>
        clear HO HBV
        obtain ⟨n, vo, hn, rfl, rfl, HO, HB⟩ := hrel
        by_cases hlt : n < C.length
        · obtain ⟨ad1, e1, _⟩ := Kd.at_int HR1.out (n : Int) (by omega) (by omega)
          subst e1
          have hxc := rd_cell HR1.out (below_then B4.out B4.out.size HB.out) n hlt
          obtain ⟨u0, u1⟩ := HCW.out n hlt
          have HRow := Aside0.mk (dsP_row (D := D) P hlt)
          have HUU : Aside0 (∀ z, rd C (n : Int) = z → rd C (n : Int) = z) := ⟨fun _ h => h⟩
          obtain ⟨u, hu⟩ : ∃ u, u = rd C (n : Int) := ⟨_, rfl⟩
          rw [← hu] at hxc u0 u1
          have HU := Aside0.mk hu
          clear hu HUU
          obtain ⟨wo, hwo⟩ : ∃ wo : World, wo = wr := ⟨_, rfl⟩
          go_wp2_with fail
          clear hxc
          go_loopw [14, 50] (fun v i W => ∃ (m : Nat) (vi : Value), m ≤ D.length ∧ vi = v ∧ i = .int .i64 m ∧ Aside0 (W.ownsRow V.heap.size 2 1 vi (dsP C D P n m).length (nums .i64 (dsP C D P n m))) ∧ Aside0 (Below V.heap.size V W)) (fun _ i _ => D.length - (intOf i).toNat)
          case atStart => exact ⟨0, _, by omega, rfl, rfl, HO, HB⟩
          case round =>
            clear HO HB
            obtain ⟨m, vi, hm, rfl, rfl, HO, HB⟩ := hrel
            by_cases hltm : m < D.length
            · obtain ⟨ad3, e3, _⟩ := Kd.at_int HR3.out (m : Int) (by omega) (by omega)
              subst e3
              have hxd := rd_cell HR3.out (below_then B4.out B4.out.size HB.out) m hltm
              obtain ⟨z0, z1⟩ := HDW.out m hltm
              have hxs := blk_cell (blk_below N1.out HB.out) 0
              have HStep : Aside0 (dsP C D P n (m + 1) = dsP C D P n m ++ [u * P + rd D (m : Int)]) := ⟨by rw [HU.out]; exact dsP_step P hltm⟩
              have hlen := dsP_len (C := C) (D := D) P (Nat.le_of_lt hlt) hm hCn hDn
              obtain ⟨z, hz⟩ : ∃ z, z = rd D (m : Int) := ⟨_, rfl⟩
              rw [← hz] at hxd z0 z1 HStep
              clear hz
              have hq0 : 0 ≤ u * P := Int.mul_nonneg u0 (by omega)
              have hq1 : u * P ≤ 1048576 := by
                have := Int.mul_le_mul u1 p1 (by omega) (by omega)
                omega
              go_wp2_with fail
              refine (impl_count.calls kc A2 c2 x P _ (Kd.C_below HR2.out (below_then B4.out B4.out.size HB.out)) hc2 HKC.out).mono ?_
              rintro e w3 ⟨rfl, hb2⟩
              have O2 := Aside0.mk (pw_own_below HO.out hb2)
              have B2 := Aside0.mk (below_then HB.out HB.out.size hb2)
              clear hb2 hxd hxs HO HB
              generalize dsP C D P n m = L at *
              go_wp2_with (at_builtin; obtain ⟨hi, hz0, hz1, hz2⟩ := HI.out; refine wpList_append_own _ rfl _ _ 22 rfl V.heap.size 2 i0 (.int .i64 0) 1 8 Try.underlying22 hi hz0 hz1 hz2 rfl (by decide) _ L.length (nums .i64 L) rfl (O2.out.alloc _) ⟨w3.heap.size, 0, none⟩ 1 1 [.int .i64 (u * P + z)] rfl ?c0 ?c1 ?c2 ?c3 ?c4 ?c5 ?_; clear hi hz0 hz1 hz2)
              case c0 => rfl
              case c1 =>
                intro j y hj
                have hb := blk_cell (blk_new w3 (.cells #[.int .i64 (u * P + z)] 2)) j
                rw [add_plain, hb]
                simpa using hj
              case c2 => intro y hy; simp only [List.mem_cons, List.not_mem_nil, or_false] at hy; rcases hy with rfl; rfl
              case c3 => unfold maxLen; omega
              case c4 => omega
              case c5 => have := B2.out.size; simp; omega
              intro v' w4 O3 G3 _
              have O4 : Aside0 (w4.ownsRow V.heap.size 2 1 v' (dsP C D P n (m + 1)).length (nums .i64 (dsP C D P n (m + 1)))) := ⟨by rw [HStep.out, List.length_append, nums_append]; exact O3⟩
              have B3 := Aside0.mk (pw_below_grown (below_alloc B2.out _) _ (by have := B2.out.size; simp; omega) G3 (fun k hk => own_base O2.out k hk))
              clear O3 G3 O2 B2
              go_wp2
              go_roundw
              case rel => exact ⟨m + 1, _, by omega, rfl, by go_num, O4, B3⟩
              case measure => simp [intOf]; omega
            · obtain rfl : m = D.length := by omega
              have O4 := HO.out
              rw [HRow.out] at O4
              have O4 := Aside0.mk O4
              go_wp2
              go_roundw
              case rel => exact ⟨n + 1, _, by omega, rfl, by go_num, O4, HB⟩
              case measure => simp [intOf]; omega
        · obtain rfl : n = C.length := by omega
          have O5 := HO.out
          have HDL : Aside0 (dsP C D P C.length 0 = dsL C D P) := ⟨by rw [dsP_nil, List.take_length]⟩
          rw [HDL.out] at O5
          have O5 := Aside0.mk O5
          have hBA : Below V.heap.size V wr := HB.out
          have hk2 := blk_cell (blk_below N2.out hBA) 0
          have hf2 := blk_frozen (blk_below N2.out hBA) 0
          have hk3 := blk_cell (blk_below N3.out hBA) 0
          have HK2 := Aside0.mk (blk_below N2.out hBA)
          have R5 : Kd.R (Kd.int .i64) 2 wr V.heap.size (fun _ => True) vo (dsL C D P) := Kd.R_of_own O5.out (fun _ _ => trivial)
          obtain ⟨P0, P1⟩ := rows_apart R4.out R5 hBA B4.out.size
          have hB5 := below_then B4.out B4.out.size hBA
          have Q0 := Aside0.mk (Kd.R_mono (Kd.R_far (p := ⟨g + 1 + 1, 0, none⟩) (Kd.R_types P0 HK2.out (by decide)) (fun _ hk => hk.2) (.slice A5 ln c5)) (fun _ hk => hk.1))
          have Q1 := Aside0.mk (Kd.R_mono (Kd.R_far (p := ⟨g + 1 + 1, 0, none⟩) (Kd.R_types P1 HK2.out (by decide)) (fun _ hk => hk.2) (.slice A5 ln c5)) (fun _ hk => hk.1))
          have KX := Aside0.mk (blk_put (cs := #[.slice none 0 0]) (cs' := #[.slice A5 ln c5]) HK2.out 0 (.slice A5 ln c5) rfl)
          have BX := Aside0.mk (below_set (j := 0) (v := .slice A5 ln c5) hB5 hG2)
          clear P0 P1 hB5 hBA R5 HK2 HO O5
          go_wp2
          refine bodyPost_ret (results_ctt rfl _ _ (g + 1 + 1) 26 #[.slice A5 ln c5] (0, 0) _ rfl KX.out huS rfl (by kernel_rfl)) rfl ?_
          rw [HZ2.out]
          exact ⟨_, _, rfl, Q0.out, Q1.out, BX.out⟩
  · have HZ : Aside0 (directR s C x D = ([], [], rTwoD s C x D)) := ⟨by unfold directR; rw [if_neg hz]⟩
    clear HBC
    generalize rTwoD s C x D = z at *
    go_wp2
    refine bodyPost_ret (results_ctt rfl _ _ (g + 1 + 1) 26 #[.slice none 0 0] (0, 0) _ rfl KE.out huS rfl (by kernel_rfl)) rfl ?_
    rw [HZ.out]
    exact ⟨_, _, rfl, Kd.R_nil _ _ _ _ _, Kd.R_nil _ _ _ _ _, BE.out⟩
end Go.Proofs.Ytbhgnphdhkmliaa.P
