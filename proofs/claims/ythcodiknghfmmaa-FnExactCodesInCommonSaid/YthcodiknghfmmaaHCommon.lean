/- The words of both codes: what the program's CodesInCommon returns. -/
import Derived.Test.YthcodiknghfmmaaHDel
import Derived.Test.YthcodiknghfmmaaHClone
import Derived.Test.YthcodiknghfmmaaQMarks
import Derived.Test.YthcodiknghfmmaaFimplbothCode
set_option linter.unusedVariables false
set_option linter.unusedSimpArgs false
namespace Go.Proofs.Ythcodiknghfmmaa.P
open Q (mk mk_length mk_rd NW NW_eq NW_le)
open Go.RowKit Go.Proofs.YthcodiknghfmmaaW.PrintWords Go.Proofs.YthcodiknghfmmaaW.PrintLast Go.Proofs.YthcodiknghfmmaaW.PrintMore CC

set_option maxHeartbeats 1000000 in
set_option maxRecDepth 100000 in
theorem common1_calls (M : List Bool) (P g cap b ga : Nat) (x : Int) (w : World) (hM : Kd.R Kd.bool 4 w b (fun _ => True) (.slice (some ⟨g, 0, none⟩) P cap) M) (h0 : 0 ≤ x) (h1 : x < P) (hP : P ≤ 1024) (ka : w.cell? ⟨ga, 0, none⟩ = some (.slice (some ⟨g, 0, none⟩) P cap)) :
    Calls Try.prog 54 #[.int .i64 x, .pointer (some ⟨ga, 0, none⟩)] w
      fun e w' => e = .returned (.bool (!rdOf false M x)) ∧ Below w.heap.size w w' := by
  have hc := (Kd.R_celln false hM x h0 h1).1
  obtain ⟨n, rfl⟩ := Int.eq_ofNat_of_zero_le h0
  rw [Int.toNat_natCast] at hc
  generalize rdOf false M (n : Int) = v at *
  clear hM
  go_enter Try.func54, Try.ntmps54
  go_wp2
  go_ret
  exact ⟨rfl, Below.refl _ _⟩

def rTwo (s C D : List Int) : Int := if Q.rCode s C [] = 0 then Q.rCode s D [] else Q.rCode s C []
theorem bothCode_ev (s : List Int) {C D : List Int} (hC : C.length ≤ 1048576) (hD : D.length ≤ 1048576) : Ev (fun k => impl_bothCode.f k s C D) (rTwo s C D) := by
  unfold impl_bothCode.f rTwo
  refine Ev.bind (Q.codeCode_ev s hC (by decide)) ?_
  by_cases h : Q.rCode s C [] = 0
  · simp only [if_pos h]
    exact Ev.bind (Q.codeCode_ev s hD (by decide)) (Ev.now _)
  · simp only [if_neg h]
    exact Ev.now _
def commonR (s C D : List Int) : List Int × Int := if rTwo s C D = 0 then (C.filter (fun x => decide (x ∈ D)), 0) else ([], rTwo s C D)

theorem rTwo_zero {s C D : List Int} (h : rTwo s C D = 0) : isSp s = true ∧ isC s C = true ∧ isC s D = true := by
  unfold rTwo at h
  split at h
  · rename_i h1
    have a := Q.rCode_zero h1
    have b := Q.rCode_zero h
    exact ⟨a.1, a.2.1, b.2.1⟩
  · rename_i h1
    exact absurd h h1
theorem filter_mk {s C D : List Int} (hs : isSp s = true) (hC : isC s C = true) : (C.filter fun x => !(!rdOf false (mk D (NW s)) x)) = C.filter fun x => decide (x ∈ D) := by
  apply List.filter_congr
  intro x hx
  have hw := (isW_iff s x).1 (Q.isC_words hC x hx)
  obtain ⟨n, rfl⟩ := Int.eq_ofNat_of_zero_le hw.1
  rw [mk_rd D (show n < NW s by have := NW_eq hs; omega), Bool.not_not]
set_option maxHeartbeats 3000000 in
set_option maxRecDepth 100000 in
theorem common_calls (A : Option Addr) (c : Nat) (s : List Int) (A1 : Option Addr) (c1 : Nat) (C : List Int) (A2 : Option Addr) (c2 : Nat) (D : List Int) (w : World) (hr : Kd.C (Kd.int .i64) w A s.length s) (hc : s.length ≤ c) (hr1 : Kd.C (Kd.int .i64) w A1 C.length C) (hc1 : C.length ≤ c1) (hCl : C.length ≤ 1048576) (hr2 : Kd.C (Kd.int .i64) w A2 D.length D) (hc2 : D.length ≤ c2) (hDl : D.length ≤ 1048576) :
    Calls Try.prog 23 #[.agg #[.slice A s.length c], .slice A1 C.length c1, .slice A2 D.length c2] w
      fun e w' => ∃ v, e = .returned (.tuple #[v, .int .i64 (commonR s C D).2]) ∧ Kd.R (Kd.int .i64) 2 w' w.heap.size (fun _ => True) v (commonR s C D).1 ∧ Below w.heap.size w w' := by
  have huS := Try.underlying28
  have HR := Aside0.mk hr
  have HR1 := Aside0.mk hr1
  have HR2 := Aside0.mk hr2
  obtain ⟨kb, hbc⟩ := (bothCode_ev s hCl hDl).rounds
  have HBC := Aside0.mk hbc
  clear hr hr1 hr2 hbc
  go_enter Try.func23, Try.ntmps23
  go_wp2_with fail
  have hcell : (w.alloc (.cells #[.slice A s.length c] 28)).heap[w.heap.size]? = some (.cells #[.slice A s.length c] 28 (0, 0)) := blk_new _ _
  have hB : Below w.heap.size w (w.alloc (.cells #[.slice A s.length c] 28)) := (Below.refl _ _).alloc (Nat.le_refl _) _
  refine (impl_bothCode.calls kb A c s A1 c1 C A2 c2 D (rTwo s C D) _ (Kd.C_below HR.out hB) hc (Kd.C_below HR1.out hB) hc1 (Kd.C_below HR2.out hB) hc2 HBC.out).mono ?_
  rintro e w0 ⟨rfl, hb⟩
  have K1 := Aside0.mk (blk_below hcell hb)
  have B1 := Aside0.mk (below_then hB hB.size hb)
  clear hcell hB hb
  by_cases hz : rTwo s C D = 0
  · have HZ : Aside0 (commonR s C D = (C.filter (fun x => decide (x ∈ D)), 0)) := ⟨by unfold commonR; rw [if_pos hz]⟩
    obtain ⟨hs, hC, hD⟩ := rTwo_zero hz
    have HS := Aside0.mk hs
    have HF : Aside0 ((C.filter fun x => !(!rdOf false (mk D (NW s)) x)) = C.filter fun x => decide (x ∈ D)) := ⟨filter_mk hs hC⟩
    have hCw : ∀ x ∈ C, 0 ≤ x ∧ x < (NW s : Int) := fun x hx => by have := (isW_iff s x).1 (Q.isC_words hC x hx); rw [NW_eq hs]; exact this
    have HCW := Aside0.mk hCw
    have hN := NW_le hs
    have hN1 : 1 ≤ NW s := by have := NW_eq hs; have := isSp_prd1 hs; omega
    obtain ⟨km, hkm⟩ := (Q.marks_ev hs hD).rounds
    have HM := Aside0.mk hkm
    have hml := mk_length D (NW s)
    rw [hz]
    clear hs hC hD hCw hz HBC hkm
    generalize NW s = P at *
    generalize mk D P = M at *
    have hcz : w0.cell? ⟨w.heap.size, 0, none⟩ = some (.slice A s.length c) := blk_cell K1.out 0
    go_wp2_with fail
    refine (impl_marks.calls km A c s A2 c2 D M _ (Kd.C_below HR.out B1.out) hc (Kd.C_below HR2.out B1.out) hc2 HM.out).mono ?_
    rintro e w1 ⟨v1, rfl, hR, hb⟩
    obtain ⟨g, cap, e1, hb1, hl1, _⟩ := Kd.R_form hR (by omega)
    rw [hml] at e1
    subst e1
    have B2 := Aside0.mk (below_then B1.out B1.out.size hb)
    have R1 := Aside0.mk (Kd.R_alloc hR (.cells #[.slice (some ⟨g, 0, none⟩) P cap] 65))
    clear hR hb hcz hb1 hl1
    go_wp2_with fail
    have K9 := Aside0.mk (blk_new w1 (.cells #[.slice (some ⟨g, 0, none⟩) P cap] 65))
    have B3 := Aside0.mk (below_alloc B2.out (.cells #[.slice (some ⟨g, 0, none⟩) P cap] 65))
    refine (clone_calls A1 c1 C _ (Kd.C_below HR1.out B3.out) hc1 hCl).mono ?_
    rintro e w2 ⟨v2, rfl, hR, hb⟩
    obtain ⟨A3, c3, rfl⟩ := Kd.R_slice hR
    have R2 := Aside0.mk (Kd.R_elder R1.out hR hb)
    have K10 := Aside0.mk (blk_below K9.out hb)
    have HO := Aside0.mk (own_weaken (Kd.own_of_R hR) B3.out.size)
    have HBS := Aside0.mk (Kd.R_base hR)
    have B4 := Aside0.mk (below_then B3.out B3.out.size hb)
    have hb1 : w.heap.size ≤ w1.heap.size := B2.out.size
    clear hR hb
    go_wp2_with fail
    refine («CodesInCommon$1».delete_calls (some ⟨w1.heap.size, 0, none⟩) (fun x => !rdOf false M x) w.heap.size A3 c3 C w2 HO.out hCl ?hf).mono ?_
    case hf =>
      intro x W hx hg
      have hR3 := Kd.R_grown R2.out hg (fun k hk => hk.2)
      have hcell := blk_grown K10.out hg (fun e => by have := HBS.out _ e.symm; simp at this; omega)
      exact common1_calls M P g cap _ w1.heap.size x W (Kd.R_mono hR3 (fun _ _ => trivial)) (HCW.out x hx).1 (HCW.out x hx).2 hN (blk_cell hcell 0)
    rintro e w3 ⟨v3, rfl, hR, hg⟩
    have R3 := Aside0.mk hR
    have B5 := Aside0.mk (pw_below_grown B4.out _ B4.out.size hg (fun k hk => by have := HBS.out k hk; simp at this; omega))
    clear hR hg
    go_wp2
    go_ret2
    rw [HZ.out]
    refine ⟨_, rfl, ?_, B5.out⟩
    have := R3.out
    rw [HF.out] at this
    exact this
  · have HZ : Aside0 (commonR s C D = ([], rTwo s C D)) := ⟨by unfold commonR; rw [if_neg hz]⟩
    clear HBC
    generalize rTwo s C D = z at *
    go_wp2
    go_ret2
    rw [HZ.out]
    exact ⟨_, rfl, Kd.R_nil _ _ _ _ _, B1.out⟩

/-- What the program's CodesInCommon returns. -/
def impl_CodesInCommon.f (l0_0 l1 l2 : List Int) : Option (List Int × Int) := if l1.length ≤ 1048576 ∧ l2.length ≤ 1048576 then some (commonR l0_0 l1 l2) else none

theorem impl_CodesInCommon.calls (A0_0 : Option Addr) (c0_0 : Nat) (l0_0 : List Int) (A1 : Option Addr) (c1 : Nat) (l1 : List Int) (A2 : Option Addr) (c2 : Nat) (l2 : List Int) (r1 : List Int) (r2 : Int) (w : World) (hr0_0 : Kd.C (Kd.int .i64) w A0_0 l0_0.length l0_0) (hc0_0 : l0_0.length ≤ c0_0) (hr1 : Kd.C (Kd.int .i64) w A1 l1.length l1) (hc1 : l1.length ≤ c1) (hr2 : Kd.C (Kd.int .i64) w A2 l2.length l2) (hc2 : l2.length ≤ c2) (h : impl_CodesInCommon.f l0_0 l1 l2 = some (r1, r2)) :
    Calls Try.prog 23 #[.agg #[.slice A0_0 l0_0.length c0_0], .slice A1 l1.length c1, .slice A2 l2.length c2] w fun e w' => ∃ v0_ : Value, e = .returned (.tuple #[v0_, .int .i64 r2]) ∧ Kd.R (Kd.int .i64) 2 w' w.heap.size (fun _ => True) v0_ r1 ∧ Below w.heap.size w w' := by
  unfold impl_CodesInCommon.f at h
  split at h
  · rename_i hl
    have h2 := Option.some.inj h
    have e1 : (commonR l0_0 l1 l2).1 = r1 := by rw [h2]
    have e2 : (commonR l0_0 l1 l2).2 = r2 := by rw [h2]
    subst e1 e2
    exact common_calls A0_0 c0_0 l0_0 A1 c1 l1 A2 c2 l2 w hr0_0 hc0_0 hr1 hc1 hl.1 hr2 hc2 hl.2
  · cases h
end Go.Proofs.Ythcodiknghfmmaa.P
