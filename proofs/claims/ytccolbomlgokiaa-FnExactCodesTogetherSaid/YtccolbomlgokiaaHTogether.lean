/- The words of two codes together: what the program's CodesTogether returns. -/
import Derived.Test.YtccolbomlgokiaaHMapped
import Derived.Test.YtccolbomlgokiaaHConcat
import Derived.Test.YtccolbomlgokiaaQGiven
import Derived.Test.YtccolbomlgokiaaFimplbothCode
set_option linter.unusedVariables false
set_option linter.unusedSimpArgs false
namespace Go.Proofs.Ytccolbomlgokiaa.P
open Go.RowKit Go.Proofs.YtccolbomlgokiaaW.PrintWords Go.Proofs.YtccolbomlgokiaaW.PrintLast Go.Proofs.YtccolbomlgokiaaW.PrintMore CC

set_option maxHeartbeats 400000 in
set_option maxRecDepth 100000 in
theorem together1_calls (x : Int) (w : World) :
    Calls Try.prog 39 #[.int .i64 x] w fun e w' => e = .returned (.int .i64 ((fun x => x) x)) ∧ Below w.heap.size w w' := by
  go_enter Try.func39, Try.ntmps39
  go_wp2
  go_ret
  exact ⟨rfl, Below.refl _ _⟩

def rTwo (s C D : List Int) : Int := if Q.rCode s C [] = 0 then Q.rCode s D [] else Q.rCode s C []
theorem bothCode_ev (s : List Int) {C D : List Int} (hC : C.length ≤ 1048576) (hD : D.length ≤ 1048576) : Ev (fun k => impl_bothCode.f k s C D) (rTwo s C D) := by
  unfold impl_bothCode.f rTwo
  refine Ev.bind (Q.codeCode_ev s hC (by decide)) ?_
  by_cases h : Q.rCode s C [] = 0
  · simp only [if_pos h]
    exact Ev.bind (Q.codeCode_ev s hD (by decide)) (Ev.now _)
  · simp only [if_neg h]
    exact Ev.now _
def togetherR (s C D : List Int) : List Int × Int := if rTwo s C D = 0 then (mappedL (fun x => x) (C ++ D), 0) else ([], rTwo s C D)
theorem rTwo_zero {s C D : List Int} (h : rTwo s C D = 0) : isSp s = true ∧ isC s C = true ∧ isC s D = true := by
  unfold rTwo at h
  split at h
  · rename_i h1
    have a := Q.rCode_zero h1
    have b := Q.rCode_zero h
    exact ⟨a.1, a.2.1, b.2.1⟩
  · rename_i h1
    exact absurd h h1

set_option maxHeartbeats 800000 in
set_option maxRecDepth 100000 in
theorem together_calls (A : Option Addr) (c : Nat) (s : List Int) (A1 : Option Addr) (c1 : Nat) (C : List Int) (A2 : Option Addr) (c2 : Nat) (D : List Int) (w : World) (hr : Kd.C (Kd.int .i64) w A s.length s) (hc : s.length ≤ c) (hr1 : Kd.C (Kd.int .i64) w A1 C.length C) (hc1 : C.length ≤ c1) (hCl : C.length ≤ 1048576) (hr2 : Kd.C (Kd.int .i64) w A2 D.length D) (hc2 : D.length ≤ c2) (hDl : D.length ≤ 1048576) :
    Calls Try.prog 19 #[.agg #[.slice A s.length c], .slice A1 C.length c1, .slice A2 D.length c2] w
      fun e w' => ∃ v, e = .returned (.tuple #[v, .int .i64 (togetherR s C D).2]) ∧ Kd.R (Kd.int .i64) 2 w' w.heap.size (fun _ => True) v (togetherR s C D).1 ∧ Below w.heap.size w w' := by
  have huS := Try.underlying28
  have HR := Aside0.mk hr
  have HR1 := Aside0.mk hr1
  have HR2 := Aside0.mk hr2
  obtain ⟨kb, hbc⟩ := (bothCode_ev s hCl hDl).rounds
  have HBC := Aside0.mk hbc
  clear hr hr1 hr2 hbc
  go_enter Try.func19, Try.ntmps19
  go_wp2_with fail
  have hcell : (w.alloc (.cells #[.slice A s.length c] 28)).heap[w.heap.size]? = some (.cells #[.slice A s.length c] 28 (0, 0)) := blk_new _ _
  have hB : Below w.heap.size w (w.alloc (.cells #[.slice A s.length c] 28)) := (Below.refl _ _).alloc (Nat.le_refl _) _
  refine (impl_bothCode.calls kb A c s A1 c1 C A2 c2 D (rTwo s C D) _ (Kd.C_below HR.out hB) hc (Kd.C_below HR1.out hB) hc1 (Kd.C_below HR2.out hB) hc2 HBC.out).mono ?_
  rintro e w0 ⟨rfl, hb⟩
  have B1 := Aside0.mk (below_then hB hB.size hb)
  clear hcell hB hb
  by_cases hz : rTwo s C D = 0
  · have HZ : Aside0 (togetherR s C D = (mappedL (fun x => x) (C ++ D), 0)) := ⟨by unfold togetherR; rw [if_pos hz]⟩
    obtain ⟨hs, hC, hD⟩ := rTwo_zero hz
    have hl1 := Q.isC_len hs hC
    have hl2 := Q.isC_len hs hD
    rw [hz]
    clear hs hC hD hz HBC
    go_wp2_with fail
    have K := blk_new w0 (.cells #[.slice A1 C.length c1, .slice A2 D.length c2] 22)
    have B2 := Aside0.mk (below_alloc B1.out (.cells #[.slice A1 C.length c1, .slice A2 D.length c2] 22))
    refine (concat_calls w0.heap.size A1 c1 C A2 c2 D _ (Kd.C_below HR1.out B2.out) hc1 hCl (Kd.C_below HR2.out B2.out) hc2 hDl (blk_cell K 0) (blk_cell K 1)).mono ?_
    rintro e w2 ⟨v2, rfl, hR, hb⟩
    obtain ⟨A3, c3, rfl⟩ := Kd.R_slice hR
    have hRC := Kd.R_reads' hR
    have HC3 := Aside0.mk hRC.2.2
    have hc3 := hRC.2.1
    have B3 := Aside0.mk (below_then B2.out B2.out.size hb)
    clear K hR hb hRC
    go_wp2_with fail
    have hm := «CodesTogether$1».mapped_calls (fun x => x) A3 c3 (C ++ D) w2 HC3.out hc3 (by rw [List.length_append]; omega) (fun x W hx hW => together1_calls x W)
    rw [List.length_append] at hm
    refine hm.mono ?_
    clear hm
    rintro e w3 ⟨v3, rfl, hR, hb⟩
    have R3 := Aside0.mk (Kd.R_lower hR B3.out.size)
    have B5 := Aside0.mk (below_then B3.out B3.out.size hb)
    clear hR hb
    go_wp2
    go_ret2
    rw [HZ.out]
    exact ⟨_, rfl, R3.out, B5.out⟩
  · have HZ : Aside0 (togetherR s C D = ([], rTwo s C D)) := ⟨by unfold togetherR; rw [if_neg hz]⟩
    clear HBC
    generalize rTwo s C D = z at *
    go_wp2
    go_ret2
    rw [HZ.out]
    exact ⟨_, rfl, Kd.R_nil _ _ _ _ _, B1.out⟩

/-- What the program's CodesTogether returns. -/
def impl_CodesTogether.f (l0_0 l1 l2 : List Int) : Option (List Int × Int) := if l1.length ≤ 1048576 ∧ l2.length ≤ 1048576 then some (togetherR l0_0 l1 l2) else none

theorem impl_CodesTogether.calls (A0_0 : Option Addr) (c0_0 : Nat) (l0_0 : List Int) (A1 : Option Addr) (c1 : Nat) (l1 : List Int) (A2 : Option Addr) (c2 : Nat) (l2 : List Int) (r1 : List Int) (r2 : Int) (w : World) (hr0_0 : Kd.C (Kd.int .i64) w A0_0 l0_0.length l0_0) (hc0_0 : l0_0.length ≤ c0_0) (hr1 : Kd.C (Kd.int .i64) w A1 l1.length l1) (hc1 : l1.length ≤ c1) (hr2 : Kd.C (Kd.int .i64) w A2 l2.length l2) (hc2 : l2.length ≤ c2) (h : impl_CodesTogether.f l0_0 l1 l2 = some (r1, r2)) :
    Calls Try.prog 19 #[.agg #[.slice A0_0 l0_0.length c0_0], .slice A1 l1.length c1, .slice A2 l2.length c2] w fun e w' => ∃ v0_ : Value, e = .returned (.tuple #[v0_, .int .i64 r2]) ∧ Kd.R (Kd.int .i64) 2 w' w.heap.size (fun _ => True) v0_ r1 ∧ Below w.heap.size w w' := by
  unfold impl_CodesTogether.f at h
  split at h
  · rename_i hl
    have h2 := Option.some.inj h
    have e1 : (togetherR l0_0 l1 l2).1 = r1 := by rw [h2]
    have e2 : (togetherR l0_0 l1 l2).2 = r2 := by rw [h2]
    subst e1 e2
    exact together_calls A0_0 c0_0 l0_0 A1 c1 l1 A2 c2 l2 w hr0_0 hc0_0 hr1 hc1 hl.1 hr2 hc2 hl.2
  · cases h
end Go.Proofs.Ytccolbomlgokiaa.P
