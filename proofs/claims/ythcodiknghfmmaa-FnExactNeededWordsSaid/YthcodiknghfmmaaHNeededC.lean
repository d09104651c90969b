/- Is a word not needed? What the function that NeededWords hands on returns. -/
import Derived.Test.YthcodiknghfmmaaHNeeded
set_option linter.unusedVariables false
set_option linter.unusedSimpArgs false
namespace Go.Proofs.Ythcodiknghfmmaa.P
open Go.RowKit Go.Proofs.YthcodiknghfmmaaW.PrintWords Go.Proofs.YthcodiknghfmmaaW.PrintLast Go.Proofs.YthcodiknghfmmaaW.PrintMore CC

set_option maxHeartbeats 1000000 in
set_option maxRecDepth 100000 in
theorem neededW_closure (s T : List Int) (P g cap b ga gb gr : Nat) (A1 : Option Addr) (c1 : Nat) (x r : Int) (w : World) (hD : w.ownsRow b 52 8 (.slice (some ⟨g, 0, none⟩) P cap) P (flat8 (all8 s P))) (hcap : P ≤ cap) (hr1 : Kd.C (Kd.int .i64) w A1 T.length T) (hc1 : T.length ≤ c1) (hT : T.length = P) (hP : P ≤ 1024) (h0 : 0 ≤ x) (h1 : x < P)
    (ka : w.cell? ⟨ga, 0, none⟩ = some (.slice (some ⟨g, 0, none⟩) P cap)) (kb : w.cell? ⟨gb, 0, none⟩ = some (.slice A1 T.length c1)) (kr : w.cell? ⟨gr, 0, none⟩ = some (.int .i64 r)) :
    Calls Try.prog 64 #[.int .i64 x, .pointer (some ⟨ga, 0, none⟩), .pointer (some ⟨gb, 0, none⟩), .pointer (some ⟨gr, 0, none⟩)] w
      fun e w' => e = .returned (.bool (!needQ s T x r 0 P)) ∧ Below w.heap.size w w' := by
  have HC := Aside0.mk hr1
  have HD := Aside0.mk hD
  clear hr1 hD
  go_enter Try.func64, Try.ntmps64
  go_wp2_with fail
  have hN := needed_calls s T P g cap b A1 c1 x r w HD.out hcap HC.out hc1 hT hP h0 h1
  rw [hT] at hN
  refine hN.mono ?_
  clear hN
  rintro e w2 ⟨rfl, hb⟩
  have HB := Aside0.mk hb
  clear hb
  cases hq : needQ s T x r 0 P with
  | false =>
    go_wp2
    go_ret
    exact ⟨by rw [hq]; rfl, HB.out⟩
  | true =>
    go_wp2
    go_ret
    exact ⟨by rw [hq]; rfl, HB.out⟩

end Go.Proofs.Ythcodiknghfmmaa.P
