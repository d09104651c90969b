/- Two rows of one call, each in memory of its own. -/
import Derived.Test.YtbhgnphdhkmliaaHThose0
set_option linter.unusedVariables false
set_option linter.unusedSimpArgs false
namespace Go.Proofs.Ytbhgnphdhkmliaa.P
open Go.RowKit Go.Proofs.YtbhgnphdhkmliaaW.PrintWords Go.Proofs.YtbhgnphdhkmliaaW.PrintLast Go.Proofs.YtbhgnphdhkmliaaW.PrintMore CC

/-- Two rows of one call, each in memory of its own. -/
theorem rows_apart {W W' : World} {b : Nat} {v0 v1 : Value} {xs ys : List Int} (h0 : Kd.R (Kd.int .i64) 2 W b (fun _ => True) v0 xs) (h1 : Kd.R (Kd.int .i64) 2 W' W.heap.size (fun _ => True) v1 ys) (hb : Below W.heap.size W W') (hbW : b ≤ W.heap.size) :
    Kd.R (Kd.int .i64) 2 W' b (fun k_ => some k_ ≠ v1.ownBlock) v0 xs ∧ Kd.R (Kd.int .i64) 2 W' b (fun k_ => some k_ ≠ v0.ownBlock) v1 ys := by
  constructor
  · refine Kd.R_mono (Kd.R_below (Kd.R_bound h0) hb) (fun k hk e => ?_)
    have := own_base (Kd.own_of_R h1) k e.symm
    omega
  · refine Kd.R_mono (Kd.R_lower (Kd.R_bound h1) hbW) (fun k hk e => ?_)
    have h2 := (Kd.R_bound h0).1 k e.symm
    have := hk.2.1
    omega

end Go.Proofs.Ytbhgnphdhkmliaa.P
