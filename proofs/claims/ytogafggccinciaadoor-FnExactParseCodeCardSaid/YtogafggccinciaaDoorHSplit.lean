/- strings.Split at a comma, as the printed callers want it. -/
import Derived.Test.YtogafggccinciaaDoorF0
import Derived.Test.YtogafggccinciaaDoorShelfSplit
set_option linter.unusedVariables false
set_option linter.unusedSimpArgs false
namespace Go.Proofs.YtogafggccinciaaDoor.P
open Go.RowKit Go.Proofs.YtogafggccinciaaDoorW.PrintWords Go.Proofs.YtogafggccinciaaDoorW.PrintLast Go.Proofs.YtogafggccinciaaDoorW.PrintMore
def strings_Split.f (a0 a1 : ByteArray) : Option (List ByteArray) := if a1 = ⟨#[44]⟩ ∧ a0.size < 4294967281 then some (Go.Lib.splitB ⟨#[44]⟩ 0 (Go.Lib.countB a0 ⟨#[44]⟩) a0) else none
theorem strings_Split.calls (a0 a1 : ByteArray) (r : List ByteArray) (w : World) (h : strings_Split.f a0 a1 = some r) :
    Calls Tryd.prog 18 #[.string a0, .string a1] w fun e w' => ∃ v0_ : Value, e = .returned (v0_) ∧ Kd.R Kd.string 9 w' w.heap.size (fun _ => True) v0_ r ∧ Below w.heap.size w w' := by
  unfold strings_Split.f at h
  split at h
  · rename_i hc
    obtain ⟨rfl, hs⟩ := hc
    obtain rfl := Option.some.inj h
    refine (Tryd.strings_Split a0 w hs).mono ?_
    rintro e w' ⟨rfl, rfl⟩
    have hlen := Go.Lib.splitB_all ⟨#[44]⟩ (Nat.le_refl _) 0 _ a0 rfl
    have hle := Go.Lib.countB_le ⟨#[44]⟩ (Nat.le_refl _) a0.size a0 (Nat.le_refl _)
    refine ⟨_, rfl, ?_, below_alloc (Below.refl _ _) _⟩
    rw [← hlen]
    generalize Go.Lib.splitB ⟨#[44]⟩ 0 (Go.Lib.countB a0 ⟨#[44]⟩) a0 = xs at *
    refine Kd.R_of_own (enc := Value.string) ?_ (fun _ _ => trivial)
    have h2 := World.ownsRow_lit (base := w.heap.size) (e := 9) (size := 1) w (xs.map Value.string).toArray xs.length (Nat.le_refl _) (by unfold maxLen; omega) (by simp)
    simpa [encs] using h2
  · cases h
end Go.Proofs.YtogafggccinciaaDoor.P
