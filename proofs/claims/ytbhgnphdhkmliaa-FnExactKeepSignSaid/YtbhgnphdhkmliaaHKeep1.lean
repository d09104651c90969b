/- Is the sign at a place another? What the function that the program's KeepSign hands to the library returns. -/
import Derived.Test.YtbhgnphdhkmliaaHAdd1
import Derived.Test.YtbhgnphdhkmliaaHDig
import Derived.Test.YtbhgnphdhkmliaaQBase
import Derived.IntWalk
set_option linter.unusedVariables false
set_option linter.unusedSimpArgs false
namespace Go.Proofs.Ytbhgnphdhkmliaa.P
open Go.RowKit Go.Proofs.YtbhgnphdhkmliaaW.PrintWords Go.Proofs.YtbhgnphdhkmliaaW.PrintLast Go.Proofs.YtbhgnphdhkmliaaW.PrintMore CC

set_option maxHeartbeats 4000000 in
set_option maxRecDepth 100000 in
theorem keep1_calls (gs gi gd n : Nat) (d : Int) (A : Option Addr) (c : Nat) (s : List Int) (x : Int) (w : World) (hr : Kd.C (Kd.int .i64) w A s.length s) (hc : s.length ≤ c) (hs : isSp s = true) (hn : n < s.length) (h0 : 0 ≤ x) (h1 : x ≤ 1024)
    (ks : w.cell? ⟨gs, 0, none⟩ = some (.slice A s.length c)) (ki : w.cell? ⟨gi, 0, none⟩ = some (.int .i64 (n : Int))) (kd : w.cell? ⟨gd, 0, none⟩ = some (.int .i64 d)) :
    Calls Try.prog 73 #[.int .i64 x, .pointer (some ⟨gs, 0, none⟩), .pointer (some ⟨gi, 0, none⟩), .pointer (some ⟨gd, 0, none⟩)] w
      fun e w' => e = .returned (.bool (rd (dig8 s x) (n : Int) != d)) ∧ Below w.heap.size w w' := by
  have huS := Try.underlying26
  have huD := Try.underlying60
  have HR := Aside0.mk hr
  have HS := Aside0.mk hs
  have hsl := isSp_len hs
  have hn8 : n < 8 := by omega
  have E8 := Aside0.mk (dig8_length s x)
  obtain ⟨z0, z3⟩ := dig8_small hs x n hn8
  have hi := fun W => idx_rd E8.out hn8 W
  clear hr hs
  go_enter Try.func73, Try.ntmps73
  go_wp2_with fail
  have hB : Below w.heap.size w w := Below.refl _ _
  have hd8 : dloop s s.length x (List.replicate 8 0) = dig8 s x := rfl
  have HD8 := Aside0.mk hd8
  have HXX : Aside0 (∀ z, rd (dig8 s x) (n : Int) = z → rd (dig8 s x) (n : Int) = z) := ⟨fun _ h => h⟩
  clear hd8
  obtain ⟨z, hz⟩ : ∃ z, z = rd (dig8 s x) (n : Int) := ⟨_, rfl⟩
  rw [← hz] at z0 z3 hi
  have HZ := Aside0.mk hz
  clear hz
  obtain ⟨e8, he8⟩ : ∃ e8, e8 = arr8 (dig8 s x) := ⟨_, rfl⟩
  rw [← he8] at hi
  have HE8 := Aside0.mk he8
  clear he8
  have ew : IntKind.i64.wrap z = z := IntWalk.i64_in _ (by omega)
  go_region_held3 (fun w' => w'.cell? ⟨gs, 0, none⟩ = some (.slice A s.length c) ∧ w'.cell? ⟨gi, 0, none⟩ = some (.int .i64 (n : Int)) ∧ w'.cell? ⟨gd, 0, none⟩ = some (.int .i64 d) ∧ Below w.heap.size w w') (first | exact ⟨ks, ki, kd, below_drew hB⟩ | assumption | exact (And.imp (pw_cell_below hb) (And.imp (pw_cell_below hb) (And.imp (pw_cell_below hb) (fun hS => below_then hS hS.size hb)))) (by assumption))
    (first
      | (go_at_call 47; refine (digitsOf_calls A c s _ _ ?k1 hc HS.out (by omega) (by omega)).mono ?_; (case k1 => exact Kd.C_below HR.out (by first | assumption | exact (by assumption : _ ∧ _ ∧ _ ∧ Below _ _ _).2.2.2)); rintro e w' ⟨rfl, hb⟩; rw [HD8.out, ← HE8.out]))
  all_goals
    obtain ⟨_, _, _, hBB⟩ := (by assumption : World.cell? _ ⟨gs, 0, none⟩ = some (Value.slice A s.length c) ∧ _)
    go_wp2
    go_ret
    exact ⟨by rw [← HZ.out]; rfl, hBB⟩
end Go.Proofs.Ytbhgnphdhkmliaa.P
