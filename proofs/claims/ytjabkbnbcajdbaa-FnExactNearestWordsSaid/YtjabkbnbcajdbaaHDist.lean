/- The program's distance of two words. -/
import Derived.Test.YtjabkbnbcajdbaaHArr
set_option linter.unusedVariables false
set_option linter.unusedSimpArgs false
namespace Go.Proofs.Ytjabkbnbcajdbaa.P
open Go.RowKit Go.Proofs.YtjabkbnbcajdbaaW.PrintWords Go.Proofs.YtjabkbnbcajdbaaW.PrintLast Go.Proofs.YtjabkbnbcajdbaaW.PrintMore CC
set_option maxHeartbeats 4000000 in
set_option maxRecDepth 100000 in
theorem distance_calls (A : Option Addr) (c : Nat) (s : List Int) (x y : Int) (w : World) (hr : Kd.C (Kd.int .i64) w A s.length s) (hc : s.length ≤ c) (hs : isSp s = true) (h0 : 0 ≤ x) (h1 : x ≤ 1024) (h2 : 0 ≤ y) (h3 : y ≤ 1024) :
    Calls Try.prog 91 #[.agg #[.slice A s.length c], .int .i64 x, .int .i64 y] w
      fun e w' => e = .returned (.int .i64 (ham (dig8 s x) (dig8 s y))) ∧ Below w.heap.size w w' := by
  have huS := Try.underlying28
  have HR := Aside0.mk hr
  have HS := Aside0.mk hs
  clear hr hs
  go_enter Try.func91, Try.ntmps91
  go_wp2_with fail
  have hcell : (w.alloc (.cells #[.slice A s.length c] 28)).cell? ⟨w.heap.size, 0, none⟩ = some (.slice A s.length c) := blk_cell (blk_new _ _) 0
  have hB : Below w.heap.size w (w.alloc (.cells #[.slice A s.length c] 28)) := (Below.refl _ _).alloc (Nat.le_refl _) _
  go_region_held3 (fun w' => w'.cell? ⟨w.heap.size, 0, none⟩ = some (.slice A s.length c) ∧ Below w.heap.size w w') (first | exact ⟨hcell, below_drew hB⟩ | exact keepS hb (by assumption))
    (first
      | (go_at_call 55; refine (digitsOf_calls A c s _ _ ?k1 hc HS.out (by omega) (by omega)).mono ?_; (case k1 => exact Kd.C_below HR.out (by first | assumption | exact (by assumption : _ ∧ Below _ _ _).2)); rintro e w' ⟨rfl, hb⟩)
      | (go_at_call 80; refine (far_calls (dig8_length _ _) (dig8_length _ _) _).mono ?_; rintro e w' ⟨rfl, hb⟩))
  go_wp2
  go_ret
  exact ⟨rfl, (by assumption : _ ∧ Below w.heap.size w _).2⟩

/-- What the program's distance returns where it is asked of words of a space. -/
def impl_distance.f (l0_0 : List Int) (a1 a2 : Int) : Option Int := if isSp l0_0 = true ∧ isW l0_0 a1 = true ∧ isW l0_0 a2 = true then some (ham (dig8 l0_0 a1) (dig8 l0_0 a2)) else none

theorem isW_small {s : List Int} (hs : isSp s = true) {x : Int} (h : isW s x = true) : 0 ≤ x ∧ x ≤ 1024 := by
  have h1 := (isW_iff s x).1 h
  have h2 := isSp_prd hs
  omega

theorem impl_distance.calls (A0_0 : Option Addr) (c0_0 : Nat) (l0_0 : List Int) (a1 : Int) (a2 : Int) (r : Int) (w : World) (hr0_0 : Kd.C (Kd.int .i64) w A0_0 l0_0.length l0_0) (hc0_0 : l0_0.length ≤ c0_0) (h : impl_distance.f l0_0 a1 a2 = some r) :
    Calls Try.prog 91 #[.agg #[.slice A0_0 l0_0.length c0_0], .int .i64 a1, .int .i64 a2] w fun e w' => e = .returned (.int .i64 r) ∧ Below w.heap.size w w' := by
  unfold impl_distance.f at h
  split at h
  · rename_i hc
    obtain rfl := Option.some.inj h
    obtain ⟨hs, h1, h2⟩ := hc
    obtain ⟨g0, g1⟩ := isW_small hs h1
    obtain ⟨g2, g3⟩ := isW_small hs h2
    exact distance_calls A0_0 c0_0 l0_0 a1 a2 w hr0_0 hc0_0 hs g0 g1 g2 g3
  · cases h
end Go.Proofs.Ytjabkbnbcajdbaa.P
