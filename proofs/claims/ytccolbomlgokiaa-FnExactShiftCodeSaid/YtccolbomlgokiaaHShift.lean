/- A code shifted by a word: what the program's shifted returns. -/
import Derived.Test.YtccolbomlgokiaaHMapped
import Derived.Test.YtccolbomlgokiaaHSum
import Derived.Test.YtccolbomlgokiaaQBase
set_option linter.unusedVariables false
set_option linter.unusedSimpArgs false
namespace Go.Proofs.Ytccolbomlgokiaa.P
open Go.RowKit Go.Proofs.YtccolbomlgokiaaW.PrintWords Go.Proofs.YtccolbomlgokiaaW.PrintLast Go.Proofs.YtccolbomlgokiaaW.PrintMore CC

/-- The word that is the sum. -/
def shW (s : List Int) (y x : Int) : Int := hor 0 s (sum8 s (dig8 s x) (dig8 s y))

set_option maxHeartbeats 4000000 in
set_option maxRecDepth 100000 in
theorem shift1_calls (gs gb : Nat) (A : Option Addr) (c : Nat) (s : List Int) (x y : Int) (w : World) (hr : Kd.C (Kd.int .i64) w A s.length s) (hc : s.length ≤ c) (hs : isSp s = true) (h0 : 0 ≤ x) (h1 : x ≤ 1024)
    (ks : w.cell? ⟨gs, 0, none⟩ = some (.slice A s.length c)) (kb : w.heap[gb]? = some (.cells (nums .u8 (dig8 s y)).toArray 58 (0, 0))) :
    Calls Try.prog 68 #[.int .i64 x, .pointer (some ⟨gs, 0, none⟩), .pointer (some ⟨gb, 0, none⟩)] w
      fun e w' => e = .returned (.int .i64 (shW s y x)) ∧ Below w.heap.size w w' := by
  have huS := Try.underlying28
  have huD := Try.underlying58
  have HR := Aside0.mk hr
  have HS := Aside0.mk hs
  have I1 := Aside0.mk (dig8_inR hs x)
  have I2 := Aside0.mk (dig8_inR hs y)
  have I3 := Aside0.mk (sum8_inR hs (dig8 s x) (dig8 s y))
  have E8 := Aside0.mk (dig8_length s y)
  obtain ⟨y0, y1, y2, y3, y4, y5, y6, y7, hy⟩ := eight (dig8_length s y)
  have HY : Aside0 (arr8 (dig8 s y) = .agg #[.int .u8 y0, .int .u8 y1, .int .u8 y2, .int .u8 y3, .int .u8 y4, .int .u8 y5, .int .u8 y6, .int .u8 y7]) := ⟨by rw [hy]; rfl⟩
  have HX : Aside0 (shW s y x = hor 0 s (sum8 s (dig8 s x) (dig8 s y))) := ⟨rfl⟩
  rw [hy] at kb
  have k0 : w.cell? ⟨gb, 0, none⟩ = some (.int .u8 y0) := blk_cell kb 0
  have k1 : w.cell? ⟨gb, 1, none⟩ = some (.int .u8 y1) := blk_cell kb 1
  have k2 : w.cell? ⟨gb, 2, none⟩ = some (.int .u8 y2) := blk_cell kb 2
  have k3 : w.cell? ⟨gb, 3, none⟩ = some (.int .u8 y3) := blk_cell kb 3
  have k4 : w.cell? ⟨gb, 4, none⟩ = some (.int .u8 y4) := blk_cell kb 4
  have k5 : w.cell? ⟨gb, 5, none⟩ = some (.int .u8 y5) := blk_cell kb 5
  have k6 : w.cell? ⟨gb, 6, none⟩ = some (.int .u8 y6) := blk_cell kb 6
  have k7 : w.cell? ⟨gb, 7, none⟩ = some (.int .u8 y7) := blk_cell kb 7
  clear hr hs hy kb
  go_enter Try.func68, Try.ntmps68
  go_wp2_with fail
  have hB : Below w.heap.size w w := Below.refl _ _
  go_region_held3 (fun w' => w'.cell? ⟨gs, 0, none⟩ = some (.slice A s.length c) ∧ w'.cell? ⟨gb, 0, none⟩ = some (.int .u8 y0) ∧ w'.cell? ⟨gb, 1, none⟩ = some (.int .u8 y1) ∧ w'.cell? ⟨gb, 2, none⟩ = some (.int .u8 y2) ∧ w'.cell? ⟨gb, 3, none⟩ = some (.int .u8 y3) ∧ w'.cell? ⟨gb, 4, none⟩ = some (.int .u8 y4) ∧ w'.cell? ⟨gb, 5, none⟩ = some (.int .u8 y5) ∧ w'.cell? ⟨gb, 6, none⟩ = some (.int .u8 y6) ∧ w'.cell? ⟨gb, 7, none⟩ = some (.int .u8 y7) ∧ Below w.heap.size w w') (first | exact ⟨ks, k0, k1, k2, k3, k4, k5, k6, k7, below_drew hB⟩ | exact (And.imp (pw_cell_below hb) (And.imp (pw_cell_below hb) (And.imp (pw_cell_below hb) (And.imp (pw_cell_below hb) (And.imp (pw_cell_below hb) (And.imp (pw_cell_below hb) (And.imp (pw_cell_below hb) (And.imp (pw_cell_below hb) (And.imp (pw_cell_below hb) (fun hS => below_then hS hS.size hb)))))))))) (by assumption))
    (first
      | (go_at_call 47; refine (digitsOf_calls A c s _ _ ?k1 hc HS.out (by omega) (by omega)).mono ?_; (case k1 => exact Kd.C_below HR.out (by first | assumption | exact (by assumption : _ ∧ _ ∧ _ ∧ _ ∧ _ ∧ _ ∧ _ ∧ _ ∧ _ ∧ Below _ _ _).2.2.2.2.2.2.2.2.2)); rintro e w' ⟨rfl, hb⟩)
      | (go_at_call 69; rw [← HY.out]; refine (sumOf_calls A c s (dig8 s x) (dig8 s y) _ ?k1 hc HS.out (dig8_length _ _) I1.out (dig8_length _ _) I2.out).mono ?_; (case k1 => exact Kd.C_below HR.out (by first | assumption | exact (by assumption : _ ∧ _ ∧ _ ∧ _ ∧ _ ∧ _ ∧ _ ∧ _ ∧ _ ∧ Below _ _ _).2.2.2.2.2.2.2.2.2)); rintro e w' ⟨rfl, hb⟩)
      | (go_at_call 48; refine (wordOf_calls A c s (sum8 s (dig8 s x) (dig8 s y)) _ ?k1 hc HS.out (upd8_length _ _) I3.out).mono ?_; (case k1 => exact Kd.C_below HR.out (by first | assumption | exact (by assumption : _ ∧ _ ∧ _ ∧ _ ∧ _ ∧ _ ∧ _ ∧ _ ∧ _ ∧ Below _ _ _).2.2.2.2.2.2.2.2.2)); rintro e w' ⟨rfl, hb⟩))
  all_goals
    obtain ⟨_, _, _, _, _, _, _, _, _, hBB⟩ := (by assumption : World.cell? _ ⟨gs, 0, none⟩ = some (Value.slice A s.length c) ∧ _)
    go_wp2
    go_ret
    exact ⟨by rw [HX.out]; rfl, hBB⟩

set_option maxHeartbeats 4000000 in
set_option maxRecDepth 100000 in
theorem shifted_calls (A : Option Addr) (c : Nat) (s : List Int) (A1 : Option Addr) (c1 : Nat) (C : List Int) (y : Int) (w : World) (hr : Kd.C (Kd.int .i64) w A s.length s) (hc : s.length ≤ c) (hr1 : Kd.C (Kd.int .i64) w A1 C.length C) (hc1 : C.length ≤ c1) (hs : isSp s = true) (hC : ∀ x ∈ C, 0 ≤ x ∧ x ≤ 1024) (hCl : C.length ≤ 1048576) (h0 : 0 ≤ y) (h1 : y ≤ 1024) :
    Calls Try.prog 32 #[.agg #[.slice A s.length c], .slice A1 C.length c1, .int .i64 y] w
      fun e w' => ∃ v, e = .returned v ∧ Kd.R (Kd.int .i64) 2 w' w.heap.size (fun _ => True) v (mappedL (shW s y) C) ∧ Below w.heap.size w w' := by
  have huS := Try.underlying28
  have huD := Try.underlying58
  have HR := Aside0.mk hr
  have HR1 := Aside0.mk hr1
  have HS := Aside0.mk hs
  have HC := Aside0.mk hC
  clear hr hr1 hs hC
  go_enter Try.func32, Try.ntmps32
  go_wp2_with fail
  have hcell : (w.alloc (.cells #[.slice A s.length c] 28)).heap[w.heap.size]? = some (.cells #[.slice A s.length c] 28 (0, 0)) := blk_new _ _
  have hB : Below w.heap.size w (w.alloc (.cells #[.slice A s.length c] 28)) := (Below.refl _ _).alloc (Nat.le_refl _) _
  refine (digitsOf_calls A c s y _ (Kd.C_below HR.out hB) hc HS.out h0 h1).mono ?_
  rintro e w1 ⟨rfl, hb⟩
  have K3 := Aside0.mk (blk_below hcell hb)
  have B2 := Aside0.mk (below_then hB hB.size hb)
  clear hb hcell hB
  have hd8 : dloop s s.length y (List.replicate 8 0) = dig8 s y := rfl
  rw [hd8]
  clear hd8
  obtain ⟨y0, y1, y2, y3, y4, y5, y6, y7, hy⟩ := eight (dig8_length s y)
  have ea : arr8 (dig8 s y) = .agg #[.int .u8 y0, .int .u8 y1, .int .u8 y2, .int .u8 y3, .int .u8 y4, .int .u8 y5, .int .u8 y6, .int .u8 y7] := by rw [hy]; rfl
  have HN : Aside0 ((nums .u8 (dig8 s y)).toArray = #[.int .u8 y0, .int .u8 y1, .int .u8 y2, .int .u8 y3, .int .u8 y4, .int .u8 y5, .int .u8 y6, .int .u8 y7]) := ⟨by rw [hy]; rfl⟩
  rw [ea]
  clear ea hy
  go_wp2_with fail
  have R2 := Aside0.mk (blk_alloc K3.out (.cells #[.int .u8 y0, .int .u8 y1, .int .u8 y2, .int .u8 y3, .int .u8 y4, .int .u8 y5, .int .u8 y6, .int .u8 y7] 58))
  have R7 := blk_new w1 (.cells #[.int .u8 y0, .int .u8 y1, .int .u8 y2, .int .u8 y3, .int .u8 y4, .int .u8 y5, .int .u8 y6, .int .u8 y7] 58)
  rw [← HN.out] at R7
  have R7 := Aside0.mk R7
  have RB := Aside0.mk (below_alloc B2.out (.cells #[.int .u8 y0, .int .u8 y1, .int .u8 y2, .int .u8 y3, .int .u8 y4, .int .u8 y5, .int .u8 y6, .int .u8 y7] 58))
  refine («shifted$1».mapped_calls (some ⟨w.heap.size, 0, none⟩) (some ⟨w1.heap.size, 0, none⟩) (shW s y) A1 c1 C _ (Kd.C_below HR1.out RB.out) hc1 hCl ?hf).mono ?_
  case hf =>
    intro x W hx hW
    exact shift1_calls w.heap.size w1.heap.size A c s x y W (Kd.C_below HR.out (below_then RB.out RB.out.size hW)) hc HS.out (HC.out x hx).1 (HC.out x hx).2 (blk_cell (blk_below R2.out hW) 0) (by have := blk_below (by rw [HN.out] at R7; exact R7.out) hW; rw [HN.out]; exact this)
  rintro e w2 ⟨v, rfl, hO, hb⟩
  have O2 := Aside0.mk (Kd.R_lower hO RB.out.size)
  have B3 := Aside0.mk (below_then RB.out RB.out.size hb)
  clear hO hb
  go_wp2
  go_ret
  exact ⟨_, rfl, O2.out, B3.out⟩

/-- What the program's shifted returns where it is asked of words of a space. -/
def impl_shifted.f (l0_0 l1 : List Int) (a2 : Int) : Option (List Int) := if isSp l0_0 = true ∧ l1.all (isW l0_0) = true ∧ l1.length ≤ 1048576 ∧ isW l0_0 a2 = true then some (mappedL (shW l0_0 a2) l1) else none

theorem isW_sm9 {s : List Int} (hs : isSp s = true) {x : Int} (h : isW s x = true) : 0 ≤ x ∧ x ≤ 1024 := by
  have h1 := (isW_iff s x).1 h
  have h2 := isSp_prd hs
  omega
theorem impl_shifted.calls (A0_0 : Option Addr) (c0_0 : Nat) (l0_0 : List Int) (A1 : Option Addr) (c1 : Nat) (l1 : List Int) (a2 : Int) (r : List Int) (w : World) (hr0_0 : Kd.C (Kd.int .i64) w A0_0 l0_0.length l0_0) (hc0_0 : l0_0.length ≤ c0_0) (hr1 : Kd.C (Kd.int .i64) w A1 l1.length l1) (hc1 : l1.length ≤ c1) (h : impl_shifted.f l0_0 l1 a2 = some r) :
    Calls Try.prog 32 #[.agg #[.slice A0_0 l0_0.length c0_0], .slice A1 l1.length c1, .int .i64 a2] w fun e w' => ∃ v0_ : Value, e = .returned (v0_) ∧ Kd.R (Kd.int .i64) 2 w' w.heap.size (fun _ => True) v0_ r ∧ Below w.heap.size w w' := by
  unfold impl_shifted.f at h
  split at h
  · rename_i hc
    obtain rfl := Option.some.inj h
    exact shifted_calls A0_0 c0_0 l0_0 A1 c1 l1 a2 w hr0_0 hc0_0 hr1 hc1 hc.1 (fun x hx => isW_sm9 hc.1 (List.all_eq_true.1 hc.2.1 x hx)) hc.2.2.1 (isW_sm9 hc.1 hc.2.2.2).1 (isW_sm9 hc.1 hc.2.2.2).2
  · cases h
end Go.Proofs.Ytccolbomlgokiaa.P
