/- The program's OppositeWord. -/
import Derived.Test.YtjepdabecbmfgaaHOpp
import Derived.Test.YtjepdabecbmfgaaQWords
set_option linter.unusedVariables false
set_option linter.unusedSimpArgs false
namespace Go.Proofs.Ytjepdabecbmfgaa.P
open Go.RowKit Go.Proofs.YtjepdabecbmfgaaW.PrintWords Go.Proofs.YtjepdabecbmfgaaW.PrintLast Go.Proofs.YtjepdabecbmfgaaW.PrintMore CC


theorem isW_sm1 {s : List Int} (hs : isSp s = true) {x : Int} (h : isW s x = true) : 0 ≤ x ∧ x ≤ 1024 := by
  have h1 := (isW_iff s x).1 h
  have h2 := isSp_prd hs
  omega

/-- A new block of one number reads as a list. -/
theorem one_reads {w : World} {g : Nat} {t : TypeId} {x : Int} (h : w.heap[g]? = some (.cells #[.int .i64 x] t (0, 0))) : Kd.C (Kd.int .i64) w (some ⟨g, 0, none⟩) 1 [x] :=
  Kd.C_of_reads (d := (0 : Int)) (h1 := fun _ => rfl) ⟨rfl, by omega, fun _ => ⟨_, rfl, fun j hj => by
    obtain rfl : j = 0 := by omega
    rw [add_plain, blk_cell h]
    rfl⟩⟩

def rOpp (s : List Int) (x : Int) : Int × Int := if Q.rWords s [x] = 0 then (hor 0 s (opp8 s (dig8 s x)), 0) else (0, Q.rWords s [x])
def impl_OppositeWord.f (l0_0 : List Int) (a1 : Int) : Option (Int × Int) := some (rOpp l0_0 a1)

set_option maxHeartbeats 4000000 in
set_option maxRecDepth 100000 in
theorem OppositeWord_calls (A : Option Addr) (c : Nat) (s : List Int) (x : Int) (w : World) (hr : Kd.C (Kd.int .i64) w A s.length s) (hc : s.length ≤ c) :
    Calls Try.prog 45 #[.agg #[.slice A s.length c], .int .i64 x] w
      fun e w' => e = .returned (.tuple #[.int .i64 (rOpp s x).1, .int .i64 (rOpp s x).2]) ∧ Below w.heap.size w w' := by
  have huS := Try.underlying28
  have HR := Aside0.mk hr
  clear hr
  obtain ⟨kc, hk⟩ := (Q.wordCode_ev s (c := [x]) (by simp)).rounds
  have HK := Aside0.mk hk
  clear hk
  have HX : Aside0 (rOpp s x = if Q.rWords s [x] = 0 then (hor 0 s (opp8 s (dig8 s x)), 0) else (0, Q.rWords s [x])) := ⟨rfl⟩
  generalize rOpp s x = R at *
  go_enter Try.func45, Try.ntmps45
  go_wp2_with fail
  have hB : Below w.heap.size w ((w.alloc (.cells #[.slice A s.length c] 28)).alloc (.cells #[.int .i64 x] 2)) := ((Below.refl _ _).alloc (Nat.le_refl _) _).alloc (by simp) _
  have hcell : ((w.alloc (.cells #[.slice A s.length c] 28)).alloc (.cells #[.int .i64 x] 2)).heap[w.heap.size]? = some (.cells #[.slice A s.length c] 28 (0, 0)) := blk_alloc (blk_new _ _) _
  have hone : ((w.alloc (.cells #[.slice A s.length c] 28)).alloc (.cells #[.int .i64 x] 2)).heap[w.heap.size + 1]? = some (.cells #[.int .i64 x] 2 (0, 0)) := by simpa using blk_new (w.alloc (.cells #[.slice A s.length c] 28)) (.cells #[.int .i64 x] 2)
  refine (impl_wordCode.calls kc A c s _ 1 [x] (Q.rWords s [x]) _ (Kd.C_below HR.out hB) hc (one_reads hone) (by simp) HK.out).mono ?_
  rintro e w1 ⟨rfl, hb⟩
  have K1 := Aside0.mk (blk_below hcell hb)
  have B1 := Aside0.mk (below_then hB hB.size hb)
  clear hB hcell hone hb
  by_cases h0 : Q.rWords s [x] = 0
  · obtain ⟨hs, hw⟩ := Q.rWords_zero h0
    have hw := hw x (by simp)
    obtain ⟨x0, x1⟩ := isW_sm1 hs hw
    have I1 := Aside0.mk (dig8_inR hs x)
    have I2 := Aside0.mk (opp8_inR hs (dig8 s x))
    have HS := Aside0.mk hs
    have HE : Aside0 (R = (hor 0 s (opp8 s (dig8 s x)), 0)) := ⟨by rw [HX.out, if_pos h0]⟩
    have t1 : (Q.rWords s [x] != 0) = false := by rw [h0]; rfl
    clear HX h0 hs hw
    have hcz : w1.cell? ⟨w.heap.size, 0, none⟩ = some (.slice A s.length c) := blk_cell K1.out 0
    go_wp2_with fail
    go_region_held3 (fun w' => w'.cell? ⟨w.heap.size, 0, none⟩ = some (.slice A s.length c) ∧ Below w.heap.size w w') (first | exact ⟨hcz, below_drew B1.out⟩ | exact keepS hb (by assumption))
      (first
        | (go_at_call 62; refine (digitsOf_calls A c s _ _ ?k1 hc HS.out x0 x1).mono ?_; (case k1 => exact Kd.C_below HR.out (by first | assumption | exact (by assumption : _ ∧ Below _ _ _).2)); rintro e w' ⟨rfl, hb⟩)
        | (go_at_call 68; refine (oppositeOf_calls A c s (dig8 s x) _ ?k1 hc HS.out (dig8_length _ _) I1.out).mono ?_; (case k1 => exact Kd.C_below HR.out (by first | assumption | exact (by assumption : _ ∧ Below _ _ _).2)); rintro e w' ⟨rfl, hb⟩)
        | (go_at_call 67; refine (wordOf_calls A c s (opp8 s (dig8 s x)) _ ?k1 hc HS.out (upd8_length _ _) I2.out).mono ?_; (case k1 => exact Kd.C_below HR.out (by first | assumption | exact (by assumption : _ ∧ Below _ _ _).2)); rintro e w' ⟨rfl, hb⟩))
    have hBB := (by assumption : w'.cell? ⟨w.heap.size, 0, none⟩ = some (.slice A s.length c) ∧ _).2
    go_wp2
    go_ret2
    refine ⟨?_, hBB⟩
    rw [HE.out]
    rfl
  · have HE : Aside0 (R = (0, Q.rWords s [x])) := ⟨by rw [HX.out, if_neg h0]⟩
    have t1 : (Q.rWords s [x] != 0) = true := bne_iff_ne.mpr h0
    clear HX h0
    go_wp2
    go_ret2
    refine ⟨?_, B1.out⟩
    rw [HE.out]
    rfl

theorem impl_OppositeWord.calls (A0_0 : Option Addr) (c0_0 : Nat) (l0_0 : List Int) (a1 : Int) (r1 : Int) (r2 : Int) (w : World) (hr0_0 : Kd.C (Kd.int .i64) w A0_0 l0_0.length l0_0) (hc0_0 : l0_0.length ≤ c0_0) (h : impl_OppositeWord.f l0_0 a1 = some (r1, r2)) :
    Calls Try.prog 45 #[.agg #[.slice A0_0 l0_0.length c0_0], .int .i64 a1] w fun e w' => e = .returned (.tuple #[.int .i64 r1, .int .i64 r2]) ∧ Below w.heap.size w w' := by
  unfold impl_OppositeWord.f at h
  have e := Option.some.inj h
  have := OppositeWord_calls A0_0 c0_0 l0_0 a1 w hr0_0 hc0_0
  rw [e] at this
  exact this
end Go.Proofs.Ytjepdabecbmfgaa.P
