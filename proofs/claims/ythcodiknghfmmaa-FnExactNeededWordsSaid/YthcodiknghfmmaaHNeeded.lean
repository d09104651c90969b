/- Is a word needed? What the program's isNeeded returns. -/
import Derived.Test.YthcodiknghfmmaaHThose0
import Derived.Test.YthcodiknghfmmaaQBase
import Derived.BigQuiet
set_option linter.unusedVariables false
set_option linter.unusedSimpArgs false
namespace Go.Proofs.Ythcodiknghfmmaa.P
open Go.RowKit Go.Proofs.YthcodiknghfmmaaW.PrintWords Go.Proofs.YthcodiknghfmmaaW.PrintLast Go.Proofs.YthcodiknghfmmaaW.PrintMore CC

/-- Is there a word from place m on that is covered once, and near to x? -/
def needQ (s T : List Int) (x r : Int) : Nat → Nat → Bool
  | _, 0 => false
  | m, k + 1 => if rd T (m : Int) = 1 ∧ ham (dig8 s x) (dig8 s (m : Int)) ≤ r then true else needQ s T x r (m + 1) k

set_option maxHeartbeats 16000000 in
set_option maxRecDepth 100000 in
theorem needed_calls (s T : List Int) (P g cap b : Nat) (A1 : Option Addr) (c1 : Nat) (x r : Int) (w : World) (hD : w.ownsRow b 52 8 (.slice (some ⟨g, 0, none⟩) P cap) P (flat8 (all8 s P))) (hcap : P ≤ cap) (hr1 : Kd.C (Kd.int .i64) w A1 T.length T) (hc1 : T.length ≤ c1) (hT : T.length = P) (hP : P ≤ 1024) (h0 : 0 ≤ x) (h1 : x < P) :
    Calls Try.prog 62 #[.slice (some ⟨g, 0, none⟩) P cap, .slice A1 T.length c1, .int .i64 x, .int .i64 r] w
      fun e w' => e = .returned (.bool (needQ s T x r 0 P)) ∧ Below w.heap.size w w' := by
  have huD := Try.underlying52
  have HR1 := Aside0.mk hr1
  have HD := Aside0.mk hD
  obtain ⟨wn, rfl⟩ := Int.eq_ofNat_of_zero_le h0
  obtain ⟨x0, x1, x2, x3, x4, x5, x6, x7, hxe⟩ := eight (dig8_length s (wn : Int))
  have HXE := Aside0.mk hxe
  clear hr1 hD hxe
  go_enter Try.func62, Try.ntmps62
  go_wp2_with fail
  go_loopw [13] (fun i W => ∃ (m : Nat), m ≤ P ∧ i = .int .i64 m ∧ Aside0 (needQ s T (wn : Int) r 0 P = needQ s T (wn : Int) r m (P - m)) ∧ Aside0 (Below w.heap.size w W)) (fun i _ => P - (intOf i).toNat)
  case atStart => exact ⟨0, by omega, rfl, ⟨rfl⟩, ⟨Below.refl _ _⟩⟩
  case round =>
    obtain ⟨m, hm, rfl, HQ, HB⟩ := hrel
    by_cases hlt : m < P
    · obtain ⟨ad1, e1, _⟩ := Kd.at_int HR1.out (m : Int) (by omega) (by omega)
      subst e1
      have hx := rd_cell HR1.out HB.out m (by omega)
      have hBw := HB.out
      obtain ⟨y0, y1, y2, y3, y4, y5, y6, y7, hye⟩ := eight (dig8_length s (m : Int))
      have hDw := pw_own_below HD.out HB.out
      obtain ⟨k0, k1, k2, k3, k4, k5, k6, k7⟩ := row8 hDw hlt hye
      obtain ⟨f0, f1, f2, f3, f4, f5, f6, f7⟩ := row8 hDw (show wn < P by omega) HXE.out
      have HN : Aside0 (needQ s T (wn : Int) r m (P - m) = if rd T (m : Int) = 1 ∧ ham [x0, x1, x2, x3, x4, x5, x6, x7] [y0, y1, y2, y3, y4, y5, y6, y7] ≤ r then true else needQ s T (wn : Int) r (m + 1) (P - (m + 1))) := ⟨by
        rw [show P - m = (P - (m + 1)) + 1 by omega, needQ, HXE.out, hye]⟩
      clear hye hDw
      by_cases ht : rd T (m : Int) = 1
      · rw [ht] at hx HN
        by_cases hh : ham [x0, x1, x2, x3, x4, x5, x6, x7] [y0, y1, y2, y3, y4, y5, y6, y7] ≤ r
        · have t1 : decide (ham [x0, x1, x2, x3, x4, x5, x6, x7] [y0, y1, y2, y3, y4, y5, y6, y7] ≤ r) = true := decide_eq_true hh
          have HQ2 : Aside0 (needQ s T (wn : Int) r 0 P = true) := ⟨by rw [HQ.out, HN.out, if_pos ⟨rfl, hh⟩]⟩
          clear HN HQ hh
          go_wp2_with fail
          go_region_held3 (fun w' => w'.cell? ⟨g, wn * 8, none⟩ = some (.int .u8 x0) ∧ w'.cell? ⟨g, wn * 8 + 1, none⟩ = some (.int .u8 x1) ∧ w'.cell? ⟨g, wn * 8 + 2, none⟩ = some (.int .u8 x2) ∧ w'.cell? ⟨g, wn * 8 + 3, none⟩ = some (.int .u8 x3) ∧ w'.cell? ⟨g, wn * 8 + 4, none⟩ = some (.int .u8 x4) ∧ w'.cell? ⟨g, wn * 8 + 5, none⟩ = some (.int .u8 x5) ∧ w'.cell? ⟨g, wn * 8 + 6, none⟩ = some (.int .u8 x6) ∧ w'.cell? ⟨g, wn * 8 + 7, none⟩ = some (.int .u8 x7) ∧ w'.cell? ⟨g, m * 8, none⟩ = some (.int .u8 y0) ∧ w'.cell? ⟨g, m * 8 + 1, none⟩ = some (.int .u8 y1) ∧ w'.cell? ⟨g, m * 8 + 2, none⟩ = some (.int .u8 y2) ∧ w'.cell? ⟨g, m * 8 + 3, none⟩ = some (.int .u8 y3) ∧ w'.cell? ⟨g, m * 8 + 4, none⟩ = some (.int .u8 y4) ∧ w'.cell? ⟨g, m * 8 + 5, none⟩ = some (.int .u8 y5) ∧ w'.cell? ⟨g, m * 8 + 6, none⟩ = some (.int .u8 y6) ∧ w'.cell? ⟨g, m * 8 + 7, none⟩ = some (.int .u8 y7) ∧ Below w.heap.size w w') (first | exact ⟨f0, f1, f2, f3, f4, f5, f6, f7, k0, k1, k2, k3, k4, k5, k6, k7, below_drew hBw⟩ | exact (And.imp (pw_cell_below hb) (And.imp (pw_cell_below hb) (And.imp (pw_cell_below hb) (And.imp (pw_cell_below hb) (And.imp (pw_cell_below hb) (And.imp (pw_cell_below hb) (And.imp (pw_cell_below hb) (And.imp (pw_cell_below hb) (And.imp (pw_cell_below hb) (And.imp (pw_cell_below hb) (And.imp (pw_cell_below hb) (And.imp (pw_cell_below hb) (And.imp (pw_cell_below hb) (And.imp (pw_cell_below hb) (And.imp (pw_cell_below hb) (And.imp (pw_cell_below hb) (fun hS => below_then hS hS.size hb))))))))))))))))) (by assumption))
          (first
            | (go_at_call 63; refine (far_calls8 x0 x1 x2 x3 x4 x5 x6 x7 y0 y1 y2 y3 y4 y5 y6 y7 _).mono ?_; rintro e w' ⟨rfl, hb⟩))
          all_goals
            obtain ⟨_, _, _, _, _, _, _, _, _, _, _, _, _, _, _, _, hBB⟩ := (by assumption : World.cell? _ ⟨g, wn * 8, none⟩ = some (Value.int .u8 x0) ∧ _)
            go_wp2
            go_ret
            exact ⟨by rw [HQ2.out]; rfl, hBB⟩
        · have t1 : decide (ham [x0, x1, x2, x3, x4, x5, x6, x7] [y0, y1, y2, y3, y4, y5, y6, y7] ≤ r) = false := decide_eq_false hh
          have HQ2 : Aside0 (needQ s T (wn : Int) r 0 P = needQ s T (wn : Int) r (m + 1) (P - (m + 1))) := ⟨by rw [HQ.out, HN.out, if_neg (fun z => hh z.2)]⟩
          clear HN HQ hh
          go_wp2_with fail
          go_region_held3 (fun w' => w'.cell? ⟨g, wn * 8, none⟩ = some (.int .u8 x0) ∧ w'.cell? ⟨g, wn * 8 + 1, none⟩ = some (.int .u8 x1) ∧ w'.cell? ⟨g, wn * 8 + 2, none⟩ = some (.int .u8 x2) ∧ w'.cell? ⟨g, wn * 8 + 3, none⟩ = some (.int .u8 x3) ∧ w'.cell? ⟨g, wn * 8 + 4, none⟩ = some (.int .u8 x4) ∧ w'.cell? ⟨g, wn * 8 + 5, none⟩ = some (.int .u8 x5) ∧ w'.cell? ⟨g, wn * 8 + 6, none⟩ = some (.int .u8 x6) ∧ w'.cell? ⟨g, wn * 8 + 7, none⟩ = some (.int .u8 x7) ∧ w'.cell? ⟨g, m * 8, none⟩ = some (.int .u8 y0) ∧ w'.cell? ⟨g, m * 8 + 1, none⟩ = some (.int .u8 y1) ∧ w'.cell? ⟨g, m * 8 + 2, none⟩ = some (.int .u8 y2) ∧ w'.cell? ⟨g, m * 8 + 3, none⟩ = some (.int .u8 y3) ∧ w'.cell? ⟨g, m * 8 + 4, none⟩ = some (.int .u8 y4) ∧ w'.cell? ⟨g, m * 8 + 5, none⟩ = some (.int .u8 y5) ∧ w'.cell? ⟨g, m * 8 + 6, none⟩ = some (.int .u8 y6) ∧ w'.cell? ⟨g, m * 8 + 7, none⟩ = some (.int .u8 y7) ∧ Below w.heap.size w w') (first | exact ⟨f0, f1, f2, f3, f4, f5, f6, f7, k0, k1, k2, k3, k4, k5, k6, k7, below_drew hBw⟩ | exact (And.imp (pw_cell_below hb) (And.imp (pw_cell_below hb) (And.imp (pw_cell_below hb) (And.imp (pw_cell_below hb) (And.imp (pw_cell_below hb) (And.imp (pw_cell_below hb) (And.imp (pw_cell_below hb) (And.imp (pw_cell_below hb) (And.imp (pw_cell_below hb) (And.imp (pw_cell_below hb) (And.imp (pw_cell_below hb) (And.imp (pw_cell_below hb) (And.imp (pw_cell_below hb) (And.imp (pw_cell_below hb) (And.imp (pw_cell_below hb) (And.imp (pw_cell_below hb) (fun hS => below_then hS hS.size hb))))))))))))))))) (by assumption))
          (first
            | (go_at_call 63; refine (far_calls8 x0 x1 x2 x3 x4 x5 x6 x7 y0 y1 y2 y3 y4 y5 y6 y7 _).mono ?_; rintro e w' ⟨rfl, hb⟩))
          all_goals
            obtain ⟨_, _, _, _, _, _, _, _, _, _, _, _, _, _, _, _, hBB⟩ := (by assumption : World.cell? _ ⟨g, wn * 8, none⟩ = some (Value.int .u8 x0) ∧ _)
            have hBB := Aside0.mk hBB
            go_wp2
            go_simp
            refine ⟨⟨_, _, _, _, ⟨m + 1, by omega, by go_num, HQ2, by first | exact hBB | exact ⟨trivial⟩⟩, rfl, rfl, rfl, rfl⟩, ?_⟩
            simp [intOf]
            omega
      · have HQ2 : Aside0 (needQ s T (wn : Int) r 0 P = needQ s T (wn : Int) r (m + 1) (P - (m + 1))) := ⟨by rw [HQ.out, HN.out, if_neg (fun z => ht z.1)]⟩
        have t0 : (rd T (m : Int) == 1) = false := by simpa using ht
        have t2 : decide (rd T (m : Int) = 1) = false := decide_eq_false ht
        clear HN HQ k0 k1 k2 k3 k4 k5 k6 k7 f0 f1 f2 f3 f4 f5 f6 f7
        generalize rd T (m : Int) = q at *
        go_wp2_with fail
        go_quiet (fail)
        go_wp2
        go_roundw
        case rel => exact ⟨m + 1, by omega, by go_num, HQ2, ⟨pw_below_drewN hBw _⟩⟩
        case measure => simp [intOf]; omega
    · go_wp2
      go_ret
      have hm2 : m = P := by omega
      subst hm2
      refine ⟨?_, HB.out⟩
      rw [HQ.out, Nat.sub_self]
      rfl
end Go.Proofs.Ythcodiknghfmmaa.P
