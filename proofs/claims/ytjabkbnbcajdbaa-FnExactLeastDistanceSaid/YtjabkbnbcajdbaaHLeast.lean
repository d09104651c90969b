/- The least distance of two words of a code: what the program's leastDistance returns. -/
import Derived.Test.YtjabkbnbcajdbaaHRows
set_option linter.unusedVariables false
set_option linter.unusedSimpArgs false
namespace Go.Proofs.Ytjabkbnbcajdbaa.P
open Go.RowKit Go.Proofs.YtjabkbnbcajdbaaW.PrintWords Go.Proofs.YtjabkbnbcajdbaaW.PrintLast Go.Proofs.YtjabkbnbcajdbaaW.PrintMore CC

/-- The least of a and the distances of digits from the first j words. -/
def lin (s C d : List Int) (a : Int) (j : Nat) : Int := (C.take j).foldl (fun a x => mn a (ham d (dig8 s x))) a
theorem lin_succ (s C d : List Int) (a : Int) {j : Nat} (h : j < C.length) : lin s C d a (j + 1) = mn (lin s C d a j) (ham d (dig8 s (rd C (j : Int)))) := by
  unfold lin
  rw [take_rdO h, List.foldl_append]
  rfl
def lout (s C : List Int) : Nat → Int
  | 0 => 10
  | n + 1 => lin s C (dig8 s (rd C (n : Int))) (lout s C n) n

set_option maxHeartbeats 16000000 in
set_option maxRecDepth 100000 in
theorem least_calls (A : Option Addr) (c : Nat) (s : List Int) (A1 : Option Addr) (c1 : Nat) (C : List Int) (w : World) (hr : Kd.C (Kd.int .i64) w A s.length s) (hc : s.length ≤ c) (hr1 : Kd.C (Kd.int .i64) w A1 C.length C) (hc1 : C.length ≤ c1) (hs : isSp s = true) (hC : C.all (isW s) = true) (hCl : C.length ≤ 1048576) (hCp : 1 ≤ C.length) :
    Calls Try.prog 77 #[.agg #[.slice A s.length c], .slice A1 C.length c1] w
      fun e w' => e = .returned (.int .i64 (lout s C C.length)) ∧ Below w.heap.size w w' := by
  have huS := Try.underlying28
  have huD := Try.underlying56
  have HR := Aside0.mk hr
  have HR1 := Aside0.mk hr1
  have HS := Aside0.mk hs
  have HC := Aside0.mk hC
  clear hr hr1 hs hC
  go_enter Try.func77, Try.ntmps77
  have hcell : (w.alloc (.cells #[.slice A s.length c] 28)).heap[w.heap.size]? = some (.cells #[.slice A s.length c] 28 (0, 0)) := blk_new _ _
  have hB : Below w.heap.size w (w.alloc (.cells #[.slice A s.length c] 28)) := (Below.refl _ _).alloc (Nat.le_refl _) _
  have hcz : (w.alloc (.cells #[.slice A s.length c] 28)).cell? ⟨w.heap.size, 0, none⟩ = some (.slice A s.length c) := blk_cell hcell 0
  go_wp2_with fail
  refine (digitsOfAll_calls A c s A1 c1 C _ (Kd.C_below HR.out hB) hc (Kd.C_below HR1.out hB) hc1 HS.out HC.out hCl).mono ?_
  rintro e w1 ⟨v1, rfl, hO, hb⟩
  obtain ⟨g, cap, rfl, hcap⟩ : ∃ g cap, v1 = .slice (some ⟨g, 0, none⟩) C.length cap ∧ C.length ≤ cap := by
    rcases hO.2 with ⟨_, h⟩ | ⟨g, cap, _, h, _, _, h2, _⟩
    · omega
    · exact ⟨g, cap, h, h2⟩
  have HCAP := Aside0.mk hcap
  have hz1 := hB.size
  have B1 := Aside0.mk (below_then hB hB.size hb)
  have O1 := Aside0.mk (own_weaken hO hz1)
  clear hcell hB hO hb hcz hz1
  go_wp2_with fail
  have hcap := HCAP.out
  go_loopw [6, 16] (fun a i W => ∃ (n : Nat) (z : Int), n ≤ C.length ∧ i = .int .i64 n ∧ a = .int .i64 z ∧ Aside0 (z = lout s C n) ∧ Aside0 (W.ownsRow w.heap.size 56 8 (.slice (some ⟨g, 0, none⟩) C.length cap) C.length (flat8 (allOf s C C.length))) ∧ Aside0 (Below w.heap.size w W)) (fun _ i _ => C.length - (intOf i).toNat)
  case atStart => exact ⟨0, 10, by omega, rfl, rfl, ⟨rfl⟩, O1, B1⟩
  case round =>
    clear O1 B1
    obtain ⟨n, z, hn, rfl, rfl, HZ, HL, HB⟩ := hrel
    by_cases hlt : n < C.length
    · obtain ⟨y0, y1, y2, y3, y4, y5, y6, y7, hye⟩ := eight (dig8_length s (rd C (n : Int)))
      have hge := allOf_get s C hlt
      rw [hye] at hge
      obtain ⟨k0, k1, k2, k3, k4, k5, k6, k7⟩ := row8g HL.out (allOf_len s C _) hge
      have HYE : Aside0 (lout s C (n + 1) = lin s C [y0, y1, y2, y3, y4, y5, y6, y7] (lout s C n) n) := ⟨by rw [lout, hye]⟩
      clear hge hye
      go_wp2_with fail
      have HL1 := Aside0.mk (own_alloc HL.out (.cells #[.int .u8 y0, .int .u8 y1, .int .u8 y2, .int .u8 y3, .int .u8 y4, .int .u8 y5, .int .u8 y6, .int .u8 y7] 56))
      have HB1 := Aside0.mk (below_alloc HB.out (.cells #[.int .u8 y0, .int .u8 y1, .int .u8 y2, .int .u8 y3, .int .u8 y4, .int .u8 y5, .int .u8 y6, .int .u8 y7] 56))
      have HY1 := Aside0.mk (blk_new wr (.cells #[.int .u8 y0, .int .u8 y1, .int .u8 y2, .int .u8 y3, .int .u8 y4, .int .u8 y5, .int .u8 y6, .int .u8 y7] 56))
      clear k0 k1 k2 k3 k4 k5 k6 k7 HL HB
      generalize wr.alloc (.cells #[.int .u8 y0, .int .u8 y1, .int .u8 y2, .int .u8 y3, .int .u8 y4, .int .u8 y5, .int .u8 y6, .int .u8 y7] 56) = W1 at *
      generalize wr.heap.size = gd at *
      go_loopw [6, 25] (fun a i W => ∃ (j : Nat) (z : Int), j ≤ n ∧ i = .int .i64 j ∧ a = .int .i64 z ∧ Aside0 (z = lin s C [y0, y1, y2, y3, y4, y5, y6, y7] (lout s C n) j) ∧ Aside0 (W.ownsRow w.heap.size 56 8 (.slice (some ⟨g, 0, none⟩) C.length cap) C.length (flat8 (allOf s C C.length))) ∧ Aside0 (W.heap[gd]? = some (.cells #[.int .u8 y0, .int .u8 y1, .int .u8 y2, .int .u8 y3, .int .u8 y4, .int .u8 y5, .int .u8 y6, .int .u8 y7] 56 (0, 0))) ∧ Aside0 (Below w.heap.size w W)) (fun _ i _ => n - (intOf i).toNat)
      case atStart => exact ⟨0, z, by omega, rfl, rfl, HZ, HL1, HY1, HB1⟩
      case round =>
        clear HL1 HB1 HY1 HZ
        obtain ⟨j, z, hj, rfl, rfl, HZ, HL, HY, HB⟩ := hrel
        by_cases hjn : j < n
        · obtain ⟨x0, x1, x2, x3, x4, x5, x6, x7, hxe⟩ := eight (dig8_length s (rd C (j : Int)))
          have hge := allOf_get s C (show j < C.length by omega)
          rw [hxe] at hge
          obtain ⟨k0, k1, k2, k3, k4, k5, k6, k7⟩ := row8g HL.out (allOf_len s C _) hge
          have HQ : Aside0 (lin s C [y0, y1, y2, y3, y4, y5, y6, y7] (lout s C n) (j + 1) = mn z (ham [y0, y1, y2, y3, y4, y5, y6, y7] [x0, x1, x2, x3, x4, x5, x6, x7])) := ⟨by rw [lin_succ s C _ _ (show j < C.length by omega), hxe, HZ.out]⟩
          clear hge hxe
          have hY2 := blk_alloc HY.out (.cells #[.int .u8 x0, .int .u8 x1, .int .u8 x2, .int .u8 x3, .int .u8 x4, .int .u8 x5, .int .u8 x6, .int .u8 x7] 56)
          have h0 := blk_cell hY2 0
          have h1 := blk_cell hY2 1
          have h2 := blk_cell hY2 2
          have h3 := blk_cell hY2 3
          have h4 := blk_cell hY2 4
          have h5 := blk_cell hY2 5
          have h6 := blk_cell hY2 6
          have h7 := blk_cell hY2 7
          clear hY2
          go_wp2_with fail
          refine (far_calls8 y0 y1 y2 y3 y4 y5 y6 y7 x0 x1 x2 x3 x4 x5 x6 x7 _).mono ?_
          rintro e w3 ⟨rfl, hb⟩
          have HL3 := Aside0.mk (pw_own_below (own_alloc HL.out (.cells #[.int .u8 x0, .int .u8 x1, .int .u8 x2, .int .u8 x3, .int .u8 x4, .int .u8 x5, .int .u8 x6, .int .u8 x7] 56)) hb)
          have HY3 := Aside0.mk (blk_below (blk_alloc HY.out (.cells #[.int .u8 x0, .int .u8 x1, .int .u8 x2, .int .u8 x3, .int .u8 x4, .int .u8 x5, .int .u8 x6, .int .u8 x7] 56)) hb)
          have hB2 := below_alloc HB.out (.cells #[.int .u8 x0, .int .u8 x1, .int .u8 x2, .int .u8 x3, .int .u8 x4, .int .u8 x5, .int .u8 x6, .int .u8 x7] 56)
          have HB3 := Aside0.mk (below_then hB2 hB2.size hb)
          clear k0 k1 k2 k3 k4 k5 k6 k7 h0 h1 h2 h3 h4 h5 h6 h7 HL HY HB hB2 hb
          go_wp2
          go_roundw
          case rel => exact ⟨j + 1, mn z (ham [y0, y1, y2, y3, y4, y5, y6, y7] [x0, x1, x2, x3, x4, x5, x6, x7]), by omega, by go_num, rfl, ⟨HQ.out.symm⟩, HL3, HY3, HB3⟩
          case measure => simp [intOf]; omega
        · have hj2 : j = n := by omega
          subst hj2
          have HQ : Aside0 (z = lout s C (j + 1)) := ⟨by rw [HYE.out, HZ.out]⟩
          clear HZ HY
          go_wp2
          go_roundw
          case rel => exact ⟨j + 1, z, by omega, by go_num, rfl, HQ, HL, HB⟩
          case measure => simp [intOf]; omega
    · go_wp2
      go_ret
      have hn2 : n = C.length := by omega
      subst hn2
      exact ⟨by rw [HZ.out]; rfl, HB.out⟩

/-- What the program's leastDistance returns where it is asked of words of a space. -/
def impl_leastDistance.f (l0_0 l1 : List Int) : Option Int := if isSp l0_0 = true ∧ l1.all (isW l0_0) = true ∧ 1 ≤ l1.length ∧ l1.length ≤ 1048576 then some (lout l0_0 l1 l1.length) else none

theorem impl_leastDistance.calls (A0_0 : Option Addr) (c0_0 : Nat) (l0_0 : List Int) (A1 : Option Addr) (c1 : Nat) (l1 : List Int) (r : Int) (w : World) (hr0_0 : Kd.C (Kd.int .i64) w A0_0 l0_0.length l0_0) (hc0_0 : l0_0.length ≤ c0_0) (hr1 : Kd.C (Kd.int .i64) w A1 l1.length l1) (hc1 : l1.length ≤ c1) (h : impl_leastDistance.f l0_0 l1 = some r) :
    Calls Try.prog 77 #[.agg #[.slice A0_0 l0_0.length c0_0], .slice A1 l1.length c1] w fun e w' => e = .returned (.int .i64 r) ∧ Below w.heap.size w w' := by
  unfold impl_leastDistance.f at h
  split at h
  · rename_i hc
    obtain rfl := Option.some.inj h
    exact least_calls A0_0 c0_0 l0_0 A1 c1 l1 w hr0_0 hc0_0 hr1 hc1 hc.1 hc.2.1 hc.2.2.2 hc.2.2.1
  · cases h
end Go.Proofs.Ytjabkbnbcajdbaa.P
