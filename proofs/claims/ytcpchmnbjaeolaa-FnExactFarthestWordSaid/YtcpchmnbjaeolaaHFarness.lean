/- The least distances of all words from a code: what the program's farness returns. -/
import Derived.Test.YtcpchmnbjaeolaaHAllOf
import Derived.Test.YtcpchmnbjaeolaaHThose0
import Derived.Test.YtcpchmnbjaeolaaQBase
set_option linter.unusedVariables false
set_option linter.unusedSimpArgs false
namespace Go.Proofs.Ytcpchmnbjaeolaa.P
open Go.RowKit Go.Proofs.YtcpchmnbjaeolaaW.PrintWords Go.Proofs.YtcpchmnbjaeolaaW.PrintLast Go.Proofs.YtcpchmnbjaeolaaW.PrintMore CC

/-- The cells of one element of a row of arrays. -/
theorem row8g {W : World} {b g cap P : Nat} {L : List (List Int)} (h : W.ownsRow b 72 8 (.slice (some ⟨g, 0, none⟩) P cap) P (flat8 L)) (hL : ∀ l ∈ L, l.length = 8) {n : Nat} {y0 y1 y2 y3 y4 y5 y6 y7 : Int} (hd : L[n]? = some [y0, y1, y2, y3, y4, y5, y6, y7]) :
    W.cell? ⟨g, n * 8, none⟩ = some (.int .u8 y0) ∧ W.cell? ⟨g, n * 8 + 1, none⟩ = some (.int .u8 y1) ∧ W.cell? ⟨g, n * 8 + 2, none⟩ = some (.int .u8 y2) ∧ W.cell? ⟨g, n * 8 + 3, none⟩ = some (.int .u8 y3) ∧
    W.cell? ⟨g, n * 8 + 4, none⟩ = some (.int .u8 y4) ∧ W.cell? ⟨g, n * 8 + 5, none⟩ = some (.int .u8 y5) ∧ W.cell? ⟨g, n * 8 + 6, none⟩ = some (.int .u8 y6) ∧ W.cell? ⟨g, n * 8 + 7, none⟩ = some (.int .u8 y7) := by
  have key : ∀ j u, j < 8 → (nums .u8 [y0, y1, y2, y3, y4, y5, y6, y7])[j]? = some u → W.cell? ⟨g, n * 8 + j, none⟩ = some u := by
    intro j u hj hu
    have := h.cells (g := g) rfl (n * 8 + j) u (by rw [flat8_get _ hL n j _ hd hj]; exact hu)
    rwa [add_plain] at this
  exact ⟨key 0 _ (by omega) rfl, key 1 _ (by omega) rfl, key 2 _ (by omega) rfl, key 3 _ (by omega) rfl, key 4 _ (by omega) rfl, key 5 _ (by omega) rfl, key 6 _ (by omega) rfl, key 7 _ (by omega) rfl⟩
theorem allOf_len (s C : List Int) (n : Nat) : ∀ l ∈ allOf s C n, l.length = 8 := by
  intro l hl
  simp only [allOf, List.mem_map] at hl
  obtain ⟨i, _, rfl⟩ := hl
  exact dig8_length _ _
theorem allOf_get (s C : List Int) {n : Nat} (h : n < C.length) : (allOf s C C.length)[n]? = some (dig8 s (rd C (n : Int))) := by
  simp [allOf, rd, List.getD_eq_getElem?_getD, h]

/-- The least distance from the first n words of a code; never more than 8. -/
def fq (s C : List Int) (d : List Int) (n : Nat) : Int := (C.take n).foldl (fun a x => mn a (ham d (dig8 s x))) 8
theorem fq_succ (s C d : List Int) {n : Nat} (h : n < C.length) : fq s C d (n + 1) = mn (fq s C d n) (ham d (dig8 s (rd C (n : Int)))) := by
  unfold fq
  rw [take_rdO h, List.foldl_append]
  rfl
def farL (s C : List Int) (P : Nat) : List Int := (List.range P).map fun (u : Nat) => fq s C (dig8 s (u : Int)) C.length
theorem farL_succ (s C : List Int) (P : Nat) : farL s C (P + 1) = farL s C P ++ [fq s C (dig8 s (P : Int)) C.length] := by simp [farL, List.range_succ]

set_option maxHeartbeats 16000000 in
set_option maxRecDepth 100000 in
theorem farness_calls (A : Option Addr) (c : Nat) (s : List Int) (A1 : Option Addr) (c1 : Nat) (C : List Int) (w : World) (hr : Kd.C (Kd.int .i64) w A s.length s) (hc : s.length ≤ c) (hr1 : Kd.C (Kd.int .i64) w A1 C.length C) (hc1 : C.length ≤ c1) (hs : isSp s = true) (hC : C.all (isW s) = true) (hCl : C.length ≤ 1048576) (hCp : 1 ≤ C.length) :
    Calls Try.prog 53 #[.agg #[.slice A s.length c], .slice A1 C.length c1] w
      fun e w' => ∃ v, e = .returned v ∧ Kd.R (Kd.int .i64) 2 w' w.heap.size (fun _ => True) v (farL s C (prd s).toNat) ∧ Below w.heap.size w w' := by
  have huS := Try.underlying28
  have huD := Try.underlying72
  have HR := Aside0.mk hr
  have HR1 := Aside0.mk hr1
  have HS := Aside0.mk hs
  have HC := Aside0.mk hC
  obtain ⟨kc, hcount⟩ := (Q.count_sp hs).rounds
  have HK := Aside0.mk hcount
  have p0 := isSp_prd1 hs
  have p1 := isSp_prd hs
  clear hr hr1 hs hC hcount
  obtain ⟨P, hP⟩ : ∃ P : Nat, prd s = (P : Int) := ⟨(prd s).toNat, by omega⟩
  have hP2 : (prd s).toNat = P := by omega
  have pP : P ≤ 1024 := by omega
  have pP0 : 1 ≤ P := by omega
  have HP := Aside0.mk hP
  have HP2 := Aside0.mk hP2
  rw [hP2]
  rw [hP] at HK
  clear hP hP2 p0 p1
  obtain ⟨i0, hi, hz0, hz1, hz2⟩ := info_parts infoI
  have HI := Aside0.mk (And.intro hi (And.intro hz0 (And.intro hz1 hz2)))
  clear hi hz0 hz1 hz2
  go_enter Try.func53, Try.ntmps53
  have hcell : (w.alloc (.cells #[.slice A s.length c] 28)).heap[w.heap.size]? = some (.cells #[.slice A s.length c] 28 (0, 0)) := blk_new _ _
  have hB : Below w.heap.size w (w.alloc (.cells #[.slice A s.length c] 28)) := (Below.refl _ _).alloc (Nat.le_refl _) _
  have hcz : (w.alloc (.cells #[.slice A s.length c] 28)).cell? ⟨w.heap.size, 0, none⟩ = some (.slice A s.length c) := blk_cell hcell 0
  go_wp2_with fail
  refine (digitsOfAll_calls A c s A1 c1 C _ (Kd.C_below HR.out hB) hc (Kd.C_below HR1.out hB) hc1 HS.out HC.out hCl).mono ?_
  rintro e w1 ⟨v1, rfl, hO, hb⟩
  obtain ⟨g, cap, rfl, hcap⟩ : ∃ g cap, v1 = .slice (some ⟨g, 0, none⟩) C.length cap ∧ C.length ≤ cap := by
    rcases hO.2 with ⟨_, h⟩ | ⟨g, cap, _, h, _, _, h2, _⟩
    · omega
    · exact ⟨g, cap, h, h2⟩
  have HCAP := Aside0.mk hcap
  have hz1 := hB.size
  have K1 := Aside0.mk (blk_below hcell hb)
  have B1 := Aside0.mk (below_then hB hB.size hb)
  have O1 := Aside0.mk (own_weaken hO hz1)
  clear hcell hB hO hb hcap hcz hz1
  have hcz : (w1.alloc (.cells #[] 2)).cell? ⟨w.heap.size, 0, none⟩ = some (.slice A s.length c) := blk_cell (blk_alloc K1.out _) 0
  go_wp2_with fail
  have hB1 := below_alloc B1.out (.cells #[] 2)
  refine (allDigits_calls A c s _ (Kd.C_below HR.out hB1) hc HS.out kc (by rw [HP.out]; exact HK.out)).mono ?_
  rintro e w2 ⟨v2, rfl, hD, hb⟩
  rw [HP2.out] at hD
  obtain ⟨ga, capa, rfl, hcapa⟩ : ∃ g cap, v2 = .slice (some ⟨g, 0, none⟩) P cap ∧ P ≤ cap := by
    rcases hD.2 with ⟨_, h⟩ | ⟨g, cap, _, h, _, _, h2, _⟩
    · omega
    · exact ⟨g, cap, h, h2⟩
  have HCAPA := Aside0.mk hcapa
  have hs1 := B1.out.size
  have hOut : (w1.alloc (.cells #[] 2)).ownsRow w.heap.size 2 1 (.slice (some ⟨w1.heap.size, 0, none⟩) 0 0) 0 (nums .i64 (farL s C 0)) :=
    ⟨rfl, .inr ⟨w1.heap.size, 0, #[], rfl, by omega, blk_new w1 (.cells #[] 2), by omega, by unfold maxLen; omega, rfl, rfl⟩⟩
  have HO2 := Aside0.mk (pw_own_below hOut hb)
  have HL2 := Aside0.mk (pw_own_below (own_alloc O1.out _) hb)
  have HD2 := Aside0.mk (own_weaken hD hB1.size)
  have HB2 := Aside0.mk (below_then hB1 hB1.size hb)
  clear hB1 hD hb hcapa hOut hcz hs1 K1 B1 O1
  go_wp2_with fail
  go_loopw [6, 19] (fun v i W => ∃ (m : Nat) (vo : Value), m ≤ P ∧ vo = v ∧ i = .int .i64 m ∧ Aside0 (W.ownsRow w.heap.size 2 1 v m (nums .i64 (farL s C m))) ∧ Aside0 (W.ownsRow w.heap.size 72 8 (.slice (some ⟨g, 0, none⟩) C.length cap) C.length (flat8 (allOf s C C.length))) ∧ Aside0 (W.ownsRow w.heap.size 72 8 (.slice (some ⟨ga, 0, none⟩) P capa) P (flat8 (all8 s P))) ∧ Aside0 (Below w.heap.size w W)) (fun _ i _ => P - (intOf i).toNat)
  case atStart => exact ⟨0, _, by omega, rfl, rfl, HO2, HL2, HD2, HB2⟩
  case round =>
    clear HO2 HL2 HD2 HB2
    obtain ⟨m, vo, hm, rfl, rfl, HO, HL, HD, HB⟩ := hrel
    by_cases hmP : m < P
    · obtain ⟨y0, y1, y2, y3, y4, y5, y6, y7, hye⟩ := eight (dig8_length s (m : Int))
      obtain ⟨k0, k1, k2, k3, k4, k5, k6, k7⟩ := row8 HD.out hmP hye
      have HYE := Aside0.mk hye
      clear hye
      go_wp2_with fail
      have HO1 := Aside0.mk (own_alloc HO.out (.cells #[.int .u8 y0, .int .u8 y1, .int .u8 y2, .int .u8 y3, .int .u8 y4, .int .u8 y5, .int .u8 y6, .int .u8 y7] 72))
      have HL1 := Aside0.mk (own_alloc HL.out (.cells #[.int .u8 y0, .int .u8 y1, .int .u8 y2, .int .u8 y3, .int .u8 y4, .int .u8 y5, .int .u8 y6, .int .u8 y7] 72))
      have HD1 := Aside0.mk (own_alloc HD.out (.cells #[.int .u8 y0, .int .u8 y1, .int .u8 y2, .int .u8 y3, .int .u8 y4, .int .u8 y5, .int .u8 y6, .int .u8 y7] 72))
      have HB1 := Aside0.mk (below_alloc HB.out (.cells #[.int .u8 y0, .int .u8 y1, .int .u8 y2, .int .u8 y3, .int .u8 y4, .int .u8 y5, .int .u8 y6, .int .u8 y7] 72))
      have HY1 := Aside0.mk (blk_new wr (.cells #[.int .u8 y0, .int .u8 y1, .int .u8 y2, .int .u8 y3, .int .u8 y4, .int .u8 y5, .int .u8 y6, .int .u8 y7] 72))
      clear k0 k1 k2 k3 k4 k5 k6 k7 HO HL HD HB
      generalize wr.alloc (.cells #[.int .u8 y0, .int .u8 y1, .int .u8 y2, .int .u8 y3, .int .u8 y4, .int .u8 y5, .int .u8 y6, .int .u8 y7] 72) = W1 at *
      generalize wr.heap.size = gd at *
      go_loopw [9, 25] (fun a i W => ∃ (n : Nat) (z : Int), n ≤ C.length ∧ i = .int .i64 n ∧ a = .int .i64 z ∧ Aside0 (z = fq s C [y0, y1, y2, y3, y4, y5, y6, y7] n) ∧ Aside0 (W.ownsRow w.heap.size 2 1 vo m (nums .i64 (farL s C m))) ∧ Aside0 (W.ownsRow w.heap.size 72 8 (.slice (some ⟨g, 0, none⟩) C.length cap) C.length (flat8 (allOf s C C.length))) ∧ Aside0 (W.ownsRow w.heap.size 72 8 (.slice (some ⟨ga, 0, none⟩) P capa) P (flat8 (all8 s P))) ∧ Aside0 (W.heap[gd]? = some (.cells #[.int .u8 y0, .int .u8 y1, .int .u8 y2, .int .u8 y3, .int .u8 y4, .int .u8 y5, .int .u8 y6, .int .u8 y7] 72 (0, 0))) ∧ Aside0 (Below w.heap.size w W)) (fun _ i _ => C.length - (intOf i).toNat)
      case atStart => exact ⟨0, 8, by omega, rfl, rfl, ⟨rfl⟩, HO1, HL1, HD1, HY1, HB1⟩
      case round =>
        clear HO1 HL1 HD1 HB1 HY1
        obtain ⟨n, z, hn, rfl, rfl, HZ, HO, HL, HD, HY, HB⟩ := hrel
        by_cases hlt : n < C.length
        · obtain ⟨x0, x1, x2, x3, x4, x5, x6, x7, hxe⟩ := eight (dig8_length s (rd C (n : Int)))
          have hge := allOf_get s C hlt
          rw [hxe] at hge
          obtain ⟨k0, k1, k2, k3, k4, k5, k6, k7⟩ := row8g HL.out (allOf_len s C _) hge
          have HQ : Aside0 (fq s C [y0, y1, y2, y3, y4, y5, y6, y7] (n + 1) = mn z (ham [y0, y1, y2, y3, y4, y5, y6, y7] [x0, x1, x2, x3, x4, x5, x6, x7])) := ⟨by rw [fq_succ s C _ hlt, hxe, HZ.out]⟩
          clear hge hxe
          have hY2 := blk_alloc HY.out (.cells #[.int .u8 x0, .int .u8 x1, .int .u8 x2, .int .u8 x3, .int .u8 x4, .int .u8 x5, .int .u8 x6, .int .u8 x7] 72)
          have h0 := blk_cell hY2 0
          have h1 := blk_cell hY2 1
          have h2 := blk_cell hY2 2
          have h3 := blk_cell hY2 3
          have h4 := blk_cell hY2 4
          have h5 := blk_cell hY2 5
          have h6 := blk_cell hY2 6
          have h7 := blk_cell hY2 7
          clear hY2
          go_wp2_with fail
          refine (far_calls8 y0 y1 y2 y3 y4 y5 y6 y7 x0 x1 x2 x3 x4 x5 x6 x7 _).mono ?_
          rintro e w3 ⟨rfl, hb⟩
          have HO3 := Aside0.mk (pw_own_below (own_alloc HO.out (.cells #[.int .u8 x0, .int .u8 x1, .int .u8 x2, .int .u8 x3, .int .u8 x4, .int .u8 x5, .int .u8 x6, .int .u8 x7] 72)) hb)
          have HL3 := Aside0.mk (pw_own_below (own_alloc HL.out (.cells #[.int .u8 x0, .int .u8 x1, .int .u8 x2, .int .u8 x3, .int .u8 x4, .int .u8 x5, .int .u8 x6, .int .u8 x7] 72)) hb)
          have HD3 := Aside0.mk (pw_own_below (own_alloc HD.out (.cells #[.int .u8 x0, .int .u8 x1, .int .u8 x2, .int .u8 x3, .int .u8 x4, .int .u8 x5, .int .u8 x6, .int .u8 x7] 72)) hb)
          have HY3 := Aside0.mk (blk_below (blk_alloc HY.out (.cells #[.int .u8 x0, .int .u8 x1, .int .u8 x2, .int .u8 x3, .int .u8 x4, .int .u8 x5, .int .u8 x6, .int .u8 x7] 72)) hb)
          have hB2 := below_alloc HB.out (.cells #[.int .u8 x0, .int .u8 x1, .int .u8 x2, .int .u8 x3, .int .u8 x4, .int .u8 x5, .int .u8 x6, .int .u8 x7] 72)
          have HB3 := Aside0.mk (below_then hB2 hB2.size hb)
          clear k0 k1 k2 k3 k4 k5 k6 k7 h0 h1 h2 h3 h4 h5 h6 h7 HO HL HD HY HB hB2 hb
          go_wp2
          go_roundw
          case rel => exact ⟨n + 1, mn z (ham [y0, y1, y2, y3, y4, y5, y6, y7] [x0, x1, x2, x3, x4, x5, x6, x7]), by omega, by go_num, rfl, ⟨HQ.out.symm⟩, HO3, HL3, HD3, HY3, HB3⟩
          case measure => simp [intOf]; omega
        · have hn2 : n = C.length := by omega
          subst hn2
          have HQ : Aside0 (farL s C (m + 1) = farL s C m ++ [z]) := ⟨by rw [farL_succ, HYE.out, HZ.out]⟩
          clear HZ HY
          have hcapL := HCAP.out
          go_wp2_with (at_builtin; obtain ⟨hi, hz0, hz1, hz2⟩ := HI.out; refine wpList_append_own _ rfl _ _ 22 rfl w.heap.size 2 i0 (.int .i64 0) 1 8 Try.underlying22 hi hz0 hz1 hz2 rfl (by decide) _ m (nums .i64 (farL s C m)) rfl (HO.out.alloc _) ⟨wr.heap.size, 0, none⟩ 1 1 [.int .i64 z] rfl ?c0 ?c1 ?c2 ?c3 ?c4 ?c5 ?_; clear hi hz0 hz1 hz2)
          case c0 => rfl
          case c1 =>
            intro j u hj
            have hb := blk_cell (blk_new wr (.cells #[.int .i64 z] 2)) j
            rw [add_plain, hb]
            simpa using hj
          case c2 => intro u hu; simp only [List.mem_cons, List.not_mem_nil, or_false] at hu; rcases hu with rfl; rfl
          case c3 => unfold maxLen; omega
          case c4 => omega
          case c5 => have := HB.out.size; simp; omega
          intro v' w3 O3 G3 _
          have O4 : Aside0 (w3.ownsRow w.heap.size 2 1 v' (m + 1) (nums .i64 (farL s C (m + 1)))) := ⟨by rw [HQ.out, nums_append]; exact O3⟩
          have HL3 := Aside0.mk (own_other (own_alloc HL.out _) G3 (own_type_ne HL.out HO.out (by decide)))
          have HD3 := Aside0.mk (own_other (own_alloc HD.out _) G3 (own_type_ne HD.out HO.out (by decide)))
          have B3 := Aside0.mk (pw_below_grown (below_alloc HB.out _) _ (by have := HB.out.size; simp; omega) G3 (fun k hk => own_base HO.out k hk))
          clear O3 G3 HO HL HD HB
          go_wp2
          go_roundw
          case rel => exact ⟨m + 1, _, by omega, rfl, by go_num, O4, HL3, HD3, B3⟩
          case measure => simp [intOf]; omega
    · go_wp2
      go_ret
      have hm2 : m = P := by omega
      subst hm2
      refine ⟨_, rfl, ?_, HB.out⟩
      exact Kd.R_of_own (by rw [farL, List.length_map, List.length_range]; exact HO.out) (fun _ _ => trivial)

/-- What the program's farness returns where it is asked of words of a space. -/
def impl_farness.f (l0_0 l1 : List Int) : Option (List Int) := if isSp l0_0 = true ∧ l1.all (isW l0_0) = true ∧ 1 ≤ l1.length ∧ l1.length ≤ 1048576 then some (farL l0_0 l1 (prd l0_0).toNat) else none

theorem impl_farness.calls (A0_0 : Option Addr) (c0_0 : Nat) (l0_0 : List Int) (A1 : Option Addr) (c1 : Nat) (l1 : List Int) (r : List Int) (w : World) (hr0_0 : Kd.C (Kd.int .i64) w A0_0 l0_0.length l0_0) (hc0_0 : l0_0.length ≤ c0_0) (hr1 : Kd.C (Kd.int .i64) w A1 l1.length l1) (hc1 : l1.length ≤ c1) (h : impl_farness.f l0_0 l1 = some r) :
    Calls Try.prog 53 #[.agg #[.slice A0_0 l0_0.length c0_0], .slice A1 l1.length c1] w fun e w' => ∃ v0_ : Value, e = .returned (v0_) ∧ Kd.R (Kd.int .i64) 2 w' w.heap.size (fun _ => True) v0_ r ∧ Below w.heap.size w w' := by
  unfold impl_farness.f at h
  split at h
  · rename_i hc
    obtain rfl := Option.some.inj h
    exact farness_calls A0_0 c0_0 l0_0 A1 c1 l1 w hr0_0 hc0_0 hr1 hc1 hc.1 hc.2.1 hc.2.2.2 hc.2.2.1
  · cases h
end Go.Proofs.Ytcpchmnbjaeolaa.P
