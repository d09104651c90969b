/- The numbers of pairs with all distances: what the program's DistanceCounts returns. -/
import Derived.Test.YtjabkbnbcajdbaaHRows
import Derived.Test.YtjabkbnbcajdbaaHDig
import Derived.Test.YtjabkbnbcajdbaaQGiven
import Derived.Test.YtjabkbnbcajdbaaFimplplaces
set_option linter.unusedVariables false
set_option linter.unusedSimpArgs false
namespace Go.Proofs.Ytjabkbnbcajdbaa.P
open Go.RowKit Go.Proofs.YtjabkbnbcajdbaaW.PrintWords Go.Proofs.YtjabkbnbcajdbaaW.PrintLast Go.Proofs.YtjabkbnbcajdbaaW.PrintMore CC

/-- One more at a place. -/
def incP (L : List Int) (x : Int) : List Int := L.set x.toNat (rd L x + 1)
/-- The counts after the distances from the first m words. -/
def cin (s C d : List Int) (L : List Int) (m : Nat) : List Int := (C.take m).foldl (fun L x => incP L (ham d (dig8 s x))) L
theorem cin_succ (s C d L : List Int) {m : Nat} (h : m < C.length) : cin s C d L (m + 1) = incP (cin s C d L m) (ham d (dig8 s (rd C (m : Int)))) := by
  unfold cin
  rw [take_rdO h, List.foldl_append]
  rfl
def cout (s C : List Int) : Nat → List Int
  | 0 => List.replicate (s.length + 1) 0
  | n + 1 => cin s C (dig8 s (rd C (n : Int))) (cout s C n) C.length
theorem incP_length (L : List Int) (x : Int) : (incP L x).length = L.length := by simp [incP]
theorem cin_length (s C d L : List Int) : ∀ m, (cin s C d L m).length = L.length := by
  intro m
  unfold cin
  generalize C.take m = K
  induction K generalizing L with
  | nil => rfl
  | cons x K ih => rw [List.foldl_cons, ih, incP_length]
theorem cout_length (s C : List Int) : ∀ n, (cout s C n).length = s.length + 1
  | 0 => by simp [cout]
  | n + 1 => by rw [cout, cin_length, cout_length s C n]
/-- The values of a list stay small. -/
def smallP (L : List Int) (b : Int) : Prop := ∀ t ∈ L, 0 ≤ t ∧ t ≤ b
theorem smallP_rd {L : List Int} {b : Int} (h : smallP L b) {x : Int} (h0 : 0 ≤ x) (h1 : x < L.length) : 0 ≤ rd L x ∧ rd L x ≤ b := by
  obtain ⟨n, rfl⟩ := Int.eq_ofNat_of_zero_le h0
  have hn : n < L.length := by omega
  have : rd L (n : Int) = L[n] := by simp [rd, List.getD_eq_getElem?_getD, hn]
  rw [this]
  exact h _ (List.getElem_mem hn)
theorem smallP_inc {L : List Int} {b : Int} (h : smallP L b) {x : Int} (h0 : 0 ≤ x) (h1 : x < L.length) : smallP (incP L x) (b + 1) := by
  intro t ht
  have hr := smallP_rd h h0 h1
  rcases List.mem_or_eq_of_mem_set ht with h' | rfl
  · have := h t h'
    omega
  · omega

def countsR (s C : List Int) : List Int × Int := if Q.rCode s C [] = 0 then (cout s C C.length, 0) else ([], Q.rCode s C [])
set_option maxHeartbeats 16000000 in
set_option maxRecDepth 100000 in
theorem counts_calls (A : Option Addr) (c : Nat) (s : List Int) (A1 : Option Addr) (c1 : Nat) (C : List Int) (w : World) (hr : Kd.C (Kd.int .i64) w A s.length s) (hc : s.length ≤ c) (hr1 : Kd.C (Kd.int .i64) w A1 C.length C) (hc1 : C.length ≤ c1) (hCl : C.length ≤ 1048576) :
    Calls Try.prog 40 #[.agg #[.slice A s.length c], .slice A1 C.length c1] w
      fun e w' => ∃ v, e = .returned (.tuple #[v, .int .i64 (countsR s C).2]) ∧ Kd.R (Kd.int .i64) 2 w' w.heap.size (fun _ => True) v (countsR s C).1 ∧ Below w.heap.size w w' := by
  have huS := Try.underlying28
  have huD := Try.underlying56
  have HR := Aside0.mk hr
  have HR1 := Aside0.mk hr1
  obtain ⟨kb, hbc⟩ := (Q.codeCode_ev s (c := C) (ws := []) hCl (by simp)).rounds
  have HBC := Aside0.mk hbc
  clear hr hr1 hbc
  go_enter Try.func40, Try.ntmps40
  have hcell : (w.alloc (.cells #[.slice A s.length c] 28)).heap[w.heap.size]? = some (.cells #[.slice A s.length c] 28 (0, 0)) := blk_new _ _
  have hB : Below w.heap.size w (w.alloc (.cells #[.slice A s.length c] 28)) := (Below.refl _ _).alloc (Nat.le_refl _) _
  have hcz : (w.alloc (.cells #[.slice A s.length c] 28)).cell? ⟨w.heap.size, 0, none⟩ = some (.slice A s.length c) := blk_cell hcell 0
  go_wp2_with fail
  refine (impl_codeCode.calls kb A c s A1 c1 C none 0 [] (Q.rCode s C []) _ (Kd.C_below HR.out hB) hc (Kd.C_below HR1.out hB) hc1 (Kd.C_nil _ _) (by simp) HBC.out).mono ?_
  rintro e w0 ⟨rfl, hb⟩
  have K1 := Aside0.mk (blk_below hcell hb)
  have B1 := Aside0.mk (below_then hB hB.size hb)
  clear hcell hB hb hcz
  by_cases hz : Q.rCode s C [] = 0
  · have HZ : Aside0 (countsR s C = (cout s C C.length, 0)) := ⟨by unfold countsR; rw [if_pos hz]⟩
    obtain ⟨hs, hC, _⟩ := Q.rCode_zero hz
    have HS := Aside0.mk hs
    have hC2 : C.all (isW s) = true := by rw [List.all_eq_true]; exact Q.isC_words hC
    have HC := Aside0.mk hC2
    have hl := isSp_len hs
    have hCl2 := Q.isC_len hs hC
    rw [hz]
    clear hs hC hC2 hz HBC
    have hcz : w0.cell? ⟨w.heap.size, 0, none⟩ = some (.slice A s.length c) := blk_cell K1.out 0
    have hB1 : Below w.heap.size w w0 := B1.out
    have hmk := print_make_int (P := Try.prog) 22 2 (.int .i64 0) 8 Try.underlying22 infoI rfl (by decide) ((s.length : Int) + 1) (by omega) (by omega)
    have hpl : impl_places.f s = some (s.length : Int) := by
      unfold impl_places.f
      first | rfl | (rw [wrap_id (by omega) (by omega)])
    rw [show ((s.length : Int) + 1).toNat = s.length + 1 by omega] at hmk
    have hwr : IntKind.i64.wrap ((s.length : Int) + 1) = (s.length : Int) + 1 := by
      rw [IntKind.wrap_i64]; omega
    rw [← hwr] at hmk
    clear hwr
    go_upto_region 4 with (fail)
    go_cut [7, 8] (fun v7 v8 W => ∃ A8 cap g8, v7 = .slice (some ⟨g8, 0, none⟩) (s.length + 1) (s.length + 1) ∧ v8 = .slice A8 C.length cap ∧ Aside0 (C.length ≤ cap) ∧ Aside0 (W.ownsRow w.heap.size 56 8 (.slice A8 C.length cap) C.length (flat8 (allOf s C C.length))) ∧ Aside0 (W.ownsRow w.heap.size 2 1 (.slice (some ⟨g8, 0, none⟩) (s.length + 1) (s.length + 1)) (s.length + 1) (nums .i64 (cout s C 0))) ∧ Aside0 (Below w.heap.size w W))
    case first =>
      go_region_held3 (fun w' => w'.cell? ⟨w.heap.size, 0, none⟩ = some (.slice A s.length c) ∧ Below w.heap.size w w') (first | exact ⟨hcz, below_drew hB1⟩ | exact keepS hb (by assumption) | (refine keepS ((Below.refl _ _).alloc (Nat.le_refl _) _) ?_; assumption))
        (first
          | (go_at_call 81; refine (impl_places.calls A c s (s.length : Int) _ ?k1 hc hpl).mono ?_; (case k1 => exact Kd.C_below HR.out (by first | assumption | exact (by assumption : _ ∧ Below _ _ _).2)); rintro e w' ⟨rfl, hb⟩; have hz2 := hb.size; obtain ⟨wp, hwp⟩ : ∃ wp : World, wp = w' := ⟨_, rfl⟩)
          | (go_at_call 82; refine (digitsOfAll_calls A c s A1 c1 C _ ?k1 hc ?k2 hc1 HS.out HC.out hCl).mono ?_; (case k1 => exact Kd.C_below HR.out (by first | assumption | exact (by assumption : _ ∧ Below _ _ _).2)); (case k2 => exact Kd.C_below HR1.out (by first | assumption | exact (by assumption : _ ∧ Below _ _ _).2)); rintro e w' ⟨v1, rfl, hO, hb⟩; have hz1 := hb.size))
      all_goals go_wp2
      all_goals go_meet
      all_goals
        subst hwp
        have hBB := (by assumption : _ ∧ Below w.heap.size w _).2
        have hz0 := hB1.size
        have hz3 : w0.heap.size ≤ wp.heap.size := by simpa using hz2
        obtain ⟨A8, cap, rfl, hcap⟩ : ∃ A8 cap, v1 = .slice A8 C.length cap ∧ C.length ≤ cap := by
          rcases hO.2 with ⟨hv, h⟩ | ⟨g, cap, _, h, _, _, h2, _⟩
          · exact ⟨none, 0, by rw [hv, h], by omega⟩
          · exact ⟨some ⟨g, 0, none⟩, cap, h, h2⟩
        have hrep : (List.replicate (s.length + 1) (0 : Int)) = cout s C 0 := rfl
      case rel =>
        first
          | (have hm := own_made' w' w.heap.size 2 .i64 (s.length + 1) (by omega) (by omega)
             rw [List.length_replicate, hrep] at hm
             exact ⟨A8, cap, w'.heap.size, rfl, rfl, ⟨hcap⟩, ⟨own_weaken (own_alloc hO _) (by omega)⟩, ⟨hm⟩, ⟨hBB⟩⟩)
          | (have hm := own_made' wp w.heap.size 2 .i64 (s.length + 1) (by omega) (by omega)
             rw [List.length_replicate, hrep] at hm
             exact ⟨A8, cap, wp.heap.size, rfl, rfl, ⟨hcap⟩, ⟨own_weaken hO (by simp; omega)⟩, ⟨pw_own_below hm hb⟩, ⟨hBB⟩⟩)
      case rel =>
        first
          | (have hm := own_made' w' w.heap.size 2 .i64 (s.length + 1) (by omega) (by omega)
             rw [List.length_replicate, hrep] at hm
             exact ⟨A8, cap, w'.heap.size, rfl, rfl, ⟨hcap⟩, ⟨own_weaken (own_alloc hO _) (by omega)⟩, ⟨hm⟩, ⟨hBB⟩⟩)
          | (have hm := own_made' wp w.heap.size 2 .i64 (s.length + 1) (by omega) (by omega)
             rw [List.length_replicate, hrep] at hm
             exact ⟨A8, cap, wp.heap.size, rfl, rfl, ⟨hcap⟩, ⟨own_weaken hO (by simp; omega)⟩, ⟨pw_own_below hm hb⟩, ⟨hBB⟩⟩)
    case rest =>
      obtain ⟨A8, cap, g8, rfl, rfl, HCAP, HL, HO, HB⟩ := hcut
      clear hcz hB1 hmk hpl K1 B1
      have hcap := HCAP.out
      go_wp2_with fail
      go_loopw [28] (fun i W => ∃ (n : Nat), n ≤ C.length ∧ i = .int .i64 n ∧ Aside0 (smallP (cout s C n) ((n : Int) * 1024)) ∧ Aside0 (W.ownsRow w.heap.size 56 8 (.slice A8 C.length cap) C.length (flat8 (allOf s C C.length))) ∧ Aside0 (W.ownsRow w.heap.size 2 1 (.slice (some ⟨g8, 0, none⟩) (s.length + 1) (s.length + 1)) (s.length + 1) (nums .i64 (cout s C n))) ∧ Aside0 (Below w.heap.size w W)) (fun i _ => C.length - (intOf i).toNat)
      case atStart => exact ⟨0, by omega, rfl, ⟨fun t ht => by have := List.eq_of_mem_replicate ht; omega⟩, HL, HO, HB⟩
      case round =>
        clear HL HO HB
        obtain ⟨n, hn, rfl, HSM, HL, HO, HB⟩ := hrel
        by_cases hlt : n < C.length
        · obtain ⟨g, rfl⟩ : ∃ g, A8 = some ⟨g, 0, none⟩ := by
            rcases HL.out.2 with ⟨_, h⟩ | ⟨g, cap', _, h, _⟩
            · omega
            · injection h with h1
              exact ⟨g, h1⟩
          obtain ⟨y0, y1, y2, y3, y4, y5, y6, y7, hye⟩ := eight (dig8_length s (rd C (n : Int)))
          have hge := allOf_get s C hlt
          rw [hye] at hge
          obtain ⟨k0, k1, k2, k3, k4, k5, k6, k7⟩ := row8g HL.out (allOf_len s C _) hge
          have HYE : Aside0 (cout s C (n + 1) = cin s C [y0, y1, y2, y3, y4, y5, y6, y7] (cout s C n) C.length) := ⟨by rw [cout, hye]⟩
          have HW1 := Aside0.mk (code_rdO HC.out hlt)
          have HHY := Aside0.mk hye
          clear hge hye
          go_wp2_with fail
          have HL1 := Aside0.mk (own_alloc HL.out (.cells #[.int .u8 y0, .int .u8 y1, .int .u8 y2, .int .u8 y3, .int .u8 y4, .int .u8 y5, .int .u8 y6, .int .u8 y7] 56))
          have HO1 := Aside0.mk (own_alloc HO.out (.cells #[.int .u8 y0, .int .u8 y1, .int .u8 y2, .int .u8 y3, .int .u8 y4, .int .u8 y5, .int .u8 y6, .int .u8 y7] 56))
          have HB1 := Aside0.mk (below_alloc HB.out (.cells #[.int .u8 y0, .int .u8 y1, .int .u8 y2, .int .u8 y3, .int .u8 y4, .int .u8 y5, .int .u8 y6, .int .u8 y7] 56))
          have HY1 := Aside0.mk (blk_new wr (.cells #[.int .u8 y0, .int .u8 y1, .int .u8 y2, .int .u8 y3, .int .u8 y4, .int .u8 y5, .int .u8 y6, .int .u8 y7] 56))
          clear k0 k1 k2 k3 k4 k5 k6 k7 HL HB HO
          generalize wr.alloc (.cells #[.int .u8 y0, .int .u8 y1, .int .u8 y2, .int .u8 y3, .int .u8 y4, .int .u8 y5, .int .u8 y6, .int .u8 y7] 56) = W1 at *
          generalize wr.heap.size = gd at *
          go_loopw [34] (fun i W => ∃ (m : Nat), m ≤ C.length ∧ i = .int .i64 m ∧ Aside0 (smallP (cin s C [y0, y1, y2, y3, y4, y5, y6, y7] (cout s C n) m) ((n : Int) * 1024 + m)) ∧ Aside0 (W.ownsRow w.heap.size 56 8 (.slice (some ⟨g, 0, none⟩) C.length cap) C.length (flat8 (allOf s C C.length))) ∧ Aside0 (W.ownsRow w.heap.size 2 1 (.slice (some ⟨g8, 0, none⟩) (s.length + 1) (s.length + 1)) (s.length + 1) (nums .i64 (cin s C [y0, y1, y2, y3, y4, y5, y6, y7] (cout s C n) m))) ∧ Aside0 (W.heap[gd]? = some (.cells #[.int .u8 y0, .int .u8 y1, .int .u8 y2, .int .u8 y3, .int .u8 y4, .int .u8 y5, .int .u8 y6, .int .u8 y7] 56 (0, 0))) ∧ Aside0 (Below w.heap.size w W)) (fun i _ => C.length - (intOf i).toNat)
          case atStart => exact ⟨0, by omega, rfl, ⟨by have := HSM.out; simpa [cin] using this⟩, HL1, HO1, HY1, HB1⟩
          case round =>
            clear HL1 HB1 HY1 HO1
            obtain ⟨m, hm, rfl, HS2, HL, HO, HY, HB⟩ := hrel
            by_cases hlm : m < C.length
            · obtain ⟨x0, x1, x2, x3, x4, x5, x6, x7, hxe⟩ := eight (dig8_length s (rd C (m : Int)))
              have hge := allOf_get s C hlm
              rw [hxe] at hge
              obtain ⟨k0, k1, k2, k3, k4, k5, k6, k7⟩ := row8g HL.out (allOf_len s C _) hge
              have HQ : Aside0 (cin s C [y0, y1, y2, y3, y4, y5, y6, y7] (cout s C n) (m + 1) = incP (cin s C [y0, y1, y2, y3, y4, y5, y6, y7] (cout s C n) m) (ham [y0, y1, y2, y3, y4, y5, y6, y7] [x0, x1, x2, x3, x4, x5, x6, x7])) := ⟨by rw [cin_succ s C _ _ hlm, hxe]⟩
              have hh : 0 ≤ ham [y0, y1, y2, y3, y4, y5, y6, y7] [x0, x1, x2, x3, x4, x5, x6, x7] ∧ ham [y0, y1, y2, y3, y4, y5, y6, y7] [x0, x1, x2, x3, x4, x5, x6, x7] ≤ s.length := by
                rw [← HHY.out, ← hxe, ham_dig8 hl]
                exact ⟨dist_nonneg _ _ _, dist_le _ _ _⟩
              clear hge hxe
              have hY2 := blk_alloc HY.out (.cells #[.int .u8 x0, .int .u8 x1, .int .u8 x2, .int .u8 x3, .int .u8 x4, .int .u8 x5, .int .u8 x6, .int .u8 x7] 56)
              have h0 := blk_cell hY2 0
              have h1 := blk_cell hY2 1
              have h2 := blk_cell hY2 2
              have h3 := blk_cell hY2 3
              have h4 := blk_cell hY2 4
              have h5 := blk_cell hY2 5
              have h6 := blk_cell hY2 6
              have h7 := blk_cell hY2 7
              clear hY2
              go_wp2_with fail
              refine (far_calls8 y0 y1 y2 y3 y4 y5 y6 y7 x0 x1 x2 x3 x4 x5 x6 x7 _).mono ?_
              rintro e w3 ⟨rfl, hb⟩
              have HL3 := Aside0.mk (pw_own_below (own_alloc HL.out (.cells #[.int .u8 x0, .int .u8 x1, .int .u8 x2, .int .u8 x3, .int .u8 x4, .int .u8 x5, .int .u8 x6, .int .u8 x7] 56)) hb)
              have HO3 := Aside0.mk (pw_own_below (own_alloc HO.out (.cells #[.int .u8 x0, .int .u8 x1, .int .u8 x2, .int .u8 x3, .int .u8 x4, .int .u8 x5, .int .u8 x6, .int .u8 x7] 56)) hb)
              have HY3 := Aside0.mk (blk_below (blk_alloc HY.out (.cells #[.int .u8 x0, .int .u8 x1, .int .u8 x2, .int .u8 x3, .int .u8 x4, .int .u8 x5, .int .u8 x6, .int .u8 x7] 56)) hb)
              have hB2 := below_alloc HB.out (.cells #[.int .u8 x0, .int .u8 x1, .int .u8 x2, .int .u8 x3, .int .u8 x4, .int .u8 x5, .int .u8 x6, .int .u8 x7] 56)
              have HB3 := Aside0.mk (below_then hB2 hB2.size hb)
              clear k0 k1 k2 k3 k4 k5 k6 k7 h0 h1 h2 h3 h4 h5 h6 h7 HL HY HB HO hB2 hb
              generalize ham [y0, y1, y2, y3, y4, y5, y6, y7] [x0, x1, x2, x3, x4, x5, x6, x7] = z at *
              have hlen : (cin s C [y0, y1, y2, y3, y4, y5, y6, y7] (cout s C n) m).length = s.length + 1 := by rw [cin_length, cout_length]
              have hsm := smallP_rd HS2.out (x := z) hh.1 (by rw [hlen]; omega)
              have hsi : smallP (incP (cin s C [y0, y1, y2, y3, y4, y5, y6, y7] (cout s C n) m) z) ((n : Int) * 1024 + m + 1) := smallP_inc HS2.out hh.1 (by rw [hlen]; omega)
              have HSI : Aside0 (smallP (cin s C [y0, y1, y2, y3, y4, y5, y6, y7] (cout s C n) (m + 1)) ((n : Int) * 1024 + ((m + 1 : Nat) : Int))) := ⟨by rw [HQ.out, show (n : Int) * 1024 + ((m + 1 : Nat) : Int) = (n : Int) * 1024 + m + 1 by omega]; exact hsi⟩
              obtain ⟨o1, o2⟩ := own_at HO3.out z hh.1 (by omega)
              have hst := own_store HO3.out z (rd (cin s C [y0, y1, y2, y3, y4, y5, y6, y7] (cout s C n) m) z + 1)
              have hee : (cin s C [y0, y1, y2, y3, y4, y5, y6, y7] (cout s C n) m).set z.toNat (rd (cin s C [y0, y1, y2, y3, y4, y5, y6, y7] (cout s C n) m) z + 1) = cin s C [y0, y1, y2, y3, y4, y5, y6, y7] (cout s C n) (m + 1) := by rw [HQ.out]; rfl
              rw [hee] at hst
              have HST := Aside0.mk hst
              have HL4 := Aside0.mk (own_other HL3.out hst.2 (own_type_ne HL3.out HO3.out (by decide)))
              have HB4 := Aside0.mk (pw_below_grown HB3.out _ HB3.out.size hst.2 (fun k hk => by injection hk with hk; subst hk; exact own_base HO3.out _ rfl))
              have HY4 := Aside0.mk (blk_grown HY3.out hst.2 (own_ne HO3.out HY3.out (by decide)))
              clear hst hee hsi HQ HS2 hlen
              obtain ⟨h00, h01⟩ := hh
              generalize rd (cin s C [y0, y1, y2, y3, y4, y5, y6, y7] (cout s C n) m) z = q at *
              go_wp2
              go_roundw
              case rel => exact ⟨m + 1, by omega, by go_num, HSI, HL4, ⟨HST.out.1⟩, HY4, HB4⟩
              case measure => simp [intOf]; omega
            · have hm2 : m = C.length := by omega
              subst hm2
              have HS3 : Aside0 (smallP (cout s C (n + 1)) (((n + 1 : Nat) : Int) * 1024)) := ⟨by
                rw [HYE.out]
                intro t ht
                have := HS2.out t ht
                omega⟩
              have HO3 : Aside0 (wr.ownsRow w.heap.size 2 1 (.slice (some ⟨g8, 0, none⟩) (s.length + 1) (s.length + 1)) (s.length + 1) (nums .i64 (cout s C (n + 1)))) := ⟨by rw [HYE.out]; exact HO.out⟩
              clear HS2 HO HYE
              go_wp2
              go_roundw
              case rel => exact ⟨n + 1, by omega, by go_num, HS3, HL, HO3, HB⟩
              case measure => simp [intOf]; omega
        · go_wp2
          go_ret2
          have hn2 : n = C.length := by omega
          subst hn2
          rw [HZ.out]
          exact ⟨_, rfl, Kd.R_of_own (by rw [cout_length]; exact HO.out) (fun _ _ => trivial), HB.out⟩
  · have HZ : Aside0 (countsR s C = ([], Q.rCode s C [])) := ⟨by unfold countsR; rw [if_neg hz]⟩
    clear HBC
    generalize Q.rCode s C [] = z at *
    go_wp2
    go_ret2
    rw [HZ.out]
    exact ⟨_, rfl, Kd.R_nil _ _ _ _ _, B1.out⟩

def impl_DistanceCounts.f (l0_0 l1 : List Int) : Option (List Int × Int) := if l1.length ≤ 1048576 then some (countsR l0_0 l1) else none

theorem impl_DistanceCounts.calls (A0_0 : Option Addr) (c0_0 : Nat) (l0_0 : List Int) (A1 : Option Addr) (c1 : Nat) (l1 : List Int) (r1 : List Int) (r2 : Int) (w : World) (hr0_0 : Kd.C (Kd.int .i64) w A0_0 l0_0.length l0_0) (hc0_0 : l0_0.length ≤ c0_0) (hr1 : Kd.C (Kd.int .i64) w A1 l1.length l1) (hc1 : l1.length ≤ c1) (h : impl_DistanceCounts.f l0_0 l1 = some (r1, r2)) :
    Calls Try.prog 40 #[.agg #[.slice A0_0 l0_0.length c0_0], .slice A1 l1.length c1] w fun e w' => ∃ v0_ : Value, e = .returned (.tuple #[v0_, .int .i64 r2]) ∧ Kd.R (Kd.int .i64) 2 w' w.heap.size (fun _ => True) v0_ r1 ∧ Below w.heap.size w w' := by
  unfold impl_DistanceCounts.f at h
  split at h
  · rename_i hl
    obtain h2 := Option.some.inj h
    have e1 : (countsR l0_0 l1).1 = r1 := by rw [h2]
    have e2 : (countsR l0_0 l1).2 = r2 := by rw [h2]
    subst e1 e2
    exact counts_calls A0_0 c0_0 l0_0 A1 c1 l1 w hr0_0 hc0_0 hr1 hc1 hl
  · cases h
end Go.Proofs.Ytjabkbnbcajdbaa.P
