/- How often each word is covered: what the program's times returns. -/
import Derived.Test.YthcodiknghfmmaaHThose0
import Derived.Test.YthcodiknghfmmaaQBase
set_option linter.unusedVariables false
set_option linter.unusedSimpArgs false
namespace Go.Proofs.Ythcodiknghfmmaa.P
open Go.RowKit Go.Proofs.YthcodiknghfmmaaW.PrintWords Go.Proofs.YthcodiknghfmmaaW.PrintLast Go.Proofs.YthcodiknghfmmaaW.PrintMore CC

/-- The first m of P numbers told by f, the others by g. -/
def mix (f g : Nat → Int) (P m : Nat) : List Int := (List.range P).map fun u => if u < m then f u else g u
theorem mix_length (f g : Nat → Int) (P m : Nat) : (mix f g P m).length = P := by simp [mix]
theorem mix_zero (f g : Nat → Int) (P : Nat) : mix f g P 0 = (List.range P).map g := by simp [mix]
theorem mix_all (f g : Nat → Int) (P : Nat) : mix f g P P = (List.range P).map f := by
  unfold mix
  apply List.map_congr_left
  intro u hu
  rw [if_pos (List.mem_range.1 hu)]
theorem mix_set (f g : Nat → Int) {P m : Nat} (h : m < P) : (mix f g P m).set m (f m) = mix f g P (m + 1) := by
  apply List.ext_getElem?
  intro k
  by_cases hk : k = m
  · subst hk
    rw [List.getElem?_set_self (by rw [mix_length]; exact h)]
    simp [mix, h]
  · rw [List.getElem?_set_ne (fun e => hk e.symm)]
    simp only [mix, List.getElem?_map]
    by_cases hp : k < P
    · simp only [List.getElem?_range hp, Option.map_some, Option.some.injEq]
      by_cases h1 : k < m
      · rw [if_pos h1, if_pos (by omega)]
      · rw [if_neg h1, if_neg (by omega)]
    · rw [List.getElem?_eq_none (by simp; omega)]
      rfl
theorem mix_skip (f g : Nat → Int) {P m : Nat} (h : m < P) (e : f m = g m) : mix f g P m = mix f g P (m + 1) := by
  unfold mix
  apply List.map_congr_left
  intro u hu
  by_cases h1 : u < m
  · rw [if_pos h1, if_pos (by omega)]
  · by_cases h2 : u = m
    · subst h2
      rw [if_neg h1, if_pos (by omega), e]
    · rw [if_neg h1, if_neg (by omega)]
theorem mix_rd (f g : Nat → Int) {P m : Nat} (h : m < P) : rd (mix f g P m) (m : Int) = g m := by
  simp [rd, mix, List.getD_eq_getElem?_getD, h]

/-- How often the first n words of a code cover a word. -/
def tm (s c : List Int) (r : Int) (n u : Nat) : Int := (((c.take n).countP fun w => decide (ham (dig8 s w) (dig8 s (u : Int)) ≤ r) : Nat) : Int)
theorem tm_nonneg (s c : List Int) (r : Int) (n u : Nat) : 0 ≤ tm s c r n u := by unfold tm; omega
theorem tm_le (s c : List Int) (r : Int) (n u : Nat) : tm s c r n u ≤ n := by
  unfold tm
  have h1 := List.countP_le_length (p := fun w => decide (ham (dig8 s w) (dig8 s (u : Int)) ≤ r)) (l := c.take n)
  have h2 : (c.take n).length ≤ n := List.length_take_le _ _
  omega
theorem tm_succ (s c : List Int) (r : Int) {n : Nat} (h : n < c.length) (u : Nat) : tm s c r (n + 1) u = tm s c r n u + if ham (dig8 s (rd c (n : Int))) (dig8 s (u : Int)) ≤ r then 1 else 0 := by
  unfold tm
  rw [take_rd8 h, List.countP_append]
  by_cases hh : ham (dig8 s (rd c (n : Int))) (dig8 s (u : Int)) ≤ r
  · simp [hh]
  · simp [hh]
theorem own_type_ne' {w : World} {b b' : Nat} {e e' : TypeId} {s s' n n' g : Nat} {v : Value} {len cap : Nat} {xs xs' : List Value} (h : w.ownsRow b e s v n xs) (h' : w.ownsRow b' e' s' (.slice (some ⟨g, 0, none⟩) len cap) n' xs') (hne : e ≠ e') : v.ownBlock = none ∨ v.ownBlock ≠ some g := own_type_ne h h' hne
def timesL (s c : List Int) (r : Int) : List Int := (List.range (prd s).toNat).map fun u => tm s c r c.length u

theorem code_rd {s c : List Int} (hc : c.all (isW s) = true) {n : Nat} (h : n < c.length) : 0 ≤ rd c (n : Int) ∧ rd c (n : Int) < prd s := by
  have : rd c (n : Int) = c[n] := by simp [rd, List.getD_eq_getElem?_getD, h]
  rw [this, ← isW_iff]
  exact List.all_eq_true.1 hc _ (List.getElem_mem h)

set_option maxHeartbeats 16000000 in
set_option maxRecDepth 100000 in
theorem times_calls (A : Option Addr) (c : Nat) (s : List Int) (A1 : Option Addr) (c1 : Nat) (C : List Int) (r : Int) (w : World) (hr : Kd.C (Kd.int .i64) w A s.length s) (hc : s.length ≤ c) (hr1 : Kd.C (Kd.int .i64) w A1 C.length C) (hc1 : C.length ≤ c1) (hs : isSp s = true) (hC : C.all (isW s) = true) (hCl : C.length ≤ 1048576) :
    Calls Try.prog 61 #[.agg #[.slice A s.length c], .slice A1 C.length c1, .int .i64 r] w
      fun e w' => ∃ v, e = .returned v ∧ Kd.R (Kd.int .i64) 2 w' w.heap.size (fun _ => True) v (timesL s C r) ∧ Below w.heap.size w w' := by
  have huS := Try.underlying28
  have huD := Try.underlying52
  have HR := Aside0.mk hr
  have HR1 := Aside0.mk hr1
  have HS := Aside0.mk hs
  have HC := Aside0.mk hC
  obtain ⟨kc, hcount⟩ := (Q.count_sp hs).rounds
  have HK := Aside0.mk hcount
  have p0 := isSp_prd1 hs
  have p1 := isSp_prd hs
  clear hr hr1 hs hC hcount
  obtain ⟨P, hP⟩ : ∃ P : Nat, prd s = (P : Int) := ⟨(prd s).toNat, by omega⟩
  have hP2 : (prd s).toNat = P := by omega
  have pP : P ≤ 1024 := by omega
  have pP0 : 1 ≤ P := by omega
  have HP := Aside0.mk hP
  have HP2 := Aside0.mk hP2
  have HT : Aside0 (timesL s C r = (List.range P).map fun u => tm s C r C.length u) := ⟨by unfold timesL; rw [hP2]⟩
  rw [hP] at HK
  clear hP hP2 p0 p1
  generalize timesL s C r = R at *
  go_enter Try.func61, Try.ntmps61
  have hcell : (w.alloc (.cells #[.slice A s.length c] 28)).cell? ⟨w.heap.size, 0, none⟩ = some (.slice A s.length c) := blk_cell (blk_new _ _) 0
  have hB : Below w.heap.size w (w.alloc (.cells #[.slice A s.length c] 28)) := (Below.refl _ _).alloc (Nat.le_refl _) _
  have hmk := print_make_int (P := Try.prog) 22 2 (.int .i64 0) 8 Try.underlying22 infoI rfl (by decide) (P : Int) (by omega) (by omega)
  rw [Int.toNat_natCast] at hmk
  go_upto_region 1 with (fail)
  go_cut [7, 8] (fun v7 v8 W => ∃ g cap g8, v7 = .slice (some ⟨g, 0, none⟩) P cap ∧ v8 = .slice (some ⟨g8, 0, none⟩) P P ∧ Aside0 (P ≤ cap) ∧ Aside0 (W.ownsRow w.heap.size 52 8 (.slice (some ⟨g, 0, none⟩) P cap) P (flat8 (all8 s P))) ∧ Aside0 (W.ownsRow w.heap.size 2 1 (.slice (some ⟨g8, 0, none⟩) P P) P (nums .i64 ((List.range P).map fun u => tm s C r 0 u))) ∧ Aside0 (Below w.heap.size w W))
  case first =>
    go_region_held3 (fun w' => w'.cell? ⟨w.heap.size, 0, none⟩ = some (.slice A s.length c) ∧ Below w.heap.size w w') (first | exact ⟨hcell, below_drew hB⟩ | exact keepS hb (by assumption) | (refine keepS ((Below.refl _ _).alloc (Nat.le_refl _) _) ?_; assumption))
      (first
        | (go_at_call 60; refine (allDigits_calls A c s _ ?k1 hc HS.out kc ?k2).mono ?_; (case k1 => exact Kd.C_below HR.out (by first | assumption | exact (by assumption : _ ∧ Below _ _ _).2)); (case k2 => rw [HP.out]; exact HK.out); rintro e w' ⟨v1, rfl, hO, hb⟩; have hz1 := hb.size)
        | (go_at_call 47; refine (impl_count.calls kc A c s P _ ?k1 hc HK.out).mono ?_; (case k1 => exact Kd.C_below HR.out (by first | assumption | exact (by assumption : _ ∧ Below _ _ _).2)); rintro e w' ⟨rfl, hb⟩; have hz2 := hb.size))
    all_goals go_wp2
    all_goals go_meet
    case rel =>
      rw [HP2.out] at hO
      obtain ⟨g, cap, rfl, hcap⟩ : ∃ g cap, v1 = .slice (some ⟨g, 0, none⟩) P cap ∧ P ≤ cap := by
        rcases hO.2 with ⟨_, h⟩ | ⟨g, cap, _, h, _, _, h2, _⟩
        · omega
        · exact ⟨g, cap, h, h2⟩
      have hBB := (by assumption : _ ∧ Below w.heap.size w (w'.alloc (.cells (madeCells #[.int .i64 0] P) 2))).2
      have hz : (List.range P).map (fun u => tm s C r 0 u) = List.replicate P 0 := by
        rw [List.eq_replicate_iff]
        refine ⟨by simp, fun b hb => ?_⟩
        simp only [List.mem_map] at hb
        obtain ⟨u, _, rfl⟩ := hb
        simp [tm]
      have hm := own_made' w' w.heap.size 2 .i64 P (by simp at hz1; omega) (by omega)
      rw [List.length_replicate, ← hz] at hm
      exact ⟨g, cap, w'.heap.size, rfl, rfl, ⟨hcap⟩, ⟨own_weaken (own_alloc (pw_own_below hO hb) _) (by first | (simp; done) | (simp; omega))⟩, ⟨hm⟩, ⟨hBB⟩⟩
  case rest =>
    obtain ⟨g, cap, g8, rfl, rfl, HCAP, HD, HO, HB⟩ := hcut
    clear hcell hB hmk
    have HO := Aside0.mk HO.out
    go_wp2_with fail
    go_loopw [20] (fun i W => ∃ (n : Nat), n ≤ C.length ∧ i = .int .i64 n ∧ Aside0 (W.ownsRow w.heap.size 52 8 (.slice (some ⟨g, 0, none⟩) P cap) P (flat8 (all8 s P))) ∧ Aside0 (W.ownsRow w.heap.size 2 1 (.slice (some ⟨g8, 0, none⟩) P P) P (nums .i64 ((List.range P).map fun u => tm s C r n u))) ∧ Aside0 (Below w.heap.size w W)) (fun i _ => C.length - (intOf i).toNat)
    case atStart => exact ⟨0, by omega, rfl, HD, HO, HB⟩
    case round =>
      clear HD HO HB
      obtain ⟨n, hn, rfl, HD, HO, HB⟩ := hrel
      obtain ⟨wo, rfl⟩ : ∃ wo : World, wo = wr := ⟨_, rfl⟩
      by_cases hlt : n < C.length
      · obtain ⟨ad1, e1, _⟩ := Kd.at_int HR1.out (n : Int) (by omega) (by omega)
        subst e1
        have hx := rd_cell HR1.out HB.out n hlt
        obtain ⟨c0, c1'⟩ := code_rd HC.out hlt
        rw [HP.out] at c1'
        obtain ⟨wn, hwn⟩ : ∃ wn : Nat, rd C (n : Int) = (wn : Int) := ⟨(rd C (n : Int)).toNat, by omega⟩
        rw [hwn] at hx c1'
        have hwP : wn < P := by omega
        have HW := Aside0.mk hwn
        have HTS : Aside0 (∀ u, tm s C r (n + 1) u = tm s C r n u + if ham (dig8 s (wn : Int)) (dig8 s (u : Int)) ≤ r then 1 else 0) := ⟨fun u => by rw [tm_succ s C r hlt u, hwn]⟩
        clear c0 c1' hwn
        obtain ⟨x0, x1, x2, x3, x4, x5, x6, x7, hxe⟩ := eight (dig8_length s (wn : Int))
        have HXE := Aside0.mk hxe
        clear hxe
        go_wp2_with fail
        go_loopw [26] (fun i W => ∃ (m : Nat), m ≤ P ∧ i = .int .i64 m ∧ Aside0 (W.ownsRow w.heap.size 52 8 (.slice (some ⟨g, 0, none⟩) P cap) P (flat8 (all8 s P))) ∧ Aside0 (W.ownsRow w.heap.size 2 1 (.slice (some ⟨g8, 0, none⟩) P P) P (nums .i64 (mix (tm s C r (n + 1)) (tm s C r n) P m))) ∧ Aside0 (Below w.heap.size w W)) (fun i _ => P - (intOf i).toNat)
        case atStart => exact ⟨0, by omega, rfl, HD, ⟨by rw [mix_zero]; exact HO.out⟩, HB⟩
        case round =>
          clear HD HO HB hx
          obtain ⟨m, hm, rfl, HD, HO, HB⟩ := hrel
          by_cases hmP : m < P
          · obtain ⟨y0, y1, y2, y3, y4, y5, y6, y7, hye⟩ := eight (dig8_length s (m : Int))
            obtain ⟨k0, k1, k2, k3, k4, k5, k6, k7⟩ := row8 HD.out hmP hye
            have HT1 := Aside0.mk (HTS.out m)
            rw [HXE.out, hye] at HT1
            have hMS := mix_set (tm s C r (n + 1)) (tm s C r n) hmP
            have hMR := mix_rd (tm s C r (n + 1)) (tm s C r n) hmP
            have hMK := fun e => mix_skip (tm s C r (n + 1)) (tm s C r n) hmP e
            have hv0 := tm_nonneg s C r n m
            have hv1 := tm_le s C r n m
            have HMS := Aside0.mk hMS
            have HMR := Aside0.mk hMR
            have HMK := Aside0.mk hMK
            clear hye hMS hMR hMK
            go_wp2_with fail
            have HD1 := Aside0.mk (own_alloc HD.out (.cells #[.int .u8 y0, .int .u8 y1, .int .u8 y2, .int .u8 y3, .int .u8 y4, .int .u8 y5, .int .u8 y6, .int .u8 y7] 52))
            have HO1 := Aside0.mk (own_alloc HO.out (.cells #[.int .u8 y0, .int .u8 y1, .int .u8 y2, .int .u8 y3, .int .u8 y4, .int .u8 y5, .int .u8 y6, .int .u8 y7] 52))
            have HB1 := Aside0.mk (below_alloc HB.out (.cells #[.int .u8 y0, .int .u8 y1, .int .u8 y2, .int .u8 y3, .int .u8 y4, .int .u8 y5, .int .u8 y6, .int .u8 y7] 52))
            have HY := blk_new wr (.cells #[.int .u8 y0, .int .u8 y1, .int .u8 y2, .int .u8 y3, .int .u8 y4, .int .u8 y5, .int .u8 y6, .int .u8 y7] 52)
            obtain ⟨f0, f1, f2, f3, f4, f5, f6, f7⟩ := row8 HD1.out hwP HXE.out
            clear k0 k1 k2 k3 k4 k5 k6 k7 HD HO HB
            generalize wr.alloc (.cells #[.int .u8 y0, .int .u8 y1, .int .u8 y2, .int .u8 y3, .int .u8 y4, .int .u8 y5, .int .u8 y6, .int .u8 y7] 52) = W1 at *
            generalize wr.heap.size = gy at *
            have h0 : W1.cell? ⟨gy, 0, none⟩ = some (.int .u8 y0) := blk_cell HY 0
            have h1 : W1.cell? ⟨gy, 1, none⟩ = some (.int .u8 y1) := blk_cell HY 1
            have h2 : W1.cell? ⟨gy, 2, none⟩ = some (.int .u8 y2) := blk_cell HY 2
            have h3 : W1.cell? ⟨gy, 3, none⟩ = some (.int .u8 y3) := blk_cell HY 3
            have h4 : W1.cell? ⟨gy, 4, none⟩ = some (.int .u8 y4) := blk_cell HY 4
            have h5 : W1.cell? ⟨gy, 5, none⟩ = some (.int .u8 y5) := blk_cell HY 5
            have h6 : W1.cell? ⟨gy, 6, none⟩ = some (.int .u8 y6) := blk_cell HY 6
            have h7 : W1.cell? ⟨gy, 7, none⟩ = some (.int .u8 y7) := blk_cell HY 7
            clear HY
            by_cases hh : ham [x0, x1, x2, x3, x4, x5, x6, x7] [y0, y1, y2, y3, y4, y5, y6, y7] ≤ r
            · have t1 : decide (ham [x0, x1, x2, x3, x4, x5, x6, x7] [y0, y1, y2, y3, y4, y5, y6, y7] ≤ r) = true := decide_eq_true hh
              have HT2 : Aside0 (tm s C r (n + 1) m = tm s C r n m + 1) := ⟨by rw [HT1.out, if_pos hh]⟩
              clear hh HT1
              go_region_held3 (fun w' => w'.cell? ⟨g, wn * 8, none⟩ = some (.int .u8 x0) ∧ w'.cell? ⟨g, wn * 8 + 1, none⟩ = some (.int .u8 x1) ∧ w'.cell? ⟨g, wn * 8 + 2, none⟩ = some (.int .u8 x2) ∧ w'.cell? ⟨g, wn * 8 + 3, none⟩ = some (.int .u8 x3) ∧ w'.cell? ⟨g, wn * 8 + 4, none⟩ = some (.int .u8 x4) ∧ w'.cell? ⟨g, wn * 8 + 5, none⟩ = some (.int .u8 x5) ∧ w'.cell? ⟨g, wn * 8 + 6, none⟩ = some (.int .u8 x6) ∧ w'.cell? ⟨g, wn * 8 + 7, none⟩ = some (.int .u8 x7) ∧ w'.cell? ⟨gy, 0, none⟩ = some (.int .u8 y0) ∧ w'.cell? ⟨gy, 1, none⟩ = some (.int .u8 y1) ∧ w'.cell? ⟨gy, 2, none⟩ = some (.int .u8 y2) ∧ w'.cell? ⟨gy, 3, none⟩ = some (.int .u8 y3) ∧ w'.cell? ⟨gy, 4, none⟩ = some (.int .u8 y4) ∧ w'.cell? ⟨gy, 5, none⟩ = some (.int .u8 y5) ∧ w'.cell? ⟨gy, 6, none⟩ = some (.int .u8 y6) ∧ w'.cell? ⟨gy, 7, none⟩ = some (.int .u8 y7) ∧ Below W1.heap.size W1 w') (first | exact ⟨f0, f1, f2, f3, f4, f5, f6, f7, h0, h1, h2, h3, h4, h5, h6, h7, below_drew (Below.refl _ _)⟩ | exact (And.imp (pw_cell_below hb) (And.imp (pw_cell_below hb) (And.imp (pw_cell_below hb) (And.imp (pw_cell_below hb) (And.imp (pw_cell_below hb) (And.imp (pw_cell_below hb) (And.imp (pw_cell_below hb) (And.imp (pw_cell_below hb) (And.imp (pw_cell_below hb) (And.imp (pw_cell_below hb) (And.imp (pw_cell_below hb) (And.imp (pw_cell_below hb) (And.imp (pw_cell_below hb) (And.imp (pw_cell_below hb) (And.imp (pw_cell_below hb) (And.imp (pw_cell_below hb) (fun hS => below_then hS hS.size hb))))))))))))))))) (by assumption))
                (first
                  | (go_at_call 63; refine (far_calls8 x0 x1 x2 x3 x4 x5 x6 x7 y0 y1 y2 y3 y4 y5 y6 y7 _).mono ?_; rintro e w' ⟨rfl, hb⟩))
              all_goals
                have hbb : Below W1.heap.size W1 w' := ⟨hb.os, hb.tape, hb.output, hb.size, hb.block⟩
                have HD2 := Aside0.mk (pw_own_below HD1.out hbb)
                have HO2 := Aside0.mk (pw_own_below HO1.out hbb)
                have HB2 := Aside0.mk (below_then HB1.out HB1.out.size hbb)
                obtain ⟨o1, o2⟩ := own_at HO2.out (m : Int) (by omega) (by omega)
                rw [Int.toNat_natCast, HMR.out] at o1
                rw [Int.toNat_natCast] at o2
                have hst := own_store HO2.out (m : Int) (tm s C r n m + 1)
                rw [Int.toNat_natCast, ← HT2.out, HMS.out, HT2.out] at hst
                have HST := Aside0.mk hst
                have HD3 := Aside0.mk (own_other HD2.out hst.2 (own_type_ne' HD2.out HO2.out (by decide)))
                have HB3 := Aside0.mk (pw_below_grown HB2.out _ HB2.out.size hst.2 (fun k hk => by injection hk with hk; subst hk; exact own_base HO2.out _ rfl))
                clear hst HMS HMR HMK HT2 hb
                have hHH := (by assumption : w'.cell? ⟨g, wn * 8, none⟩ = some (.int .u8 x0) ∧ _)
                generalize tm s C r n m = z at *
                go_wp2
                go_roundw
                case rel => exact ⟨m + 1, by omega, by go_num, HD3, ⟨HST.out.1⟩, HB3⟩
                case measure => simp [intOf]; omega
            · have t1 : decide (ham [x0, x1, x2, x3, x4, x5, x6, x7] [y0, y1, y2, y3, y4, y5, y6, y7] ≤ r) = false := decide_eq_false hh
              have HT2 : Aside0 (tm s C r (n + 1) m = tm s C r n m) := ⟨by rw [HT1.out, if_neg hh, Int.add_zero]⟩
              clear hh HT1
              go_region_held3 (fun w' => w'.cell? ⟨g, wn * 8, none⟩ = some (.int .u8 x0) ∧ w'.cell? ⟨g, wn * 8 + 1, none⟩ = some (.int .u8 x1) ∧ w'.cell? ⟨g, wn * 8 + 2, none⟩ = some (.int .u8 x2) ∧ w'.cell? ⟨g, wn * 8 + 3, none⟩ = some (.int .u8 x3) ∧ w'.cell? ⟨g, wn * 8 + 4, none⟩ = some (.int .u8 x4) ∧ w'.cell? ⟨g, wn * 8 + 5, none⟩ = some (.int .u8 x5) ∧ w'.cell? ⟨g, wn * 8 + 6, none⟩ = some (.int .u8 x6) ∧ w'.cell? ⟨g, wn * 8 + 7, none⟩ = some (.int .u8 x7) ∧ w'.cell? ⟨gy, 0, none⟩ = some (.int .u8 y0) ∧ w'.cell? ⟨gy, 1, none⟩ = some (.int .u8 y1) ∧ w'.cell? ⟨gy, 2, none⟩ = some (.int .u8 y2) ∧ w'.cell? ⟨gy, 3, none⟩ = some (.int .u8 y3) ∧ w'.cell? ⟨gy, 4, none⟩ = some (.int .u8 y4) ∧ w'.cell? ⟨gy, 5, none⟩ = some (.int .u8 y5) ∧ w'.cell? ⟨gy, 6, none⟩ = some (.int .u8 y6) ∧ w'.cell? ⟨gy, 7, none⟩ = some (.int .u8 y7) ∧ Below W1.heap.size W1 w') (first | exact ⟨f0, f1, f2, f3, f4, f5, f6, f7, h0, h1, h2, h3, h4, h5, h6, h7, below_drew (Below.refl _ _)⟩ | exact (And.imp (pw_cell_below hb) (And.imp (pw_cell_below hb) (And.imp (pw_cell_below hb) (And.imp (pw_cell_below hb) (And.imp (pw_cell_below hb) (And.imp (pw_cell_below hb) (And.imp (pw_cell_below hb) (And.imp (pw_cell_below hb) (And.imp (pw_cell_below hb) (And.imp (pw_cell_below hb) (And.imp (pw_cell_below hb) (And.imp (pw_cell_below hb) (And.imp (pw_cell_below hb) (And.imp (pw_cell_below hb) (And.imp (pw_cell_below hb) (And.imp (pw_cell_below hb) (fun hS => below_then hS hS.size hb))))))))))))))))) (by assumption))
                (first
                  | (go_at_call 63; refine (far_calls8 x0 x1 x2 x3 x4 x5 x6 x7 y0 y1 y2 y3 y4 y5 y6 y7 _).mono ?_; rintro e w' ⟨rfl, hb⟩))
              all_goals
                have hbb : Below W1.heap.size W1 w' := ⟨hb.os, hb.tape, hb.output, hb.size, hb.block⟩
                have HD2 := Aside0.mk (pw_own_below HD1.out hbb)
                have HO2 : Aside0 (w'.ownsRow w.heap.size 2 1 (.slice (some ⟨g8, 0, none⟩) P P) P (nums .i64 (mix (tm s C r (n + 1)) (tm s C r n) P (m + 1)))) := ⟨by rw [← HMK.out HT2.out]; exact pw_own_below HO1.out hbb⟩
                have HB2 := Aside0.mk (below_then HB1.out HB1.out.size hbb)
                clear HMS HMR HMK HT2 hb
                go_wp2
                go_roundw
                case rel => exact ⟨m + 1, by omega, by go_num, HD2, HO2, HB2⟩
                case measure => simp [intOf]; omega
          · have hmP2 : m = P := by omega
            subst hmP2
            have hma := mix_all (tm s C r (n + 1)) (tm s C r n) m
            rw [hma] at HO
            clear hma
            go_wp2
            go_roundw
            case rel => exact ⟨n + 1, by omega, by go_num, HD, HO, HB⟩
            case measure => simp [intOf]; omega
      · go_wp2
        go_ret
        have hn : n = C.length := by omega
        subst hn
        rw [HT.out]
        refine ⟨_, rfl, ?_, HB.out⟩
        exact Kd.R_of_own (by rw [List.length_map, List.length_range]; exact HO.out) (fun _ _ => trivial)

/-- What the program's times returns where it is asked of words of a space. -/
def impl_times.f (l0_0 l1 : List Int) (a2 : Int) : Option (List Int) := if isSp l0_0 = true ∧ l1.all (isW l0_0) = true ∧ l1.length ≤ 1048576 then some (timesL l0_0 l1 a2) else none

theorem impl_times.calls (A0_0 : Option Addr) (c0_0 : Nat) (l0_0 : List Int) (A1 : Option Addr) (c1 : Nat) (l1 : List Int) (a2 : Int) (r : List Int) (w : World) (hr0_0 : Kd.C (Kd.int .i64) w A0_0 l0_0.length l0_0) (hc0_0 : l0_0.length ≤ c0_0) (hr1 : Kd.C (Kd.int .i64) w A1 l1.length l1) (hc1 : l1.length ≤ c1) (h : impl_times.f l0_0 l1 a2 = some r) :
    Calls Try.prog 61 #[.agg #[.slice A0_0 l0_0.length c0_0], .slice A1 l1.length c1, .int .i64 a2] w fun e w' => ∃ v0_ : Value, e = .returned (v0_) ∧ Kd.R (Kd.int .i64) 2 w' w.heap.size (fun _ => True) v0_ r ∧ Below w.heap.size w w' := by
  unfold impl_times.f at h
  split at h
  · rename_i hc
    obtain rfl := Option.some.inj h
    exact times_calls A0_0 c0_0 l0_0 A1 c1 l1 a2 w hr0_0 hc0_0 hr1 hc1 hc.1 hc.2.1 hc.2.2
  · cases h
end Go.Proofs.Ythcodiknghfmmaa.P
