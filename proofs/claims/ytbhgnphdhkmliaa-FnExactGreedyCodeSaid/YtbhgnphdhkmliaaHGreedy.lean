/- The greedy code: what the program's GreedyCode returns. -/
import Derived.Test.YtbhgnphdhkmliaaHGreedy0
import Derived.Test.YtbhgnphdhkmliaaHRepeat
import Derived.Test.YtbhgnphdhkmliaaHBall
import Derived.Test.YtbhgnphdhkmliaaHSort
import Derived.Test.YtbhgnphdhkmliaaQBall
import Derived.Test.YtbhgnphdhkmliaaQAny
set_option linter.unusedVariables false
set_option linter.unusedSimpArgs false
namespace Go.Proofs.Ytbhgnphdhkmliaa.P
open Go.RowKit Go.Proofs.YtbhgnphdhkmliaaW.PrintWords Go.Proofs.YtbhgnphdhkmliaaW.PrintLast Go.Proofs.YtbhgnphdhkmliaaW.PrintMore CC

def greedyR (s : List Int) (r : Int) : List Int × Int := if Q.rBall s 0 r = 0 then (msort (greedyL s r (prd s).toNat), 0) else ([], Q.rBall s 0 r)
theorem those_ball {s : List Int} (hs : isSp s = true) (r : Int) : thoseL s (fun e => decide (ham (dig8 s 0) e ≤ r)) (prd s).toNat = Q.ballL s 0 r := by
  unfold thoseL Q.ballL Q.selL Q.NW
  congr 1
  apply List.filter_congr
  intro i _
  simp only [ham_dig8 (isSp_len hs)]
/-- How long a slice is. -/
def sliceLen : Value → Nat
  | .slice _ n _ => n
  | _ => 0

set_option maxHeartbeats 16000000 in
set_option maxRecDepth 100000 in
theorem greedy_calls (A : Option Addr) (c : Nat) (s : List Int) (r : Int) (w : World) (hr : Kd.C (Kd.int .i64) w A s.length s) (hc : s.length ≤ c) :
    Calls Try.prog 27 #[.agg #[.slice A s.length c], .int .i64 r] w
      fun e w' => ∃ v, e = .returned (.tuple #[v, .int .i64 (greedyR s r).2]) ∧ Kd.R (Kd.int .i64) 2 w' w.heap.size (fun _ => True) v (greedyR s r).1 ∧ Below w.heap.size w w' := by
  have huS := Try.underlying26
  have huD := Try.underlying60
  have HR := Aside0.mk hr
  obtain ⟨kb, hbc⟩ := (Q.ballCode_ev s 0 r).rounds
  have HBC := Aside0.mk hbc
  clear hr hbc
  go_enter Try.func27, Try.ntmps27
  have hcell : (w.alloc (.cells #[.slice A s.length c] 26)).heap[w.heap.size]? = some (.cells #[.slice A s.length c] 26 (0, 0)) := blk_new _ _
  have hB : Below w.heap.size w (w.alloc (.cells #[.slice A s.length c] 26)) := (Below.refl _ _).alloc (Nat.le_refl _) _
  have hcz : (w.alloc (.cells #[.slice A s.length c] 26)).cell? ⟨w.heap.size, 0, none⟩ = some (.slice A s.length c) := blk_cell hcell 0
  go_wp2_with fail
  refine (impl_ballCode.calls kb A c s 0 r (Q.rBall s 0 r) _ (Kd.C_below HR.out hB) hc HBC.out).mono ?_
  rintro e w0 ⟨rfl, hb⟩
  have K1 := Aside0.mk (blk_below hcell hb)
  have B1 := Aside0.mk (below_then hB hB.size hb)
  clear hcell hB hb hcz
  by_cases hz : Q.rBall s 0 r = 0
  · have HZ : Aside0 (greedyR s r = (msort (greedyL s r (prd s).toNat), 0)) := ⟨by unfold greedyR; rw [if_pos hz]⟩
    obtain ⟨hs, hw0, hr0, hr1⟩ := Q.rBall_zero hz
    have HS := Aside0.mk hs
    obtain ⟨kc, hcount⟩ := (Q.count_sp hs).rounds
    have HK := Aside0.mk hcount
    rw [hz]
    clear hs hw0 hz HBC hcount
    have hcz : w0.cell? ⟨w.heap.size, 0, none⟩ = some (.slice A s.length c) := blk_cell K1.out 0
    have p0 := isSp_prd1 HS.out
    have p1 := isSp_prd HS.out
    obtain ⟨P, hP⟩ : ∃ P : Nat, prd s = (P : Int) := ⟨(prd s).toNat, by omega⟩
    have hP2 : (prd s).toNat = P := by omega
    have pP : P ≤ 1024 := by omega
    have pP0 : 1 ≤ P := by omega
    have HP := Aside0.mk hP
    have HP2 := Aside0.mk hP2
    clear hP hP2 p0 p1
    have hlb := Q.ballL_len HS.out 0 r
    have HTB := Aside0.mk (those_ball HS.out r)
    have HGN := Aside0.mk (Q.gn_start HS.out r HP2.out)
    rw [HP2.out] at HTB
    generalize Q.ballL s 0 r = bl at HTB HGN hlb
    have hmk := print_make_of (P := Try.prog) 74 4 (.bool false) 1 Try.underlying74 (by kernel_rfl) rfl (by decide) P (by omega)
    go_wp2_with fail
    refine (allDigits_calls A c s _ (Kd.C_below HR.out B1.out) hc HS.out kc HK.out).mono ?_
    rintro e w1 ⟨v1, rfl, hD, hb⟩
    rw [HP2.out] at hD
    obtain ⟨g, cap, rfl, hcap⟩ : ∃ g cap, v1 = .slice (some ⟨g, 0, none⟩) P cap ∧ P ≤ cap := by
      rcases hD.2 with ⟨_, h⟩ | ⟨g, cap, _, h, _, _, h2, _⟩
      · omega
      · exact ⟨g, cap, h, h2⟩
    have K2 := Aside0.mk (blk_alloc (blk_below K1.out hb) (.cells #[] 2))
    have HD1 := Aside0.mk (own_alloc (own_weaken hD B1.out.size) (.cells #[] 2))
    have hB2 := below_then B1.out B1.out.size hb
    have HO1 : Aside0 ((w1.alloc (.cells #[] 2)).ownsRow w.heap.size 2 1 (.slice (some ⟨w1.heap.size, 0, none⟩) 0 0) 0 (nums .i64 [])) := ⟨rfl, .inr ⟨w1.heap.size, 0, #[], rfl, hB2.size, blk_new w1 (.cells #[] 2), by omega, by unfold maxLen; omega, rfl, rfl⟩⟩
    have B2 := Aside0.mk (below_alloc hB2 (.cells #[] 2))
    clear hD hb hB2 K1 B1
    have hcz2 := blk_cell K2.out 0
    go_wp2_with fail
    clear hcz2 hcz
    have hOl : w1.heap.size < (w1.alloc (.cells #[] 2)).heap.size := blk_lt (blk_new w1 _)
    generalize w1.alloc (.cells #[] 2) = W1 at *
    generalize w1.heap.size = go at *
    refine (ball_calls A c s 0 r _ (Kd.C_below HR.out B2.out) hc HS.out (by omega) (by omega)).mono ?_
    rintro e w2 ⟨v2, rfl, hb0, hb⟩
    rw [HP2.out, HTB.out] at hb0
    obtain ⟨Ab, cb, rfl⟩ := Kd.R_slice hb0
    have HD2 := Aside0.mk (own_alloc (pw_own_below HD1.out hb) (.cells #[.int .i64 bl.length] 2))
    have HO2 := Aside0.mk (own_alloc (pw_own_below HO1.out hb) (.cells #[.int .i64 bl.length] 2))
    have B3 := Aside0.mk (below_alloc (below_then B2.out B2.out.size hb) (.cells #[.int .i64 bl.length] 2))
    have hsz2 := hb.size
    have KL := blk_cell (blk_new w2 (.cells #[.int .i64 bl.length] 2)) 0
    clear hb0 hb HD1 HO1 B2
    go_wp2_with fail
    refine (repeat_calls w2.heap.size (bl.length : Int) P _ KL pP0 (by omega)).mono ?_
    rintro e w3 ⟨g9, rfl, hT, hb⟩
    rw [← HGN.out] at hT
    have hg9 : (w2.alloc (.cells #[.int .i64 bl.length] 2)).heap.size ≤ g9 := own_base hT _ rfl
    have hg92 : w2.heap.size < g9 := Nat.lt_of_lt_of_le (blk_lt (blk_new w2 _)) hg9
    clear hg9
    have HO3 := Aside0.mk (pw_own_below HO2.out hb)
    have HD3 := Aside0.mk (pw_own_below HD2.out hb)
    have HT3 := Aside0.mk (own_weaken hT B3.out.size)
    have B4 := Aside0.mk (below_then B3.out B3.out.size hb)
    clear hT hb HO2 HD2 B3 KL
    go_wp2_with fail
    have HO4 := Aside0.mk (own_alloc HO3.out (.cells (madeCells #[.bool false] P) 4))
    have HD4 := Aside0.mk (own_alloc HD3.out (.cells (madeCells #[.bool false] P) 4))
    have HT4 := Aside0.mk (own_alloc HT3.out (.cells (madeCells #[.bool false] P) 4))
    have HV4 := Aside0.mk (own_made_of (enc := Value.bool) (d := false) w3 w.heap.size 4 P B4.out.size (by omega))
    have B5 := Aside0.mk (below_alloc B4.out (.cells (madeCells #[.bool false] P) 4))
    have HOR : Aside0 (Kd.R (Kd.int .i64) 2 (w3.alloc (.cells (madeCells #[.bool false] P) 4)) w.heap.size (fun k => some k ≠ some g9) (.slice (some ⟨go, 0, none⟩) 0 0) ([] : List Int)) := ⟨Kd.R_of_own (xs := []) HO4.out (fun k hk he => by simp [Value.ownBlock] at hk; injection he with he; omega)⟩
    have HGL : Aside0 (greedyL s r P = gRun s r P (P + 1 - ([] : List Int).length) (List.replicate P false) []) := ⟨rfl⟩
    clear HO3 HO4 HD3 HT3 B4 hmk hOl hsz2 HTB HGN
    generalize w3.alloc (.cells (madeCells #[.bool false] P) 4) = W4 at *
    generalize w3.heap.size = gv at *
    go_loopw [8] (fun v W => ∃ (cov : List Bool) (out : List Int) (Ao : Option Addr) (co : Nat), v = .slice Ao out.length co ∧ cov.length = P ∧ out.length ≤ cn cov ∧ Aside0 (greedyL s r P = gRun s r P (P + 1 - out.length) cov out) ∧ Aside0 (W.ownsRow w.heap.size 60 8 (.slice (some ⟨g, 0, none⟩) P cap) P (flat8 (all8 s P))) ∧ Aside0 (W.ownsRow w.heap.size 2 1 (.slice (some ⟨g9, 0, none⟩) P P) P (nums .i64 (gnL s r P cov))) ∧ Aside0 (W.ownsRow w.heap.size 4 1 (.slice (some ⟨gv, 0, none⟩) P P) P (encs Value.bool cov)) ∧ Aside0 (Kd.R (Kd.int .i64) 2 W w.heap.size (fun k => some k ≠ some g9) (.slice Ao out.length co) out) ∧ Aside0 (Below w.heap.size w W)) (fun v _ => P - sliceLen v)
    case atStart => exact ⟨_, [], _, _, rfl, by simp, by simp, HGL, HD4, HT4, HV4, HOR, B5⟩
    case round =>
      clear HGL HD4 HT4 HV4 HOR B5
      obtain ⟨cov, out, Ao, co, rfl, hcl, hoc, HGL, HD, HT, HV, HO, HB⟩ := hrel
      obtain ⟨wo, hwo⟩ : ∃ wo : World, wo = wr := ⟨_, rfl⟩
      have hcn := cn_le cov
      have HTF : Aside0 (∀ u : Nat, u < P → rd (gnL s r P cov) (u : Int) = gnF s r P cov u) := ⟨fun u hu => gnL_rd s r cov hu⟩
      have HBD := Aside0.mk (gnF_bd s r P cov)
      obtain ⟨f, hf⟩ : ∃ f : Nat → Int, f = gnF s r P cov := ⟨_, rfl⟩
      have HFE := Aside0.mk hf
      rw [← hf] at HTF HBD
      have HSTEP : Aside0 (f (bst f P) ≠ 0 → gRun s r P (P + 1 - out.length) cov out = gRun s r P (P + 1 - (out ++ [((bst f P : Nat) : Int)]).length) (covU s r P (bst f P) cov P) (out ++ [((bst f P : Nat) : Int)])) := ⟨fun h => by
        rw [show P + 1 - out.length = (P - out.length) + 1 by omega, gRun, ← hf, if_neg h, List.length_append, List.length_singleton, show P + 1 - (out.length + 1) = P - out.length by omega]⟩
      have HSTOP : Aside0 (f (bst f P) = 0 → gRun s r P (P + 1 - out.length) cov out = out) := ⟨fun h => by
        rw [show P + 1 - out.length = (P - out.length) + 1 by omega, gRun, ← hf, if_pos h]⟩
      clear hf
      go_wp2_with fail
      go_loopw [11, 38] (fun b i W => ∃ m : Nat, m ≤ P ∧ i = .int .i64 m ∧ b = .int .i64 (bst f m : Nat) ∧ W = wo) (fun _ i _ => P - (intOf i).toNat)
      case atStart => exact ⟨0, by omega, rfl, rfl, hwo.symm⟩
      case round =>
        subst hwo
        obtain ⟨m, hm, rfl, rfl, hW⟩ := hrel
        subst hW
        have hbm := bst_le f m
        by_cases hlt : m < P
        · obtain ⟨o1, o2⟩ := own_at HT.out (m : Int) (by omega) (by omega)
          obtain ⟨o3, o4⟩ := own_at HT.out (bst f m : Int) (by omega) (by omega)
          rw [Int.toNat_natCast, HTF.out m hlt] at o1
          rw [Int.toNat_natCast, HTF.out _ (by omega)] at o3
          rw [Int.toNat_natCast] at o2 o4
          have hBS : bst f (m + 1) = if f m > f (bst f m) then m else bst f m := rfl
          have HBS := Aside0.mk hBS
          clear hBS
          generalize bst f m = b at *
          by_cases hgt : f m > f b
          · have t1 : decide (f b < f m) = true := decide_eq_true hgt
            have HBS2 : Aside0 (bst f (m + 1) = m) := ⟨by rw [HBS.out, if_pos hgt]⟩
            clear HBS
            go_wp2
            go_roundw
            case rel => exact ⟨m + 1, by omega, by go_num, by rw [HBS2.out], by first | rfl | trivial⟩
            case measure => simp [intOf]; omega
          · have t1 : decide (f b < f m) = false := decide_eq_false hgt
            have HBS2 : Aside0 (bst f (m + 1) = b) := ⟨by rw [HBS.out, if_neg hgt]⟩
            clear HBS
            go_wp2
            go_roundw
            case rel => exact ⟨m + 1, by omega, by go_num, by rw [HBS2.out], by first | rfl | trivial⟩
            case measure => simp [intOf]; omega
        · have hm2 : m = P := by omega
          subst hm2
          have hbP : bst f m < m := bst_lt f pP0
          obtain ⟨o1, o2⟩ := own_at HT.out (bst f m : Int) (by omega) (by omega)
          rw [Int.toNat_natCast, HTF.out _ hbP] at o1
          rw [Int.toNat_natCast] at o2
          generalize bst f m = b at *
          by_cases hb0 : f b = 0
          · rw [hb0] at o1
            have HE : Aside0 (greedyL s r m = out) := ⟨by rw [HGL.out, HSTOP.out hb0]⟩
            have HOW := Aside0.mk (Kd.own_of_R HO.out)
            go_wp2_with (go_at_call 70; refine (sort_calls w.heap.size Ao co out _ HOW.out (by omega)).mono ?_; rintro e w5 ⟨rfl, hS, hg⟩)
            go_ret2
            rw [HZ.out, HP2.out, HE.out]
            exact ⟨_, rfl, Kd.R_of_own (by rw [msort_length]; exact hS) (fun _ _ => trivial), pw_below_grown HB.out _ HB.out.size hg (fun k hk => own_base HOW.out k hk)⟩
          · have hbz := hb0
            have t1 : decide (f b = 0) = false := decide_eq_false hb0
            have HTR : Aside0 (Kd.R (Kd.int .i64) 2 wr w.heap.size (fun _ => True) (.slice (some ⟨g9, 0, none⟩) m m) (gnL s r m cov)) := ⟨Kd.R_of_own (by rw [gnL_len]; exact HT.out) (fun _ _ => trivial)⟩
            have HF := Aside0.mk (Kd.fresh' (Kd.R_lt HTR.out))
            have hSR := Aside0.mk (HSTEP.out hb0)
            have hMORE : gnF s r m cov b ≠ 0 := by rw [← HFE.out]; exact hb0
            have hcm := cn_more s r hcl hMORE
            have hcq := cn_le (covU s r m b cov m)
            rw [covU_len] at hcq
            have HXE := Aside0.mk hMORE
            clear hMORE HTR HSTEP HSTOP HFE HTF HBD
            go_wp2_with ((with_reducible refine gate_builtin (b := .append) (xs := #[.tmp 59, .tmp 61]) rfl ?_); at_builtin; refine Kd.R_append (Kd.int .i64) (w0 := w) w.heap.size rfl (.tmp 59) (.tmp 61) 22 2 (.int .i64 0) 8 rfl Try.underlying22 infoI rfl (by decide) (by omega) (.slice Ao out.length co) out (b : Int) [.int .i64 b] (fun k_ => some k_ ≠ some g9) (fun _ => False) rfl rfl ?aP (fun _ hk => hk.elim) ?aF ?aO ?aB ?aS ?aL ?_)
            case aP => exact rfl
            case aF => exact HF.out
            case aO => exact HO.out
            case aB => exact HB.out
            case aS => exact HB.out.size
            case aL => omega
            intro v1 w3 ho hb3 hg hat
            have HT3 := Aside0.mk (own_other HT.out hg (.inr (fun e => HO.out.1 g9 e.symm rfl)))
            have HD3 := Aside0.mk (own_other HD.out hg (own_type_ne HD.out (Kd.own_of_R HO.out) (by decide)))
            have HV3 := Aside0.mk (own_other HV.out hg (own_type_ne HV.out (Kd.own_of_R HO.out) (by decide)))
            have HO3 : Aside0 (Kd.R (Kd.int .i64) 2 w3 w.heap.size (fun k => some k ≠ some g9) v1 (out ++ [(b : Int)])) := ⟨Kd.R_mono ho (fun k hk => by simpa using hk)⟩
            have HB3 := Aside0.mk hb3
            clear ho hb3 hg hat HT HD HV HO HB HF o1 o2
            obtain ⟨oo, ho2⟩ : ∃ oo : List Int, oo = out ++ [(b : Int)] := ⟨_, rfl⟩
            have HLE : Aside0 (oo.length = out.length + 1) := ⟨by rw [ho2, List.length_append, List.length_singleton]⟩
            rw [← ho2] at HO3 hSR
            clear ho2
            obtain ⟨A1, c1, e1⟩ := Kd.R_slice HO3.out
            subst e1
            obtain ⟨x0, x1, x2, x3, x4, x5, x6, x7, hxe⟩ := eight (dig8_length s (b : Int))
            have HXX := Aside0.mk hxe
            have HVZ : Aside0 (covU s r m b cov 0 = cov) := ⟨covU_zero s r m b hcl⟩
            clear hxe
            go_wp2_with fail
            obtain ⟨P, hP⟩ : ∃ P : Nat, P = m := ⟨_, rfl⟩
            subst hP
            go_loopw [65] (fun i W => ∃ m : Nat, m ≤ P ∧ i = .int .i64 m ∧ Aside0 (W.ownsRow w.heap.size 60 8 (.slice (some ⟨g, 0, none⟩) P cap) P (flat8 (all8 s P))) ∧ Aside0 (W.ownsRow w.heap.size 2 1 (.slice (some ⟨g9, 0, none⟩) P P) P (nums .i64 (gnL s r P (covU s r P b cov m)))) ∧ Aside0 (W.ownsRow w.heap.size 4 1 (.slice (some ⟨gv, 0, none⟩) P P) P (encs Value.bool (covU s r P b cov m))) ∧ Aside0 (Kd.R (Kd.int .i64) 2 W w.heap.size (fun k => some k ≠ some g9) (.slice A1 oo.length c1) oo) ∧ Aside0 (Below w.heap.size w W)) (fun i _ => P - (intOf i).toNat)
            case atStart => exact ⟨0, by omega, rfl, HD3, ⟨by rw [HVZ.out]; exact HT3.out⟩, ⟨by rw [HVZ.out]; exact HV3.out⟩, HO3, HB3⟩
            case round =>
              clear HD3 HT3 HV3 HO3 HB3
              obtain ⟨m, hm, rfl, HD, HT, HV, HO, HB⟩ := hrel
              by_cases hlt : m < P
              · obtain ⟨o1, o2⟩ := own_at_of (d := false) HV.out (m : Int) (by omega) (by omega)
                rw [Int.toNat_natCast] at o1 o2
                have hrdc : rdOf false (covU s r P b cov m) (m : Int) = cov.getD m false := by
                  have := covU_get s r P b cov m hlt
                  rw [decide_eq_false (Nat.lt_irrefl m), Bool.false_and, Bool.or_false] at this
                  rw [← this]
                  simp [rdOf]
                rw [hrdc] at o1
                by_cases hcv : cov.getD m false = true
                · rw [hcv] at o1
                  have HSK : Aside0 (covU s r P b cov (m + 1) = covU s r P b cov m) := ⟨covU_skip s r P b cov (by rw [hcv]; rfl)⟩
                  clear hrdc hcv
                  go_wp2_with fail
                  go_quiet (fail)
                  have hQ : Below wr.heap.size wr (wr.drewN nq) := pw_below_drewN (Below.refl _ _) nq
                  have HD2 := Aside0.mk (pw_own_below HD.out hQ)
                  have HT2 : Aside0 ((wr.drewN nq).ownsRow w.heap.size 2 1 (.slice (some ⟨g9, 0, none⟩) P P) P (nums .i64 (gnL s r P (covU s r P b cov (m + 1))))) := ⟨by rw [HSK.out]; exact pw_own_below HT.out hQ⟩
                  have HV2 : Aside0 ((wr.drewN nq).ownsRow w.heap.size 4 1 (.slice (some ⟨gv, 0, none⟩) P P) P (encs Value.bool (covU s r P b cov (m + 1)))) := ⟨by rw [HSK.out]; exact pw_own_below HV.out hQ⟩
                  have HO2 := Aside0.mk (Kd.R_below HO.out hQ)
                  have HB2 := Aside0.mk (below_then HB.out HB.out.size hQ)
                  clear hQ HD HT HV HO HB HSK
                  go_wp2
                  go_roundw
                  case rel => exact ⟨m + 1, by omega, by go_num, HD2, HT2, HV2, HO2, HB2⟩
                  case measure => simp [intOf]; omega
                · rw [Bool.not_eq_true] at hcv
                  rw [hcv] at o1
                  obtain ⟨y0, y1, y2, y3, y4, y5, y6, y7, hye⟩ := eight (dig8_length s (m : Int))
                  obtain ⟨k0, k1, k2, k3, k4, k5, k6, k7⟩ := row8 HD.out hlt hye
                  obtain ⟨f0, f1, f2, f3, f4, f5, f6, f7⟩ := row8 HD.out hbP HXX.out
                  have HCV := Aside0.mk hcv
                  have HYE := Aside0.mk hye
                  have HNR : Aside0 (nrb s r b m = decide (ham [x0, x1, x2, x3, x4, x5, x6, x7] [y0, y1, y2, y3, y4, y5, y6, y7] ≤ r)) := ⟨by unfold nrb; rw [HXX.out, hye]⟩
                  clear hrdc hcv hye
                  by_cases hh : ham [x0, x1, x2, x3, x4, x5, x6, x7] [y0, y1, y2, y3, y4, y5, y6, y7] ≤ r
                  · have t2 : decide (r < ham [x0, x1, x2, x3, x4, x5, x6, x7] [y0, y1, y2, y3, y4, y5, y6, y7]) = false := decide_eq_false (by omega)
                    have HN1 : Aside0 (nrb s r b m = true) := ⟨by rw [HNR.out, decide_eq_true hh]⟩
                    clear hh HNR
                    go_wp2_with fail
                    go_region_held3 (fun w' => w'.cell? ⟨g, b * 8, none⟩ = some (.int .u8 x0) ∧ w'.cell? ⟨g, b * 8 + 1, none⟩ = some (.int .u8 x1) ∧ w'.cell? ⟨g, b * 8 + 2, none⟩ = some (.int .u8 x2) ∧ w'.cell? ⟨g, b * 8 + 3, none⟩ = some (.int .u8 x3) ∧ w'.cell? ⟨g, b * 8 + 4, none⟩ = some (.int .u8 x4) ∧ w'.cell? ⟨g, b * 8 + 5, none⟩ = some (.int .u8 x5) ∧ w'.cell? ⟨g, b * 8 + 6, none⟩ = some (.int .u8 x6) ∧ w'.cell? ⟨g, b * 8 + 7, none⟩ = some (.int .u8 x7) ∧ w'.cell? ⟨g, m * 8, none⟩ = some (.int .u8 y0) ∧ w'.cell? ⟨g, m * 8 + 1, none⟩ = some (.int .u8 y1) ∧ w'.cell? ⟨g, m * 8 + 2, none⟩ = some (.int .u8 y2) ∧ w'.cell? ⟨g, m * 8 + 3, none⟩ = some (.int .u8 y3) ∧ w'.cell? ⟨g, m * 8 + 4, none⟩ = some (.int .u8 y4) ∧ w'.cell? ⟨g, m * 8 + 5, none⟩ = some (.int .u8 y5) ∧ w'.cell? ⟨g, m * 8 + 6, none⟩ = some (.int .u8 y6) ∧ w'.cell? ⟨g, m * 8 + 7, none⟩ = some (.int .u8 y7) ∧ w'.cell? ⟨gv, m, none⟩ = some (.bool false) ∧ Below wr.heap.size wr w') (first | exact ⟨f0, f1, f2, f3, f4, f5, f6, f7, k0, k1, k2, k3, k4, k5, k6, k7, o1, below_drew (Below.refl _ _)⟩ | exact (And.imp (pw_cell_below hb) (And.imp (pw_cell_below hb) (And.imp (pw_cell_below hb) (And.imp (pw_cell_below hb) (And.imp (pw_cell_below hb) (And.imp (pw_cell_below hb) (And.imp (pw_cell_below hb) (And.imp (pw_cell_below hb) (And.imp (pw_cell_below hb) (And.imp (pw_cell_below hb) (And.imp (pw_cell_below hb) (And.imp (pw_cell_below hb) (And.imp (pw_cell_below hb) (And.imp (pw_cell_below hb) (And.imp (pw_cell_below hb) (And.imp (pw_cell_below hb) (And.imp (pw_cell_below hb) (fun hS => below_then hS hS.size hb)))))))))))))))))) (by assumption))
                      (first
                        | (go_at_call 71; refine (far_calls8 x0 x1 x2 x3 x4 x5 x6 x7 y0 y1 y2 y3 y4 y5 y6 y7 _).mono ?_; rintro e w' ⟨rfl, hb⟩))
                    all_goals
                      obtain ⟨_, _, _, _, _, _, _, _, _, _, _, _, _, _, _, _, _, hBB⟩ := (by assumption : World.cell? _ ⟨g, b * 8, none⟩ = some (Value.int .u8 x0) ∧ _)
                      have HD2 := Aside0.mk (pw_own_below HD.out hBB)
                      have HT2 := Aside0.mk (pw_own_below HT.out hBB)
                      have HO2 := Aside0.mk (Kd.R_below HO.out hBB)
                      have HB2 := Aside0.mk (below_then HB.out HB.out.size hBB)
                      have HV2 := Aside0.mk (pw_own_below HV.out hBB)
                      obtain ⟨v1, v2⟩ := own_at_of (d := false) HV2.out (m : Int) (by omega) (by omega)
                      rw [Int.toNat_natCast] at v1 v2
                      have hst := own_store_of HV2.out (m : Int) true
                      have hCS := covU_set s r hlt (cov := cov) HN1.out
                      rw [Int.toNat_natCast, ← hCS] at hst
                      have hcf : (covU s r P b cov m).getD m false = false := by rw [covU_get s r P b cov m hlt, HCV.out, decide_eq_false (Nat.lt_irrefl m)]; rfl
                      have HGS : Aside0 (∀ u : Nat, gnF s r P (covU s r P b cov (m + 1)) u = if nrb s r u m = true then gnF s r P (covU s r P b cov m) u - 1 else gnF s r P (covU s r P b cov m) u) := ⟨fun u => by rw [hCS]; exact gnF_set s r hlt (covU_len s r P b cov m) hcf u⟩
                      have HV3 := Aside0.mk hst.1
                      have HD3 := Aside0.mk (own_other HD2.out hst.2 (own_type_ne' HD2.out HV2.out (by decide)))
                      have HT3 := Aside0.mk (own_other HT2.out hst.2 (own_type_ne' HT2.out HV2.out (by decide)))
                      obtain ⟨curv, hblv⟩ : ∃ curv, (World.heap _)[gv]? = some (.cells curv 4 (0, 0)) := by
                        rcases HV2.out.2 with ⟨h, _⟩ | ⟨g', cap', cur, h, _, hbl, _⟩
                        · cases h
                        · injection h with h
                          injection h with h
                          injection h with h
                          subst h
                          exact ⟨cur, hbl⟩
                      have HO3 := Aside0.mk (Kd.R_mono (Kd.R_far (p := ⟨gv, m, none⟩) (Kd.R_types HO2.out hblv (by decide)) (fun _ hk => hk.2) (.bool true)) (fun _ hk => hk.1))
                      clear hblv
                      have HB3 := Aside0.mk (pw_below_grown HB2.out _ HB2.out.size hst.2 (fun k hk => by injection hk with hk; subst hk; exact own_base HV2.out _ rfl))
                      have HBD := Aside0.mk (gnF_bd s r P (covU s r P b cov m))
                      clear hst hCS hcf HD HT HV HO HB HD2 HT2 HV2 HO2 HB2 hb hBB
                      generalize rdOf false (covU s r P b cov m) (m : Int) = vb at *
                      have hGL := HGL.out
                      clear hGL
                      go_wp2_with fail
                      go_loopw [90] (fun i W => ∃ j : Nat, j ≤ P ∧ i = .int .i64 j ∧ Aside0 (W.ownsRow w.heap.size 60 8 (.slice (some ⟨g, 0, none⟩) P cap) P (flat8 (all8 s P))) ∧ Aside0 (W.ownsRow w.heap.size 2 1 (.slice (some ⟨g9, 0, none⟩) P P) P (nums .i64 (mix (gnF s r P (covU s r P b cov (m + 1))) (gnF s r P (covU s r P b cov m)) P j))) ∧ Aside0 (W.ownsRow w.heap.size 4 1 (.slice (some ⟨gv, 0, none⟩) P P) P (encs Value.bool (covU s r P b cov (m + 1)))) ∧ Aside0 (Kd.R (Kd.int .i64) 2 W w.heap.size (fun k => some k ≠ some g9) (.slice A1 oo.length c1) oo) ∧ Aside0 (Below w.heap.size w W)) (fun i _ => P - (intOf i).toNat)
                      case atStart => exact ⟨0, by omega, rfl, HD3, ⟨by rw [mix_zero]; exact HT3.out⟩, HV3, HO3, HB3⟩
                      case round =>
                        clear HD3 HT3 HV3 HO3 HB3 k0 k1 k2 k3 k4 k5 k6 k7 f0 f1 f2 f3 f4 f5 f6 f7
                        obtain ⟨j, hj, rfl, HD, HT, HV, HO, HB⟩ := hrel
                        by_cases hjP : j < P
                        · obtain ⟨z0, z1, z2, z3, z4, z5, z6, z7, hze⟩ := eight (dig8_length s (j : Int))
                          obtain ⟨k0, k1, k2, k3, k4, k5, k6, k7⟩ := row8 HD.out hlt HYE.out
                          obtain ⟨f0, f1, f2, f3, f4, f5, f6, f7⟩ := row8 HD.out hjP hze
                          have HNZ : Aside0 (nrb s r j m = decide (ham [z0, z1, z2, z3, z4, z5, z6, z7] [y0, y1, y2, y3, y4, y5, y6, y7] ≤ r)) := ⟨by unfold nrb; rw [hze, HYE.out]⟩
                          have HGJ := Aside0.mk (HGS.out j)
                          have HMS := Aside0.mk (mix_set (gnF s r P (covU s r P b cov (m + 1))) (gnF s r P (covU s r P b cov m)) hjP)
                          have HMR : Aside0 (rd (mix (gnF s r P (covU s r P b cov (m + 1))) (gnF s r P (covU s r P b cov m)) P j) (j : Int) = gnF s r P (covU s r P b cov m) j) := ⟨mix_rd _ _ hjP⟩
                          have HMK := Aside0.mk (fun (e : gnF s r P (covU s r P b cov (m + 1)) j = gnF s r P (covU s r P b cov m) j) => mix_skip (gnF s r P (covU s r P b cov (m + 1))) (gnF s r P (covU s r P b cov m)) hjP e)
                          have hv := HBD.out j
                          clear hze
                          by_cases hh : ham [z0, z1, z2, z3, z4, z5, z6, z7] [y0, y1, y2, y3, y4, y5, y6, y7] ≤ r
                          · have t3 : decide (ham [z0, z1, z2, z3, z4, z5, z6, z7] [y0, y1, y2, y3, y4, y5, y6, y7] ≤ r) = true := decide_eq_true hh
                            have HF2 : Aside0 (gnF s r P (covU s r P b cov (m + 1)) j = gnF s r P (covU s r P b cov m) j - 1) := ⟨by rw [HGJ.out, HNZ.out, t3, if_pos rfl]⟩
                            clear hh HGJ HNZ HMK
                            go_wp2_with fail
                            go_region_held3 (fun w' => w'.cell? ⟨g, j * 8, none⟩ = some (.int .u8 z0) ∧ w'.cell? ⟨g, j * 8 + 1, none⟩ = some (.int .u8 z1) ∧ w'.cell? ⟨g, j * 8 + 2, none⟩ = some (.int .u8 z2) ∧ w'.cell? ⟨g, j * 8 + 3, none⟩ = some (.int .u8 z3) ∧ w'.cell? ⟨g, j * 8 + 4, none⟩ = some (.int .u8 z4) ∧ w'.cell? ⟨g, j * 8 + 5, none⟩ = some (.int .u8 z5) ∧ w'.cell? ⟨g, j * 8 + 6, none⟩ = some (.int .u8 z6) ∧ w'.cell? ⟨g, j * 8 + 7, none⟩ = some (.int .u8 z7) ∧ w'.cell? ⟨g, m * 8, none⟩ = some (.int .u8 y0) ∧ w'.cell? ⟨g, m * 8 + 1, none⟩ = some (.int .u8 y1) ∧ w'.cell? ⟨g, m * 8 + 2, none⟩ = some (.int .u8 y2) ∧ w'.cell? ⟨g, m * 8 + 3, none⟩ = some (.int .u8 y3) ∧ w'.cell? ⟨g, m * 8 + 4, none⟩ = some (.int .u8 y4) ∧ w'.cell? ⟨g, m * 8 + 5, none⟩ = some (.int .u8 y5) ∧ w'.cell? ⟨g, m * 8 + 6, none⟩ = some (.int .u8 y6) ∧ w'.cell? ⟨g, m * 8 + 7, none⟩ = some (.int .u8 y7) ∧ Below wr.heap.size wr w') (first | exact ⟨f0, f1, f2, f3, f4, f5, f6, f7, k0, k1, k2, k3, k4, k5, k6, k7, below_drew (Below.refl _ _)⟩ | exact (And.imp (pw_cell_below hb) (And.imp (pw_cell_below hb) (And.imp (pw_cell_below hb) (And.imp (pw_cell_below hb) (And.imp (pw_cell_below hb) (And.imp (pw_cell_below hb) (And.imp (pw_cell_below hb) (And.imp (pw_cell_below hb) (And.imp (pw_cell_below hb) (And.imp (pw_cell_below hb) (And.imp (pw_cell_below hb) (And.imp (pw_cell_below hb) (And.imp (pw_cell_below hb) (And.imp (pw_cell_below hb) (And.imp (pw_cell_below hb) (And.imp (pw_cell_below hb) (fun hS => below_then hS hS.size hb))))))))))))))))) (by assumption))
                              (first
                                | (go_at_call 71; refine (far_calls8 z0 z1 z2 z3 z4 z5 z6 z7 y0 y1 y2 y3 y4 y5 y6 y7 _).mono ?_; rintro e w' ⟨rfl, hb⟩))
                            all_goals
                              obtain ⟨_, _, _, _, _, _, _, _, _, _, _, _, _, _, _, _, hBB⟩ := (by assumption : World.cell? _ ⟨g, j * 8, none⟩ = some (Value.int .u8 z0) ∧ _)
                              have HD2 := Aside0.mk (pw_own_below HD.out hBB)
                              have HT2 := Aside0.mk (pw_own_below HT.out hBB)
                              have HV2 := Aside0.mk (pw_own_below HV.out hBB)
                              have HO2 := Aside0.mk (Kd.R_below HO.out hBB)
                              have HB2 := Aside0.mk (below_then HB.out HB.out.size hBB)
                              obtain ⟨o1, o2'⟩ := own_at HT2.out (j : Int) (by omega) (by omega)
                              rw [Int.toNat_natCast, HMR.out] at o1
                              rw [Int.toNat_natCast] at o2'
                              have hst := own_store HT2.out (j : Int) (gnF s r P (covU s r P b cov m) j - 1)
                              rw [Int.toNat_natCast, ← HF2.out, HMS.out, HF2.out] at hst
                              have HST := Aside0.mk hst
                              have HD3 := Aside0.mk (own_other HD2.out hst.2 (own_type_ne' HD2.out HT2.out (by decide)))
                              have HV3 := Aside0.mk (own_other HV2.out hst.2 (own_type_ne' HV2.out HT2.out (by decide)))
                              have HO3 := Aside0.mk (Kd.R_grown HO2.out hst.2 (fun k hk => hk))
                              have HB3 := Aside0.mk (pw_below_grown HB2.out _ HB2.out.size hst.2 (fun k hk => by injection hk with hk; subst hk; exact own_base HT2.out _ rfl))
                              clear hst HMS HMR HF2 hb HD2 HT2 HV2 HO2 HB2 HD HT HV HO HB
                              generalize gnF s r P (covU s r P b cov m) j = zz at *
                              go_wp2
                              go_roundw
                              case rel => exact ⟨j + 1, by omega, by go_num, HD3, ⟨HST.out.1⟩, HV3, HO3, HB3⟩
                              case measure => simp [intOf]; omega
                          · have t3 : decide (ham [z0, z1, z2, z3, z4, z5, z6, z7] [y0, y1, y2, y3, y4, y5, y6, y7] ≤ r) = false := decide_eq_false hh
                            have HF2 : Aside0 (gnF s r P (covU s r P b cov (m + 1)) j = gnF s r P (covU s r P b cov m) j) := ⟨by rw [HGJ.out, HNZ.out, t3, if_neg (by decide)]⟩
                            clear hh HGJ HNZ
                            go_wp2_with fail
                            go_region_held3 (fun w' => w'.cell? ⟨g, j * 8, none⟩ = some (.int .u8 z0) ∧ w'.cell? ⟨g, j * 8 + 1, none⟩ = some (.int .u8 z1) ∧ w'.cell? ⟨g, j * 8 + 2, none⟩ = some (.int .u8 z2) ∧ w'.cell? ⟨g, j * 8 + 3, none⟩ = some (.int .u8 z3) ∧ w'.cell? ⟨g, j * 8 + 4, none⟩ = some (.int .u8 z4) ∧ w'.cell? ⟨g, j * 8 + 5, none⟩ = some (.int .u8 z5) ∧ w'.cell? ⟨g, j * 8 + 6, none⟩ = some (.int .u8 z6) ∧ w'.cell? ⟨g, j * 8 + 7, none⟩ = some (.int .u8 z7) ∧ w'.cell? ⟨g, m * 8, none⟩ = some (.int .u8 y0) ∧ w'.cell? ⟨g, m * 8 + 1, none⟩ = some (.int .u8 y1) ∧ w'.cell? ⟨g, m * 8 + 2, none⟩ = some (.int .u8 y2) ∧ w'.cell? ⟨g, m * 8 + 3, none⟩ = some (.int .u8 y3) ∧ w'.cell? ⟨g, m * 8 + 4, none⟩ = some (.int .u8 y4) ∧ w'.cell? ⟨g, m * 8 + 5, none⟩ = some (.int .u8 y5) ∧ w'.cell? ⟨g, m * 8 + 6, none⟩ = some (.int .u8 y6) ∧ w'.cell? ⟨g, m * 8 + 7, none⟩ = some (.int .u8 y7) ∧ Below wr.heap.size wr w') (first | exact ⟨f0, f1, f2, f3, f4, f5, f6, f7, k0, k1, k2, k3, k4, k5, k6, k7, below_drew (Below.refl _ _)⟩ | exact (And.imp (pw_cell_below hb) (And.imp (pw_cell_below hb) (And.imp (pw_cell_below hb) (And.imp (pw_cell_below hb) (And.imp (pw_cell_below hb) (And.imp (pw_cell_below hb) (And.imp (pw_cell_below hb) (And.imp (pw_cell_below hb) (And.imp (pw_cell_below hb) (And.imp (pw_cell_below hb) (And.imp (pw_cell_below hb) (And.imp (pw_cell_below hb) (And.imp (pw_cell_below hb) (And.imp (pw_cell_below hb) (And.imp (pw_cell_below hb) (And.imp (pw_cell_below hb) (fun hS => below_then hS hS.size hb))))))))))))))))) (by assumption))
                              (first
                                | (go_at_call 71; refine (far_calls8 z0 z1 z2 z3 z4 z5 z6 z7 y0 y1 y2 y3 y4 y5 y6 y7 _).mono ?_; rintro e w' ⟨rfl, hb⟩))
                            all_goals
                              obtain ⟨_, _, _, _, _, _, _, _, _, _, _, _, _, _, _, _, hBB⟩ := (by assumption : World.cell? _ ⟨g, j * 8, none⟩ = some (Value.int .u8 z0) ∧ _)
                              have HD2 := Aside0.mk (pw_own_below HD.out hBB)
                              have HT2 : Aside0 (World.ownsRow _ w.heap.size 2 1 (.slice (some ⟨g9, 0, none⟩) P P) P (nums .i64 (mix (gnF s r P (covU s r P b cov (m + 1))) (gnF s r P (covU s r P b cov m)) P (j + 1)))) := ⟨by rw [← HMK.out HF2.out]; exact pw_own_below HT.out hBB⟩
                              have HV2 := Aside0.mk (pw_own_below HV.out hBB)
                              have HO2 := Aside0.mk (Kd.R_below HO.out hBB)
                              have HB2 := Aside0.mk (below_then HB.out HB.out.size hBB)
                              clear HMS HMR HMK HF2 hb HD HT HV HO HB
                              go_wp2
                              go_roundw
                              case rel => exact ⟨j + 1, by omega, by go_num, HD2, HT2, HV2, HO2, HB2⟩
                              case measure => simp [intOf]; omega
                        · have hj2 : j = P := by omega
                          have hma := mix_all (gnF s r P (covU s r P b cov (m + 1))) (gnF s r P (covU s r P b cov m)) P
                          rw [hj2, hma] at HT
                          have t4 : decide ((j : Int) < P) = false := decide_eq_false (by omega)
                          clear hma
                          go_wp2
                          go_roundw
                          case rel => exact ⟨m + 1, by omega, by go_num, HD, HT, HV, HO, HB⟩
                          case measure => simp [intOf]; omega
                  · have t2 : decide (r < ham [x0, x1, x2, x3, x4, x5, x6, x7] [y0, y1, y2, y3, y4, y5, y6, y7]) = true := decide_eq_true (by omega)
                    have HN1 : Aside0 (nrb s r b m = false) := ⟨by rw [HNR.out, decide_eq_false hh]⟩
                    clear hh HNR
                    go_wp2_with fail
                    go_region_held3 (fun w' => w'.cell? ⟨g, b * 8, none⟩ = some (.int .u8 x0) ∧ w'.cell? ⟨g, b * 8 + 1, none⟩ = some (.int .u8 x1) ∧ w'.cell? ⟨g, b * 8 + 2, none⟩ = some (.int .u8 x2) ∧ w'.cell? ⟨g, b * 8 + 3, none⟩ = some (.int .u8 x3) ∧ w'.cell? ⟨g, b * 8 + 4, none⟩ = some (.int .u8 x4) ∧ w'.cell? ⟨g, b * 8 + 5, none⟩ = some (.int .u8 x5) ∧ w'.cell? ⟨g, b * 8 + 6, none⟩ = some (.int .u8 x6) ∧ w'.cell? ⟨g, b * 8 + 7, none⟩ = some (.int .u8 x7) ∧ w'.cell? ⟨g, m * 8, none⟩ = some (.int .u8 y0) ∧ w'.cell? ⟨g, m * 8 + 1, none⟩ = some (.int .u8 y1) ∧ w'.cell? ⟨g, m * 8 + 2, none⟩ = some (.int .u8 y2) ∧ w'.cell? ⟨g, m * 8 + 3, none⟩ = some (.int .u8 y3) ∧ w'.cell? ⟨g, m * 8 + 4, none⟩ = some (.int .u8 y4) ∧ w'.cell? ⟨g, m * 8 + 5, none⟩ = some (.int .u8 y5) ∧ w'.cell? ⟨g, m * 8 + 6, none⟩ = some (.int .u8 y6) ∧ w'.cell? ⟨g, m * 8 + 7, none⟩ = some (.int .u8 y7) ∧ w'.cell? ⟨gv, m, none⟩ = some (.bool false) ∧ Below wr.heap.size wr w') (first | exact ⟨f0, f1, f2, f3, f4, f5, f6, f7, k0, k1, k2, k3, k4, k5, k6, k7, o1, below_drew (Below.refl _ _)⟩ | exact (And.imp (pw_cell_below hb) (And.imp (pw_cell_below hb) (And.imp (pw_cell_below hb) (And.imp (pw_cell_below hb) (And.imp (pw_cell_below hb) (And.imp (pw_cell_below hb) (And.imp (pw_cell_below hb) (And.imp (pw_cell_below hb) (And.imp (pw_cell_below hb) (And.imp (pw_cell_below hb) (And.imp (pw_cell_below hb) (And.imp (pw_cell_below hb) (And.imp (pw_cell_below hb) (And.imp (pw_cell_below hb) (And.imp (pw_cell_below hb) (And.imp (pw_cell_below hb) (And.imp (pw_cell_below hb) (fun hS => below_then hS hS.size hb)))))))))))))))))) (by assumption))
                      (first
                        | (go_at_call 71; refine (far_calls8 x0 x1 x2 x3 x4 x5 x6 x7 y0 y1 y2 y3 y4 y5 y6 y7 _).mono ?_; rintro e w' ⟨rfl, hb⟩))
                    all_goals
                      obtain ⟨_, _, _, _, _, _, _, _, _, _, _, _, _, _, _, _, _, hBB⟩ := (by assumption : World.cell? _ ⟨g, b * 8, none⟩ = some (Value.int .u8 x0) ∧ _)
                      have HSK : Aside0 (covU s r P b cov (m + 1) = covU s r P b cov m) := ⟨covU_skip s r P b cov (by rw [HCV.out, HN1.out]; rfl)⟩
                      have HD2 := Aside0.mk (pw_own_below HD.out hBB)
                      have HT2 : Aside0 (World.ownsRow _ w.heap.size 2 1 (.slice (some ⟨g9, 0, none⟩) P P) P (nums .i64 (gnL s r P (covU s r P b cov (m + 1))))) := ⟨by rw [HSK.out]; exact pw_own_below HT.out hBB⟩
                      have HV2 : Aside0 (World.ownsRow _ w.heap.size 4 1 (.slice (some ⟨gv, 0, none⟩) P P) P (encs Value.bool (covU s r P b cov (m + 1)))) := ⟨by rw [HSK.out]; exact pw_own_below HV.out hBB⟩
                      have HO2 := Aside0.mk (Kd.R_below HO.out hBB)
                      have HB2 := Aside0.mk (below_then HB.out HB.out.size hBB)
                      clear HD HT HV HO HB HSK hb
                      go_wp2
                      go_roundw
                      case rel => exact ⟨m + 1, by omega, by go_num, HD2, HT2, HV2, HO2, HB2⟩
                      case measure => simp [intOf]; omega
              · have hm2 : m = P := by omega
                subst hm2
                go_wp2
                go_roundw
                case rel => exact ⟨covU s r m b cov m, oo, A1, c1, rfl, covU_len s r m b cov m, by have hle := HLE.out; omega, ⟨by rw [HGL.out, hSR.out]⟩, HD, HT, HV, HO, HB⟩
                case measure => have hle := HLE.out; simp only [sliceLen]; omega
  · have HZ : Aside0 (greedyR s r = ([], Q.rBall s 0 r)) := ⟨by unfold greedyR; rw [if_neg hz]⟩
    clear HBC
    generalize Q.rBall s 0 r = z at *
    go_wp2
    go_ret2
    rw [HZ.out]
    exact ⟨_, rfl, Kd.R_nil _ _ _ _ _, B1.out⟩

/-- What the program's GreedyCode returns. -/
def impl_GreedyCode.f (l0_0 : List Int) (a1 : Int) : Option (List Int × Int) := some (greedyR l0_0 a1)

theorem impl_GreedyCode.calls (A0_0 : Option Addr) (c0_0 : Nat) (l0_0 : List Int) (a1 : Int) (r1 : List Int) (r2 : Int) (w : World) (hr0_0 : Kd.C (Kd.int .i64) w A0_0 l0_0.length l0_0) (hc0_0 : l0_0.length ≤ c0_0) (h : impl_GreedyCode.f l0_0 a1 = some (r1, r2)) :
    Calls Try.prog 27 #[.agg #[.slice A0_0 l0_0.length c0_0], .int .i64 a1] w fun e w' => ∃ v0_ : Value, e = .returned (.tuple #[v0_, .int .i64 r2]) ∧ Kd.R (Kd.int .i64) 2 w' w.heap.size (fun _ => True) v0_ r1 ∧ Below w.heap.size w w' := by
  unfold impl_GreedyCode.f at h
  have he := Option.some.inj h
  obtain ⟨rfl, rfl⟩ : r1 = (greedyR l0_0 a1).1 ∧ r2 = (greedyR l0_0 a1).2 := by rw [he]; exact ⟨rfl, rfl⟩
  exact greedy_calls A0_0 c0_0 l0_0 a1 w hr0_0 hc0_0
end Go.Proofs.Ytbhgnphdhkmliaa.P
