/- The lean code: what the program's LeanCode returns. -/
import Derived.Test.YthcodiknghfmmaaHNeeded
import Derived.Test.YthcodiknghfmmaaHTimes
import Derived.Test.YthcodiknghfmmaaQCover
set_option linter.unusedVariables false
set_option linter.unusedSimpArgs false
namespace Go.Proofs.Ythcodiknghfmmaa.P
open Go.RowKit Go.Proofs.YthcodiknghfmmaaW.PrintWords Go.Proofs.YthcodiknghfmmaaW.PrintLast Go.Proofs.YthcodiknghfmmaaW.PrintMore CC

/-- The counts without the words near to x. -/
def decL (s T : List Int) (x r : Int) : List Int := (List.range T.length).map fun (u : Nat) => if ham (dig8 s x) (dig8 s (u : Int)) ≤ r then rd T (u : Int) - 1 else rd T (u : Int)
def decF (s T : List Int) (x r : Int) (u : Nat) : Int := if ham (dig8 s x) (dig8 s (u : Int)) ≤ r then rd T (u : Int) - 1 else rd T (u : Int)
theorem range_rd (T : List Int) {P : Nat} (h : T.length = P) : ((List.range P).map fun (u : Nat) => rd T (u : Int)) = T := by
  subst h
  apply List.ext_getElem
  · simp
  · intro i h1 h2
    simp [rd, List.getD_eq_getElem?_getD, h2]
/-- What is kept, and the counts, after the first n words. -/
def leanQ (s C : List Int) (r : Int) (T0 : List Int) : Nat → List Int × List Int
  | 0 => ([], T0)
  | n + 1 => if needQ s (leanQ s C r T0 n).2 (rd C (n : Int)) r 0 (prd s).toNat = true then ((leanQ s C r T0 n).1 ++ [rd C (n : Int)], (leanQ s C r T0 n).2) else ((leanQ s C r T0 n).1, decL s (leanQ s C r T0 n).2 (rd C (n : Int)) r)
theorem decL_length (s T : List Int) (x r : Int) : (decL s T x r).length = T.length := by simp [decL]
theorem leanQ_length (s C : List Int) (r : Int) (T0 : List Int) : ∀ n, (leanQ s C r T0 n).2.length = T0.length
  | 0 => rfl
  | n + 1 => by
    rw [leanQ]
    split
    · exact leanQ_length s C r T0 n
    · show (decL s _ _ _).length = T0.length
      rw [decL_length]
      exact leanQ_length s C r T0 n
theorem leanQ_out (s C : List Int) (r : Int) (T0 : List Int) : ∀ n, (leanQ s C r T0 n).1.length ≤ n
  | 0 => Nat.le_refl 0
  | n + 1 => by
    have := leanQ_out s C r T0 n
    rw [leanQ]
    split
    · show (_ ++ [_]).length ≤ n + 1
      rw [List.length_append, List.length_singleton]
      omega
    · show (leanQ s C r T0 n).1.length ≤ n + 1
      omega
theorem rd_map_range (f : Nat → Int) (P u : Nat) : rd ((List.range P).map f) (u : Int) = if u < P then f u else 0 := by
  by_cases h : u < P
  · simp [rd, List.getD_eq_getElem?_getD, h]
  · simp [rd, List.getD_eq_getElem?_getD, h]
theorem leanQ_bd (s C : List Int) (r : Int) (T0 : List Int) (h0 : ∀ u : Nat, 0 ≤ rd T0 (u : Int) ∧ rd T0 (u : Int) ≤ 1048576) : ∀ (n u : Nat), -(n : Int) ≤ rd (leanQ s C r T0 n).2 (u : Int) ∧ rd (leanQ s C r T0 n).2 (u : Int) ≤ 1048576
  | 0, u => by have := h0 u; simpa [leanQ] using this
  | n + 1, u => by
    have := leanQ_bd s C r T0 h0 n u
    rw [leanQ]
    split
    · show -((n + 1 : Nat) : Int) ≤ rd (leanQ s C r T0 n).2 (u : Int) ∧ rd (leanQ s C r T0 n).2 (u : Int) ≤ 1048576
      omega
    · show -((n + 1 : Nat) : Int) ≤ rd (decL s (leanQ s C r T0 n).2 (rd C (n : Int)) r) (u : Int) ∧ rd (decL s (leanQ s C r T0 n).2 (rd C (n : Int)) r) (u : Int) ≤ 1048576
      unfold decL
      rw [rd_map_range]
      split
      · split <;> omega
      · omega
theorem timesL_bd (s C : List Int) (r : Int) (hC : C.length ≤ 1048576) (u : Nat) : 0 ≤ rd (timesL s C r) (u : Int) ∧ rd (timesL s C r) (u : Int) ≤ 1048576 := by
  unfold timesL
  rw [rd_map_range]
  have h1 := tm_nonneg s C r C.length u
  have h2 := tm_le s C r C.length u
  split <;> omega
def leanR (s C : List Int) (r : Int) : List Int × Int := if Q.rCover s C r = 0 then ((leanQ s C r (timesL s C r) C.length).1, 0) else ([], Q.rCover s C r)

set_option maxHeartbeats 16000000 in
set_option maxRecDepth 100000 in
theorem lean_calls (A : Option Addr) (c : Nat) (s : List Int) (A1 : Option Addr) (c1 : Nat) (C : List Int) (r : Int) (w : World) (hr : Kd.C (Kd.int .i64) w A s.length s) (hc : s.length ≤ c) (hr1 : Kd.C (Kd.int .i64) w A1 C.length C) (hc1 : C.length ≤ c1) (hCl : C.length ≤ 1048576) :
    Calls Try.prog 25 #[.agg #[.slice A s.length c], .slice A1 C.length c1, .int .i64 r] w
      fun e w' => ∃ v, e = .returned (.tuple #[v, .int .i64 (leanR s C r).2]) ∧ Kd.R (Kd.int .i64) 2 w' w.heap.size (fun _ => True) v (leanR s C r).1 ∧ Below w.heap.size w w' := by
  have huS := Try.underlying28
  have huD := Try.underlying52
  have HR := Aside0.mk hr
  have HR1 := Aside0.mk hr1
  obtain ⟨kb, hbc⟩ := (Q.coverCode_ev s (c := C) hCl r).rounds
  have HBC := Aside0.mk hbc
  clear hr hr1 hbc
  go_enter Try.func25, Try.ntmps25
  have hcell : (w.alloc (.cells #[.slice A s.length c] 28)).heap[w.heap.size]? = some (.cells #[.slice A s.length c] 28 (0, 0)) := blk_new _ _
  have hB : Below w.heap.size w (w.alloc (.cells #[.slice A s.length c] 28)) := (Below.refl _ _).alloc (Nat.le_refl _) _
  have hcz : (w.alloc (.cells #[.slice A s.length c] 28)).cell? ⟨w.heap.size, 0, none⟩ = some (.slice A s.length c) := blk_cell hcell 0
  go_wp2_with fail
  refine (impl_coverCode.calls kb A c s A1 c1 C r (Q.rCover s C r) _ (Kd.C_below HR.out hB) hc (Kd.C_below HR1.out hB) hc1 HBC.out).mono ?_
  rintro e w0 ⟨rfl, hb⟩
  have K1 := Aside0.mk (blk_below hcell hb)
  have B1 := Aside0.mk (below_then hB hB.size hb)
  clear hcell hB hb hcz
  by_cases hz : Q.rCover s C r = 0
  · have HZ : Aside0 (leanR s C r = ((leanQ s C r (timesL s C r) C.length).1, 0)) := ⟨by unfold leanR; rw [if_pos hz]⟩
    obtain ⟨hs, hC, _⟩ := Q.rCover_zero hz
    have HS := Aside0.mk hs
    have hC2 : C.all (isW s) = true := by rw [List.all_eq_true]; exact Q.isC_words hC
    have HC := Aside0.mk hC2
    have hCl2 := Q.isC_len hs hC
    obtain ⟨kc, hcount⟩ := (Q.count_sp hs).rounds
    have HK := Aside0.mk hcount
    rw [hz]
    clear hs hC hC2 hz HBC hcount
    have hcz : w0.cell? ⟨w.heap.size, 0, none⟩ = some (.slice A s.length c) := blk_cell K1.out 0
    have hB1 : Below w.heap.size w w0 := B1.out
    have p0 := isSp_prd1 HS.out
    have p1 := isSp_prd HS.out
    obtain ⟨P, hP⟩ : ∃ P : Nat, prd s = (P : Int) := ⟨(prd s).toNat, by omega⟩
    have hP2 : (prd s).toNat = P := by omega
    have pP : P ≤ 1024 := by omega
    have pP0 : 1 ≤ P := by omega
    have HP := Aside0.mk hP
    have HP2 := Aside0.mk hP2
    have HTL : Aside0 ((timesL s C r).length = P) := ⟨by simp [timesL, hP2]⟩
    clear hP hP2 p0 p1
    go_upto_region 4 with (fail)
    go_cut [9, 10, 11] (fun v9 v10 v11 W => ∃ g cap, v9 = .slice (some ⟨g, 0, none⟩) P cap ∧ Aside0 (P ≤ cap) ∧ Aside0 (W.ownsRow w.heap.size 52 8 (.slice (some ⟨g, 0, none⟩) P cap) P (flat8 (all8 s P))) ∧ Aside0 (Kd.R (Kd.int .i64) 2 W w.heap.size (fun _ => True) v10 (timesL s C r)) ∧ (∃ vo, vo = v11 ∧ Aside0 (Kd.R (Kd.int .i64) 2 W w.heap.size (fun k => some k ≠ v10.ownBlock) vo ([] : List Int))) ∧ Aside0 (Below w.heap.size w W))
    case first =>
      go_region_held3 (fun w' => w'.cell? ⟨w.heap.size, 0, none⟩ = some (.slice A s.length c) ∧ Below w.heap.size w w') (first | exact ⟨hcz, below_drew hB1⟩ | exact ⟨blk_cell (blk_drew (blk_alloc K1.out _)) 0, below_drew (below_alloc hB1 _)⟩ | exact keepS hb (by assumption) | (refine keepS ((Below.refl _ _).alloc (Nat.le_refl _) _) ?_; assumption))
        (first
          | (go_at_call 60; refine (allDigits_calls A c s _ ?k1 hc HS.out kc ?k2).mono ?_; (case k1 => exact Kd.C_below HR.out (by first | assumption | exact (by assumption : _ ∧ Below _ _ _).2)); (case k2 => exact HK.out); rintro e w' ⟨v1, rfl, hD, hb⟩; have hz1 := hb.size; obtain ⟨wd, hwd⟩ : ∃ wd : World, wd = w' := ⟨_, rfl⟩; have hbd := hb)
          | (go_at_call 61; refine (times_calls A c s A1 c1 C r _ ?k1 hc ?k2 hc1 HS.out HC.out hCl).mono ?_; (case k1 => exact Kd.C_below HR.out (by first | assumption | exact (by assumption : _ ∧ Below _ _ _).2)); (case k2 => exact Kd.C_below HR1.out (by first | assumption | exact (by assumption : _ ∧ Below _ _ _).2)); rintro e w' ⟨v2, rfl, hT, hb⟩; have hz2 := hb.size; obtain ⟨wt, hwt⟩ : ∃ wt : World, wt = w' := ⟨_, rfl⟩; have hbt := hb))
      all_goals go_wp2
      all_goals go_meet
      all_goals
        subst hwd
        clear hwt
        rw [HP2.out] at hD
        obtain ⟨g, cap, rfl, hcap⟩ : ∃ g cap, v1 = .slice (some ⟨g, 0, none⟩) P cap ∧ P ≤ cap := by
          rcases hD.2 with ⟨_, h⟩ | ⟨g, cap, _, h, _, _, h2, _⟩
          · omega
          · exact ⟨g, cap, h, h2⟩
        have hz0 := hB1.size
        have hz3 : w0.heap.size ≤ wd.heap.size := by first | simpa using hz1 | (have := hz1; simp at this; omega)
        have hz4 : wd.heap.size ≤ w'.heap.size := by first | simpa using hz2 | (have := hz2; simp at this; omega)
        have hTl := Kd.R_lt hT
        have hTb := fun k hk => own_base (Kd.own_of_R hT) k hk
        first
          | exact ⟨g, cap, rfl, ⟨hcap⟩, ⟨own_weaken (own_alloc (pw_own_below hD hbt) _) (by simp; omega)⟩, ⟨Kd.R_alloc (Kd.R_lower hT (by omega)) _⟩, ⟨_, rfl, ⟨Kd.R_of_own ((show (w'.alloc (.cells #[] 2)).ownsRow w.heap.size 2 1 (.slice (some ⟨w'.heap.size, 0, none⟩) 0 0) 0 (nums .i64 []) from ⟨rfl, .inr ⟨w'.heap.size, 0, #[], rfl, by omega, blk_new w' (.cells #[] 2), by omega, by unfold maxLen; omega, rfl, rfl⟩⟩)) (fun k hk he => by have h1 := hTl k he.symm; simp [Value.ownBlock] at hk; omega)⟩⟩, ⟨(by assumption : _ ∧ Below w.heap.size w _).2⟩⟩
          | exact ⟨g, cap, rfl, ⟨hcap⟩, ⟨own_weaken (pw_own_below (own_alloc hD _) hbt) (by simp; omega)⟩, ⟨Kd.R_lower hT (by simp; omega)⟩, ⟨_, rfl, ⟨Kd.R_of_own (pw_own_below (show (wd.alloc (.cells #[] 2)).ownsRow w.heap.size 2 1 (.slice (some ⟨wd.heap.size, 0, none⟩) 0 0) 0 (nums .i64 []) from ⟨rfl, .inr ⟨wd.heap.size, 0, #[], rfl, by omega, blk_new wd (.cells #[] 2), by omega, by unfold maxLen; omega, rfl, rfl⟩⟩) hbt) (fun k hk he => by have h1 := hTb k he.symm; simp [Value.ownBlock] at hk h1; first | omega | (have h2 := hz1; simp at h2; omega))⟩⟩, ⟨(by assumption : _ ∧ Below w.heap.size w _).2⟩⟩
          | exact ⟨g, cap, rfl, ⟨hcap⟩, ⟨own_weaken (pw_own_below hD hbt) (by simp; omega)⟩, ⟨Kd.R_lower hT (by omega)⟩, ⟨_, rfl, ⟨Kd.R_of_own (pw_own_below (pw_own_below (show (w0.alloc (.cells #[] 2)).drew.ownsRow w.heap.size 2 1 (.slice (some ⟨w0.heap.size, 0, none⟩) 0 0) 0 (nums .i64 []) from ⟨rfl, .inr ⟨w0.heap.size, 0, #[], rfl, by omega, blk_drew (blk_new w0 (.cells #[] 2)), by omega, by unfold maxLen; omega, rfl, rfl⟩⟩) hbd) hbt) (fun k hk he => by have h1 := hTb k he.symm; simp [Value.ownBlock] at hk h1; first | omega | (have h2 := hz1; simp at h2; omega))⟩⟩, ⟨(by assumption : _ ∧ Below w.heap.size w _).2⟩⟩
    case rest =>
      obtain ⟨g, cap, rfl, HCAP, HD, HT0, ⟨vo, rfl, HO0⟩, HB⟩ := hcut
      obtain ⟨g8, cap8, e8, hb8, hl8, _⟩ := Kd.R_form HT0.out (by rw [HTL.out]; omega)
      subst e8
      have HT1 := Aside0.mk (Kd.own_of_R HT0.out)
      rw [HTL.out] at HT1
      have hcap := HCAP.out
      rw [HTL.out]
      go_wp2_with fail
      go_loopw [11, 31] (fun v i W => ∃ (n : Nat) (vo : Value), n ≤ C.length ∧ vo = v ∧ i = .int .i64 n ∧ Aside0 (W.ownsRow w.heap.size 52 8 (.slice (some ⟨g, 0, none⟩) P cap) P (flat8 (all8 s P))) ∧ Aside0 (W.ownsRow w.heap.size 2 1 (.slice (some ⟨g8, 0, none⟩) P cap8) P (nums .i64 (leanQ s C r (timesL s C r) n).2)) ∧ Aside0 (Kd.R (Kd.int .i64) 2 W w.heap.size (fun k => some k ≠ some g8) vo (leanQ s C r (timesL s C r) n).1) ∧ Aside0 (Below w.heap.size w W)) (fun _ i _ => C.length - (intOf i).toNat)
      case atStart => exact ⟨0, _, by omega, rfl, rfl, HD, HT1, ⟨HO0.out⟩, HB⟩
      case round =>
        clear HD HT1 HO0 HB
        obtain ⟨n, vo, hn, rfl, rfl, HD, HT, HO, HB⟩ := hrel
        have hQl : (leanQ s C r (timesL s C r) n).2.length = P := by rw [leanQ_length]; exact HTL.out
        have hQo := leanQ_out s C r (timesL s C r) n
        have HQS : Aside0 (leanQ s C r (timesL s C r) (n + 1) = if needQ s (leanQ s C r (timesL s C r) n).2 (rd C (n : Int)) r 0 P = true then ((leanQ s C r (timesL s C r) n).1 ++ [rd C (n : Int)], (leanQ s C r (timesL s C r) n).2) else ((leanQ s C r (timesL s C r) n).1, decL s (leanQ s C r (timesL s C r) n).2 (rd C (n : Int)) r)) := ⟨by rw [leanQ, HP2.out]⟩
        by_cases hlt : n < C.length
        · obtain ⟨ad1, e1, _⟩ := Kd.at_int HR1.out (n : Int) (by omega) (by omega)
          subst e1
          have hx := rd_cell HR1.out HB.out n hlt
          obtain ⟨c0, c1'⟩ := code_rd HC.out hlt
          rw [HP.out] at c1'
          have HTB := Aside0.mk (leanQ_bd s C r _ (timesL_bd s C r hCl) n)
          generalize rd C (n : Int) = x at *
          generalize (leanQ s C r (timesL s C r) n).2 = T at *
          generalize (leanQ s C r (timesL s C r) n).1 = O at *
          go_wp2_with fail
          have hTR : Kd.R (Kd.int .i64) 2 wr w.heap.size (fun _ => True) (.slice (some ⟨g8, 0, none⟩) P cap8) T := Kd.R_of_own (by rw [hQl]; exact HT.out) (fun _ _ => trivial)
          have hTC := Kd.R_reads' hTR
          have hN := needed_calls s T P g cap w.heap.size (some ⟨g8, 0, none⟩) cap8 x r wr HD.out hcap hTC.2.2 (by rw [hQl]; exact hTC.2.1) hQl pP c0 c1'
          rw [hQl] at hN
          refine hN.mono ?_
          rintro e w2 ⟨rfl, hb⟩
          have HD2 := Aside0.mk (pw_own_below HD.out hb)
          have HT2 := Aside0.mk (pw_own_below HT.out hb)
          have HO2 := Aside0.mk (Kd.R_below HO.out hb)
          have HB2 := Aside0.mk (below_then HB.out HB.out.size hb)
          clear hN hTR hTC HD HT HO HB hb hx
          by_cases hnd : needQ s T x r 0 P = true
          · have HQ2 : Aside0 (leanQ s C r (timesL s C r) (n + 1) = (O ++ [x], T)) := ⟨by rw [HQS.out, if_pos hnd]⟩
            rw [hnd]
            clear HQS hnd
            have hTR2 : Kd.R (Kd.int .i64) 2 w2 w.heap.size (fun _ => True) (.slice (some ⟨g8, 0, none⟩) P cap8) T := Kd.R_of_own (by rw [hQl]; exact HT2.out) (fun _ _ => trivial)
            have HF := Aside0.mk (Kd.fresh' (Kd.R_lt hTR2))
            clear hTR2
            go_wp2_with ((with_reducible refine gate_builtin (b := .append) (xs := #[.tmp 40, .tmp 42]) rfl ?_); at_builtin; refine Kd.R_append (Kd.int .i64) (w0 := w) w.heap.size rfl (.tmp 40) (.tmp 42) 22 2 (.int .i64 0) 8 rfl Try.underlying22 infoI rfl (by decide) (by omega) vo O x [.int .i64 x] (fun k_ => some k_ ≠ some g8) (fun _ => False) rfl rfl ?aP (fun _ hk => hk.elim) ?aF ?aO ?aB ?aS ?aL ?_)
            case aP => exact rfl
            case aF => exact HF.out
            case aO => exact HO2.out
            case aB => exact HB2.out
            case aS => exact HB2.out.size
            case aL => omega
            intro v1 w3 ho hb3 hg hat
            have HT3 := Aside0.mk (own_other HT2.out hg (.inr (fun e => HO2.out.1 g8 e.symm rfl)))
            have HD3 := Aside0.mk (own_other HD2.out hg (own_type_ne HD2.out (Kd.own_of_R HO2.out) (by decide)))
            have HO3 := Aside0.mk ho
            have HB3 := Aside0.mk hb3
            clear ho hb3 hg hat HT2 HD2 HO2 HB2 HF
            go_wp2
            go_roundw
            case rel => exact ⟨n + 1, v1, by omega, rfl, by go_num, HD3, ⟨by rw [HQ2.out]; exact HT3.out⟩, ⟨by rw [HQ2.out]; exact Kd.R_mono HO3.out (fun k hk => by simpa using hk)⟩, HB3⟩
            case measure => simp [intOf]; omega
          · have HQ2 : Aside0 (leanQ s C r (timesL s C r) (n + 1) = (O, decL s T x r)) := ⟨by rw [HQS.out, if_neg hnd]⟩
            rw [Bool.not_eq_true] at hnd
            rw [hnd]
            clear HQS hnd
            go_wp2_with fail
            obtain ⟨wn, hwn⟩ : ∃ wn : Nat, x = (wn : Int) := ⟨x.toNat, by omega⟩
            subst hwn
            have hwP : wn < P := by omega
            obtain ⟨x0, x1, x2, x3, x4, x5, x6, x7, hxe⟩ := eight (dig8_length s (wn : Int))
            have HXE := Aside0.mk hxe
            have HDL : Aside0 (decL s T (wn : Int) r = (List.range P).map fun (u : Nat) => decF s T (wn : Int) r u) := ⟨by unfold decL; rw [hQl]; rfl⟩
            have hT0 := range_rd T hQl
            clear hxe
            go_loopw [46] (fun i W => ∃ (m : Nat), m ≤ P ∧ i = .int .i64 m ∧ Aside0 (W.ownsRow w.heap.size 52 8 (.slice (some ⟨g, 0, none⟩) P cap) P (flat8 (all8 s P))) ∧ Aside0 (W.ownsRow w.heap.size 2 1 (.slice (some ⟨g8, 0, none⟩) P cap8) P (nums .i64 (mix (decF s T (wn : Int) r) (fun u => rd T (u : Int)) P m))) ∧ Aside0 (Kd.R (Kd.int .i64) 2 W w.heap.size (fun k => some k ≠ some g8) vo O) ∧ Aside0 (Below w.heap.size w W)) (fun i _ => P - (intOf i).toNat)
            case atStart => exact ⟨0, by omega, rfl, HD2, ⟨by rw [mix_zero, hT0]; exact HT2.out⟩, HO2, HB2⟩
            case round =>
              clear HD2 HT2 HO2 HB2 hT0
              obtain ⟨m, hm, rfl, HD, HT, HO, HB⟩ := hrel
              by_cases hmP : m < P
              · obtain ⟨y0, y1, y2, y3, y4, y5, y6, y7, hye⟩ := eight (dig8_length s (m : Int))
                obtain ⟨k0, k1, k2, k3, k4, k5, k6, k7⟩ := row8 HD.out hmP hye
                obtain ⟨f0, f1, f2, f3, f4, f5, f6, f7⟩ := row8 HD.out hwP HXE.out
                have HF : Aside0 (decF s T (wn : Int) r m = if ham [x0, x1, x2, x3, x4, x5, x6, x7] [y0, y1, y2, y3, y4, y5, y6, y7] ≤ r then rd T (m : Int) - 1 else rd T (m : Int)) := ⟨by unfold decF; rw [HXE.out, hye]⟩
                have HMS := Aside0.mk (mix_set (decF s T (wn : Int) r) (fun u => rd T (u : Int)) hmP)
                have HMR : Aside0 (rd (mix (decF s T (wn : Int) r) (fun u => rd T (u : Int)) P m) (m : Int) = rd T (m : Int)) := ⟨mix_rd (decF s T (wn : Int) r) (fun u => rd T (u : Int)) hmP⟩
                have HMK := Aside0.mk (fun (e : decF s T (wn : Int) r m = rd T (m : Int)) => mix_skip (decF s T (wn : Int) r) (fun u => rd T (u : Int)) hmP e)
                have hv := HTB.out m
                clear hye
                by_cases hh : ham [x0, x1, x2, x3, x4, x5, x6, x7] [y0, y1, y2, y3, y4, y5, y6, y7] ≤ r
                · have t1 : decide (ham [x0, x1, x2, x3, x4, x5, x6, x7] [y0, y1, y2, y3, y4, y5, y6, y7] ≤ r) = true := decide_eq_true hh
                  have HF2 : Aside0 (decF s T (wn : Int) r m = rd T (m : Int) - 1) := ⟨by rw [HF.out, if_pos hh]⟩
                  clear hh HF HMK
                  go_wp2_with fail
                  go_region_held3 (fun w' => w'.cell? ⟨g, wn * 8, none⟩ = some (.int .u8 x0) ∧ w'.cell? ⟨g, wn * 8 + 1, none⟩ = some (.int .u8 x1) ∧ w'.cell? ⟨g, wn * 8 + 2, none⟩ = some (.int .u8 x2) ∧ w'.cell? ⟨g, wn * 8 + 3, none⟩ = some (.int .u8 x3) ∧ w'.cell? ⟨g, wn * 8 + 4, none⟩ = some (.int .u8 x4) ∧ w'.cell? ⟨g, wn * 8 + 5, none⟩ = some (.int .u8 x5) ∧ w'.cell? ⟨g, wn * 8 + 6, none⟩ = some (.int .u8 x6) ∧ w'.cell? ⟨g, wn * 8 + 7, none⟩ = some (.int .u8 x7) ∧ w'.cell? ⟨g, m * 8, none⟩ = some (.int .u8 y0) ∧ w'.cell? ⟨g, m * 8 + 1, none⟩ = some (.int .u8 y1) ∧ w'.cell? ⟨g, m * 8 + 2, none⟩ = some (.int .u8 y2) ∧ w'.cell? ⟨g, m * 8 + 3, none⟩ = some (.int .u8 y3) ∧ w'.cell? ⟨g, m * 8 + 4, none⟩ = some (.int .u8 y4) ∧ w'.cell? ⟨g, m * 8 + 5, none⟩ = some (.int .u8 y5) ∧ w'.cell? ⟨g, m * 8 + 6, none⟩ = some (.int .u8 y6) ∧ w'.cell? ⟨g, m * 8 + 7, none⟩ = some (.int .u8 y7) ∧ Below wr.heap.size wr w') (first | exact ⟨f0, f1, f2, f3, f4, f5, f6, f7, k0, k1, k2, k3, k4, k5, k6, k7, below_drew (Below.refl _ _)⟩ | exact (And.imp (pw_cell_below hb) (And.imp (pw_cell_below hb) (And.imp (pw_cell_below hb) (And.imp (pw_cell_below hb) (And.imp (pw_cell_below hb) (And.imp (pw_cell_below hb) (And.imp (pw_cell_below hb) (And.imp (pw_cell_below hb) (And.imp (pw_cell_below hb) (And.imp (pw_cell_below hb) (And.imp (pw_cell_below hb) (And.imp (pw_cell_below hb) (And.imp (pw_cell_below hb) (And.imp (pw_cell_below hb) (And.imp (pw_cell_below hb) (And.imp (pw_cell_below hb) (fun hS => below_then hS hS.size hb))))))))))))))))) (by assumption))
                    (first
                      | (go_at_call 63; refine (far_calls8 x0 x1 x2 x3 x4 x5 x6 x7 y0 y1 y2 y3 y4 y5 y6 y7 _).mono ?_; rintro e w' ⟨rfl, hb⟩))
                  all_goals
                    obtain ⟨_, _, _, _, _, _, _, _, _, _, _, _, _, _, _, _, hBB⟩ := (by assumption : World.cell? _ ⟨g, wn * 8, none⟩ = some (Value.int .u8 x0) ∧ _)
                    have HD2 := Aside0.mk (pw_own_below HD.out hBB)
                    have HT2 := Aside0.mk (pw_own_below HT.out hBB)
                    have HO2 := Aside0.mk (Kd.R_below HO.out hBB)
                    have HB2 := Aside0.mk (below_then HB.out HB.out.size hBB)
                    obtain ⟨o1, o2⟩ := own_at HT2.out (m : Int) (by omega) (by omega)
                    rw [Int.toNat_natCast, HMR.out] at o1
                    rw [Int.toNat_natCast] at o2
                    have hst := own_store HT2.out (m : Int) (rd T (m : Int) - 1)
                    rw [Int.toNat_natCast, ← HF2.out, HMS.out, HF2.out] at hst
                    have HST := Aside0.mk hst
                    have HD3 := Aside0.mk (own_other HD2.out hst.2 (own_type_ne' HD2.out HT2.out (by decide)))
                    have HO3 := Aside0.mk (Kd.R_grown HO2.out hst.2 (fun k hk => hk))
                    have HB3 := Aside0.mk (pw_below_grown HB2.out _ HB2.out.size hst.2 (fun k hk => by injection hk with hk; subst hk; exact own_base HT2.out _ rfl))
                    clear hst HMS HMR HF2 hb
                    generalize rd T (m : Int) = z at *
                    go_wp2
                    go_roundw
                    case rel => exact ⟨m + 1, by omega, by go_num, HD3, ⟨HST.out.1⟩, HO3, HB3⟩
                    case measure => simp [intOf]; omega
                · have t1 : decide (ham [x0, x1, x2, x3, x4, x5, x6, x7] [y0, y1, y2, y3, y4, y5, y6, y7] ≤ r) = false := decide_eq_false hh
                  have HF2 : Aside0 (decF s T (wn : Int) r m = rd T (m : Int)) := ⟨by rw [HF.out, if_neg hh]⟩
                  clear hh HF
                  go_wp2_with fail
                  go_region_held3 (fun w' => w'.cell? ⟨g, wn * 8, none⟩ = some (.int .u8 x0) ∧ w'.cell? ⟨g, wn * 8 + 1, none⟩ = some (.int .u8 x1) ∧ w'.cell? ⟨g, wn * 8 + 2, none⟩ = some (.int .u8 x2) ∧ w'.cell? ⟨g, wn * 8 + 3, none⟩ = some (.int .u8 x3) ∧ w'.cell? ⟨g, wn * 8 + 4, none⟩ = some (.int .u8 x4) ∧ w'.cell? ⟨g, wn * 8 + 5, none⟩ = some (.int .u8 x5) ∧ w'.cell? ⟨g, wn * 8 + 6, none⟩ = some (.int .u8 x6) ∧ w'.cell? ⟨g, wn * 8 + 7, none⟩ = some (.int .u8 x7) ∧ w'.cell? ⟨g, m * 8, none⟩ = some (.int .u8 y0) ∧ w'.cell? ⟨g, m * 8 + 1, none⟩ = some (.int .u8 y1) ∧ w'.cell? ⟨g, m * 8 + 2, none⟩ = some (.int .u8 y2) ∧ w'.cell? ⟨g, m * 8 + 3, none⟩ = some (.int .u8 y3) ∧ w'.cell? ⟨g, m * 8 + 4, none⟩ = some (.int .u8 y4) ∧ w'.cell? ⟨g, m * 8 + 5, none⟩ = some (.int .u8 y5) ∧ w'.cell? ⟨g, m * 8 + 6, none⟩ = some (.int .u8 y6) ∧ w'.cell? ⟨g, m * 8 + 7, none⟩ = some (.int .u8 y7) ∧ Below wr.heap.size wr w') (first | exact ⟨f0, f1, f2, f3, f4, f5, f6, f7, k0, k1, k2, k3, k4, k5, k6, k7, below_drew (Below.refl _ _)⟩ | exact (And.imp (pw_cell_below hb) (And.imp (pw_cell_below hb) (And.imp (pw_cell_below hb) (And.imp (pw_cell_below hb) (And.imp (pw_cell_below hb) (And.imp (pw_cell_below hb) (And.imp (pw_cell_below hb) (And.imp (pw_cell_below hb) (And.imp (pw_cell_below hb) (And.imp (pw_cell_below hb) (And.imp (pw_cell_below hb) (And.imp (pw_cell_below hb) (And.imp (pw_cell_below hb) (And.imp (pw_cell_below hb) (And.imp (pw_cell_below hb) (And.imp (pw_cell_below hb) (fun hS => below_then hS hS.size hb))))))))))))))))) (by assumption))
                    (first
                      | (go_at_call 63; refine (far_calls8 x0 x1 x2 x3 x4 x5 x6 x7 y0 y1 y2 y3 y4 y5 y6 y7 _).mono ?_; rintro e w' ⟨rfl, hb⟩))
                  all_goals
                    obtain ⟨_, _, _, _, _, _, _, _, _, _, _, _, _, _, _, _, hBB⟩ := (by assumption : World.cell? _ ⟨g, wn * 8, none⟩ = some (Value.int .u8 x0) ∧ _)
                    have HD2 := Aside0.mk (pw_own_below HD.out hBB)
                    have HT2 : Aside0 (World.ownsRow _ w.heap.size 2 1 (.slice (some ⟨g8, 0, none⟩) P cap8) P (nums .i64 (mix (decF s T (wn : Int) r) (fun u => rd T (u : Int)) P (m + 1)))) := ⟨by rw [← HMK.out HF2.out]; exact pw_own_below HT.out hBB⟩
                    have HO2 := Aside0.mk (Kd.R_below HO.out hBB)
                    have HB2 := Aside0.mk (below_then HB.out HB.out.size hBB)
                    clear HMS HMR HMK HF2 hb
                    go_wp2
                    go_roundw
                    case rel => exact ⟨m + 1, by omega, by go_num, HD2, HT2, HO2, HB2⟩
                    case measure => simp [intOf]; omega
              · have hmP2 : m = P := by omega
                subst hmP2
                have hma := mix_all (decF s T (wn : Int) r) (fun u => rd T (u : Int)) m
                rw [hma] at HT
                clear hma
                go_wp2
                go_roundw
                case rel => exact ⟨n + 1, _, by omega, rfl, by go_num, HD, ⟨by rw [HQ2.out, HDL.out]; exact HT.out⟩, ⟨by rw [HQ2.out]; exact HO.out⟩, HB⟩
                case measure => simp [intOf]; omega
        · go_wp2
          go_ret2
          have hn2 : n = C.length := by omega
          subst hn2
          rw [HZ.out]
          exact ⟨_, rfl, Kd.R_mono HO.out (fun _ _ => trivial), HB.out⟩
  · have HZ : Aside0 (leanR s C r = ([], Q.rCover s C r)) := ⟨by unfold leanR; rw [if_neg hz]⟩
    clear HBC
    generalize Q.rCover s C r = z at *
    go_wp2
    go_ret2
    rw [HZ.out]
    exact ⟨_, rfl, Kd.R_nil _ _ _ _ _, B1.out⟩

/-- What the program's LeanCode returns. -/
def impl_LeanCode.f (l0_0 l1 : List Int) (a2 : Int) : Option (List Int × Int) := if l1.length ≤ 1048576 then some (leanR l0_0 l1 a2) else none

theorem impl_LeanCode.calls (A0_0 : Option Addr) (c0_0 : Nat) (l0_0 : List Int) (A1 : Option Addr) (c1 : Nat) (l1 : List Int) (a2 : Int) (r1 : List Int) (r2 : Int) (w : World) (hr0_0 : Kd.C (Kd.int .i64) w A0_0 l0_0.length l0_0) (hc0_0 : l0_0.length ≤ c0_0) (hr1 : Kd.C (Kd.int .i64) w A1 l1.length l1) (hc1 : l1.length ≤ c1) (h : impl_LeanCode.f l0_0 l1 a2 = some (r1, r2)) :
    Calls Try.prog 25 #[.agg #[.slice A0_0 l0_0.length c0_0], .slice A1 l1.length c1, .int .i64 a2] w fun e w' => ∃ v0_ : Value, e = .returned (.tuple #[v0_, .int .i64 r2]) ∧ Kd.R (Kd.int .i64) 2 w' w.heap.size (fun _ => True) v0_ r1 ∧ Below w.heap.size w w' := by
  unfold impl_LeanCode.f at h
  split at h
  · rename_i hc
    have he := Option.some.inj h
    obtain ⟨rfl, rfl⟩ : r1 = (leanR l0_0 l1 a2).1 ∧ r2 = (leanR l0_0 l1 a2).2 := by rw [he]; exact ⟨rfl, rfl⟩
    exact lean_calls A0_0 c0_0 l0_0 A1 c1 l1 a2 w hr0_0 hc0_0 hr1 hc1 hc
  · cases h
end Go.Proofs.Ythcodiknghfmmaa.P
