/- The greedy code: what the reference's GreedyCode answers. -/
import Derived.Test.YtbhgnphdhkmliaaQPut
import Derived.Test.YtbhgnphdhkmliaaQSize
import Derived.Test.YtbhgnphdhkmliaaQBall
import Derived.Test.YtbhgnphdhkmliaaQAny
import Derived.Test.YtbhgnphdhkmliaaHGreedy
import Derived.Test.YtbhgnphdhkmliaaFspecGreedyCode
set_option linter.unusedVariables false
set_option linter.unusedSimpArgs false
namespace Go.Proofs.Ytbhgnphdhkmliaa.Q
open Go.RowKit Go.Proofs.Ytbhgnphdhkmliaa.P Go.Proofs.YtbhgnphdhkmliaaW.PrintWords CC
/-- One less at a place. -/
def decV (L : List Int) (x : Int) : List Int := L.set x.toNat (rd L x - 1)
theorem decV_length (L : List Int) (x : Int) : (decV L x).length = L.length := by simp [decV]
theorem decV_gen (f : Nat → Int) (P : Nat) {x : Nat} (h : x < P) : decV ((List.range P).map f) (x : Int) = (List.range P).map fun u => f u - if u = x then 1 else 0 := by
  unfold decV
  rw [Int.toNat_natCast]
  apply List.ext_getElem?
  intro k
  by_cases hk : k = x
  · subst hk
    rw [List.getElem?_set_self (by simpa using h)]
    simp [rd, List.getD_eq_getElem?_getD, h]
  · rw [List.getElem?_set_ne (fun e => hk e.symm)]
    simp only [List.getElem?_map]
    by_cases hp : k < P
    · simp [hp, hk]
    · rw [List.getElem?_eq_none (by simp; omega)]
      rfl
theorem decV_fold (P : Nat) (p : Int → Bool) : ∀ (n : Nat) (f : Nat → Int), n ≤ P → (selL p n).foldl decV ((List.range P).map f) = (List.range P).map fun u => f u - if u < n ∧ p (u : Int) = true then 1 else 0
  | 0, f, _ => by simp [selL]
  | n + 1, f, h => by
    rw [selL_succ, List.foldl_append, decV_fold P p n f (by omega)]
    by_cases hp : p (n : Int) = true
    · rw [if_pos hp]
      simp only [List.foldl_cons, List.foldl_nil]
      rw [decV_gen _ P (show n < P by omega)]
      apply List.map_congr_left
      intro u _
      by_cases hu : u = n
      · subst hu
        simp [hp]
      · by_cases hu2 : u < n
        · have : u < n + 1 := by omega
          simp [hu, hu2, this]
        · have : ¬ u < n + 1 := by omega
          simp [hu, hu2, this]
    · rw [if_neg hp, List.foldl_nil]
      apply List.map_congr_left
      intro u _
      by_cases hu : u = n
      · subst hu
        simp [hp]
      · by_cases hu2 : u < n
        · have : u < n + 1 := by omega
          simp [hu2, this]
        · have : ¬ u < n + 1 := by omega
          simp [hu2, this]
/-- The values of a list are not low. -/
def lowb (L : List Int) (b : Int) : Prop := ∀ u : Nat, -b ≤ rd L (u : Int) ∧ rd L (u : Int) ≤ 1048576
theorem rd_set2 (L : List Int) (k u : Nat) (v : Int) : rd (L.set k v) (u : Int) = if k = u ∧ k < L.length then v else rd L (u : Int) := by
  simp only [rd, Int.toNat_natCast, List.getD_eq_getElem?_getD, List.getElem?_set]
  by_cases h : k = u
  · subst h
    by_cases h2 : k < L.length
    · simp [h2]
    · simp [h2]
  · simp [h]
theorem lowb_dec {L : List Int} {b : Int} (h : lowb L b) (x : Int) (hb : 0 ≤ b) : lowb (decV L x) (b + 1) := by
  intro u
  unfold decV
  rw [rd_set2]
  have h1 := h u
  have h2 := h x.toNat
  split
  · by_cases hx : 0 ≤ x
    · rw [Int.toNat_of_nonneg hx] at h2
      omega
    · have : rd L x = rd L ((x.toNat : Nat) : Int) := by unfold rd; rw [Int.toNat_natCast]
      rw [this]
      omega
  · omega
theorem rd_in {B : List Int} {P k : Nat} (hB : ∀ x ∈ B, 0 ≤ x ∧ x < P) (hk : k < B.length) : 0 ≤ rd B (k : Int) ∧ rd B (k : Int) < P := by
  have : rd B (k : Int) = B[k] := by simp [rd, List.getD_eq_getElem?_getD, hk]
  rw [this]
  exact hB _ (List.getElem_mem hk)
/-- The words that are left. -/
def lf (cov : List Bool) : List Bool := cov.map fun b => !b
theorem lf_len (cov : List Bool) : (lf cov).length = cov.length := by simp [lf]
theorem lf_rd {cov : List Bool} {x : Int} (h0 : 0 ≤ x) (h1 : x < cov.length) : rdOf false (lf cov) x = !(cov.getD x.toNat false) := by
  have : x.toNat < cov.length := by omega
  simp [rdOf, lf, List.getD_eq_getElem?_getD, this]
theorem lf_set (cov : List Bool) (i : Nat) : (lf cov).set i false = lf (cov.set i true) := by simp [lf, List.map_set]
/-- The words of a list are covered too. -/
def covF (cov : List Bool) (L : List Int) : List Bool := L.foldl (fun c x => c.set x.toNat true) cov
theorem covF_len : ∀ (L : List Int) (cov : List Bool), (covF cov L).length = cov.length
  | [], _ => rfl
  | x :: L, cov => by
    have := covF_len L (cov.set x.toNat true)
    unfold covF at this ⊢
    rw [List.foldl_cons, this, List.length_set]
theorem covF_get : ∀ (L : List Int) (cov : List Bool) {P : Nat} {u : Nat}, cov.length = P → u < P → (∀ x ∈ L, 0 ≤ x) → (covF cov L).getD u false = (cov.getD u false || decide ((u : Int) ∈ L))
  | [], cov, P, u, _, _, _ => by simp [covF]
  | x :: L, cov, P, u, hl, hu, hL => by
    have ih := covF_get L (cov.set x.toNat true) (P := P) (u := u) (by rw [List.length_set]; exact hl) hu (fun y hy => hL y (List.mem_cons_of_mem _ hy))
    have hx := hL x List.mem_cons_self
    unfold covF at ih ⊢
    rw [List.foldl_cons, ih]
    by_cases e : x.toNat = u
    · have e2 : (u : Int) = x := by omega
      have h3 : (cov.set x.toNat true).getD u false = true := by
        rw [← e, List.getD_eq_getElem?_getD, List.getElem?_set_self (by omega)]
        rfl
      rw [h3, e2]
      simp
    · have h3 : (cov.set x.toNat true).getD u false = cov.getD u false := by
        rw [List.getD_eq_getElem?_getD, List.getElem?_set_ne e, ← List.getD_eq_getElem?_getD]
      rw [h3]
      congr 1
      rw [decide_eq_decide, List.mem_cons]
      constructor
      · exact .inr
      · rintro (h | h)
        · omega
        · exact h
theorem nrb_dist {s : List Int} (hs : isSp s = true) (r : Int) (a b : Nat) : nrb s r a b = decide (dist s (a : Int) (b : Int) ≤ r) := by
  unfold nrb
  rw [ham_dig8 (isSp_len hs)]
theorem covF_ball {s : List Int} (hs : isSp s = true) (r : Int) {P : Nat} (hP : NW s = P) {cov : List Bool} (hl : cov.length = P) (b : Nat) : covF cov (ballL s (b : Int) r) = covU s r P b cov P := by
  apply List.ext_getElem
  · rw [covF_len, covU_len, hl]
  · intro u h1 h2
    have hu : u < P := by rw [covU_len] at h2; exact h2
    have e1 := covF_get (ballL s (b : Int) r) cov (u := u) hl hu (fun x hx => (mem_selL.1 hx).1)
    have e2 := covU_get s r P b cov P hu
    rw [List.getD_eq_getElem?_getD, List.getElem?_eq_getElem h1] at e1
    rw [List.getD_eq_getElem?_getD, List.getElem?_eq_getElem h2] at e2
    have e3 : decide ((u : Int) ∈ ballL s (b : Int) r) = nrb s r b u := by
      rw [nrb_dist hs, decide_eq_decide]
      unfold ballL
      rw [mem_selL, hP]
      constructor
      · rintro ⟨_, _, h⟩
        simpa using h
      · intro h
        exact ⟨by omega, by omega, by simpa using h⟩
    rw [e3] at e1
    rw [decide_eq_true hu, Bool.true_and] at e2
    simp only [Option.getD_some] at e1 e2
    rw [e1, e2]
theorem decV_ball {s : List Int} (hs : isSp s = true) (r : Int) {P : Nat} (hP : NW s = P) {cov : List Bool} (hl : cov.length = P) {u : Nat} (hu : u < P) (hc : cov.getD u false = false) : (ballL s (u : Int) r).foldl decV (gnL s r P cov) = gnL s r P (cov.set u true) := by
  unfold ballL gnL
  rw [hP, decV_fold P _ P _ (Nat.le_refl _)]
  apply List.map_congr_left
  intro w hw
  have hw2 := List.mem_range.1 hw
  rw [gnF_set s r hu hl hc w, nrb_dist hs, dist_comm s (w : Int) (u : Int)]
  by_cases h : dist s (u : Int) (w : Int) ≤ r
  · simp [h, hw2]
  · simp [h]
theorem greedy_l4 {s B : List Int} {r : Int} {P : Nat} (hB : ∀ x ∈ B, 0 ≤ x ∧ x < P) (hBl : B.length ≤ 1024) (O L : List Int) (V : List Bool) (R : List Int × Int) {i : Nat} (hi : i ≤ 1024) :
    ∀ (m k0 : Nat) (T : List Int), k0 + m = B.length → T.length = P → lowb T (k0 : Int) →
      Ev (fun k => spec_GreedyCode.l3 k r (P : Int) O V ((B.drop k0).foldl decV T) L ((i + 1 : Nat) : Int) s) R → Ev (fun k => spec_GreedyCode.l4 k r (P : Int) O V T L (i : Int) B (k0 : Int) s) R
  | 0, k0, T, hm, hT, hsm, hev => by
    refine Ev.step (fun k => by simp only [spec_GreedyCode.l4]; exact rfl) ?_
    refine Ev.iff_neg (by omega) ?_
    rw [wrap_nat (by unfold maxLen; omega)]
    rw [drop_all (by omega)] at hev
    exact hev
  | m + 1, k0, T, hm, hT, hsm, hev => by
    have hk : k0 < B.length := by omega
    have hx := rd_in hB hk
    have hr := hsm (rd B (k0 : Int)).toNat
    rw [Int.toNat_of_nonneg hx.1] at hr
    refine Ev.step (fun k => by simp only [spec_GreedyCode.l4]; exact rfl) ?_
    refine Ev.iff_pos (by omega) (Ev.iff_pos (by omega) (Ev.iff_pos hx.1 (Ev.iff_pos (by rw [hT]; exact hx.2) ?_)))
    rw [wrap_nat (by unfold maxLen; omega), wrap_id (x := rd T (rd B (k0 : Int)) - 1) (by omega) (by omega)]
    refine greedy_l4 hB hBl O L V R hi m (k0 + 1) (decV T (rd B (k0 : Int))) (by omega) (by rw [decV_length]; exact hT) ?_ ?_
    · have := lowb_dec hsm (rd B (k0 : Int)) (by omega)
      rw [show (((k0 + 1 : Nat)) : Int) = (k0 : Int) + 1 by omega]
      exact this
    · rw [drop_cons B hk] at hev
      exact hev
theorem gnL_low (s : List Int) (r : Int) {P : Nat} (hP : P ≤ 1024) (cov : List Bool) : lowb (gnL s r P cov) 0 := by
  intro u
  by_cases h : u < P
  · rw [gnL_rd s r cov h]
    have := gnF_bd s r P cov u
    omega
  · have : rd (gnL s r P cov) (u : Int) = 0 := by simp [gnL, rd, List.getD_eq_getElem?_getD, h]
    omega
theorem greedy_l3 {s L : List Int} {r : Int} {P : Nat} (hs : isSp s = true) (hP : NW s = P) (hL : ∀ x ∈ L, 0 ≤ x ∧ x < P) (hLl : L.length ≤ 1024) (O : List Int) (R : List Int × Int) :
    ∀ (m i : Nat) (cov : List Bool), i + m = L.length → cov.length = P →
      Ev (fun k => spec_GreedyCode.l1 k r (P : Int) O (lf (covF cov (L.drop i))) (gnL s r P (covF cov (L.drop i))) s) R → Ev (fun k => spec_GreedyCode.l3 k r (P : Int) O (lf cov) (gnL s r P cov) L (i : Int) s) R
  | 0, i, cov, hm, hc, hev => by
    refine Ev.step (fun k => by simp only [spec_GreedyCode.l3]; exact rfl) ?_
    refine Ev.iff_neg (by omega) ?_
    rw [drop_all (by omega)] at hev
    exact hev
  | m + 1, i, cov, hm, hc, hev => by
    have hk : i < L.length := by omega
    have hx := rd_in hL hk
    have hPl : P ≤ 1024 := by have := NW_le hs; omega
    rw [drop_cons L hk] at hev
    refine Ev.step (fun k => by simp only [spec_GreedyCode.l3]; exact rfl) ?_
    refine Ev.iff_pos (by omega) (Ev.iff_pos (by omega) (Ev.iff_pos hx.1 (Ev.iff_pos (by rw [lf_len, hc]; exact hx.2) ?_)))
    generalize rd L (i : Int) = x at *
    obtain ⟨u, rfl⟩ : ∃ u : Nat, x = (u : Int) := ⟨x.toNat, by omega⟩
    have hu : u < P := by omega
    rw [lf_rd (by omega) (by omega), Int.toNat_natCast]
    have hev2 : Ev (fun k => spec_GreedyCode.l1 k r (P : Int) O (lf (covF (cov.set u true) (L.drop (i + 1)))) (gnL s r P (covF (cov.set u true) (L.drop (i + 1)))) s) R := hev
    by_cases h : cov.getD u false = false
    · refine Ev.iff_pos (by rw [h]; rfl) ?_
      refine Ev.bind (l01Ball_ev hs (isW_nat hs (by omega)) r) ?_
      rw [lf_set]
      refine greedy_l4 (B := ballL s (u : Int) r) (fun y hy => by have := mem_selL.1 hy; rw [hP] at this; exact ⟨this.1, this.2.1⟩) (ballL_len hs _ _) O L _ R (by omega) (ballL s (u : Int) r).length 0 (gnL s r P cov) (by omega) (gnL_len s r P cov) (gnL_low s r hPl cov) ?_
      rw [List.drop_zero, decV_ball hs r hP hc hu h]
      exact greedy_l3 hs hP hL hLl O R m (i + 1) (cov.set u true) (by omega) (by rw [List.length_set]; exact hc) hev2
    · rw [Bool.not_eq_false] at h
      refine Ev.iff_neg (by rw [h]; simp) ?_
      rw [wrap_nat (by unfold maxLen; omega)]
      have e : cov.set u true = cov := by
        apply List.ext_getElem
        · simp
        · intro v h1 h2
          rw [List.getElem_set]
          split
          · rename_i e
            subst e
            rw [List.getD_eq_getElem?_getD, List.getElem?_eq_getElem h2] at h
            exact h.symm
          · rfl
      rw [e] at hev2
      exact greedy_l3 hs hP hL hLl O R m (i + 1) cov (by omega) hc hev2
theorem bst_one (f : Nat → Int) : bst f 1 = 0 := by unfold bst; split <;> rfl
theorem greedy_l2 {s : List Int} {r : Int} {P : Nat} (hPl : P ≤ 1024) (O : List Int) (V : List Bool) (cov : List Bool) (R : List Int × Int)
    (h1 : gnF s r P cov (bst (gnF s r P cov) P) = 0 → R = (O, 0))
    (h2 : gnF s r P cov (bst (gnF s r P cov) P) ≠ 0 → Ev (fun k => (spec_l01Put.f k O (bst (gnF s r P cov) P : Nat)).bind fun t120 => (spec_l01Ball.f k s (bst (gnF s r P cov) P : Nat) r).bind fun t123 => spec_GreedyCode.l3 k r (P : Int) t120 V (gnL s r P cov) t123 0 s) R) :
    ∀ (m n : Nat), 1 ≤ n → n + m = P → Ev (fun k => spec_GreedyCode.l2 k r (P : Int) O V (gnL s r P cov) (bst (gnF s r P cov) n : Nat) (n : Int) s) R
  | 0, n, hn, hm => by
    have e : n = P := by omega
    subst e
    have hb := bst_lt (gnF s r n cov) (show 0 < n by omega)
    refine Ev.step (fun k => by simp only [spec_GreedyCode.l2]; exact rfl) ?_
    refine Ev.iff_neg (by omega) (Ev.iff_pos (by omega) (Ev.iff_pos (by rw [gnL_len]; omega) ?_))
    rw [gnL_rd s r cov hb]
    by_cases h : gnF s r n cov (bst (gnF s r n cov) n) = 0
    · refine Ev.iff_pos h ?_
      rw [h1 h]
      exact Ev.now _
    · exact Ev.iff_neg h (h2 h)
  | m + 1, n, hn, hm => by
    have hb := bst_lt (gnF s r P cov) (show 0 < n by omega)
    have ih := greedy_l2 hPl O V cov R h1 h2 m (n + 1) (by omega) (by omega)
    refine Ev.step (fun k => by simp only [spec_GreedyCode.l2]; exact rfl) ?_
    refine Ev.iff_pos (by omega) (Ev.iff_pos (by omega) (Ev.iff_pos (by rw [gnL_len]; omega) (Ev.iff_pos (by omega) (Ev.iff_pos (by rw [gnL_len]; omega) ?_))))
    rw [gnL_rd s r cov (show n < P by omega), gnL_rd s r cov (show bst (gnF s r P cov) n < P by omega), wrap_nat (by unfold maxLen; omega)]
    by_cases h : gnF s r P cov n > gnF s r P cov (bst (gnF s r P cov) n)
    · refine Ev.iff_pos h ?_
      rw [bst, if_pos h] at ih
      exact ih
    · refine Ev.iff_neg h ?_
      rw [bst, if_neg h] at ih
      exact ih
theorem msort_ord {l : List Int} (h : l.Nodup) : msort l = ordL l := by
  have h1 := msort_pw l
  have h2 : (msort l).Nodup := (List.mergeSort_perm l _).nodup_iff.2 h
  refine ordL_of ?_ (fun y => msort_mem l y)
  exact (h1.and h2).imp (fun h => by have := h.1; have := h.2; omega)
theorem gnF_mono (s : List Int) (r : Int) (P b : Nat) (cov : List Bool) (w : Nat) : gnF s r P (covU s r P b cov P) w ≤ gnF s r P cov w := by
  unfold gnF
  have : (List.range P).countP (fun u => !((covU s r P b cov P).getD u false) && nrb s r w u) ≤ (List.range P).countP (fun u => !(cov.getD u false) && nrb s r w u) := by
    apply List.countP_mono_left
    intro u hu
    rw [covU_get s r P b cov P (List.mem_range.1 hu)]
    cases cov.getD u false <;> simp
  omega
theorem gnF_own (s : List Int) (r : Int) (P b : Nat) (cov : List Bool) : gnF s r P (covU s r P b cov P) b = 0 := by
  unfold gnF
  have : (List.range P).countP (fun u => !((covU s r P b cov P).getD u false) && nrb s r b u) = 0 := by
    rw [List.countP_eq_zero]
    intro u hu
    have hu2 := List.mem_range.1 hu
    rw [covU_get s r P b cov P hu2, decide_eq_true hu2]
    cases cov.getD u false <;> cases nrb s r b u <;> simp
  omega
theorem greedy_run {s : List Int} {r : Int} {P : Nat} (hs : isSp s = true) (hP : NW s = P) (hP1 : 1 ≤ P) (hPl : P ≤ 1024) : ∀ (fuel : Nat) (cov : List Bool) (out : List Int), cov.length = P → P + 1 ≤ fuel + cn cov → out.length ≤ cn cov → out.Nodup → (∀ x ∈ out, 0 ≤ x ∧ gnF s r P cov x.toNat = 0) →
    Ev (fun k => spec_GreedyCode.l1 k r (P : Int) (ordL out) (lf cov) (gnL s r P cov) s) (msort (gRun s r P fuel cov out), 0)
  | 0, cov, out, hc, hf, _, _, _ => by
    have := cn_le cov
    omega
  | fuel + 1, cov, out, hc, hf, ho, hnd, hz => by
    have hcn := cn_le cov
    refine Ev.step (fun k => by simp only [spec_GreedyCode.l1]; exact rfl) ?_
    have hb := bst_lt (gnF s r P cov) (show 0 < P by omega)
    have h3 := greedy_l2 (s := s) (r := r) hPl (ordL out) (lf cov) cov (msort (gRun s r P (fuel + 1) cov out), 0) (fun h => by rw [gRun, if_pos h, msort_ord hnd]) (fun h => ?_) (P - 1) 1 (Nat.le_refl _) (by omega)
    · rw [bst_one] at h3
      exact h3
    · have hmore := cn_more s r hc h
      have hcu := covU_len s r P (bst (gnF s r P cov) P) cov P
      have hnin : ((bst (gnF s r P cov) P : Nat) : Int) ∉ out := fun hm => h (by have := (hz _ hm).2; rwa [Int.toNat_natCast] at this)
      have hol := ordL_len out
      rw [gRun, if_neg h]
      refine Ev.bind (l01Put_ev (ordL_pw out) (by omega) _) ?_
      rw [ordL_put]
      refine Ev.bind (l01Ball_ev hs (isW_nat hs (by omega)) r) ?_
      have ih := greedy_run (r := r) hs hP hP1 hPl fuel (covU s r P (bst (gnF s r P cov) P) cov P) (out ++ [((bst (gnF s r P cov) P : Nat) : Int)]) hcu (by omega) (by rw [List.length_append, List.length_singleton]; omega)
        (by rw [List.nodup_append]; exact ⟨hnd, by simp, fun a ha b hb2 e => by rw [List.mem_singleton] at hb2; subst hb2; subst e; exact hnin ha⟩)
        (fun x hx => by
          rcases List.mem_append.1 hx with hx | hx
          · have h1 := hz x hx
            have h2 := gnF_mono s r P (bst (gnF s r P cov) P) cov x.toNat
            have h4 := gnF_bd s r P (covU s r P (bst (gnF s r P cov) P) cov P) x.toNat
            omega
          · rw [List.mem_singleton] at hx
            subst hx
            rw [Int.toNat_natCast]
            exact ⟨by omega, gnF_own s r P _ cov⟩)
      rw [← covF_ball hs r hP hc] at ih ⊢
      exact greedy_l3 hs hP (fun x hx => by have := mem_selL.1 hx; rw [hP] at this; exact ⟨this.1, this.2.1⟩) (ballL_len hs _ _) _ _ (ballL s ((bst (gnF s r P cov) P : Nat) : Int) r).length 0 cov (by omega) hc (by rw [List.drop_zero]; exact ih)
end Go.Proofs.Ytbhgnphdhkmliaa.Q
