/- How often words are covered: the program's list is the reference's. -/
import Derived.Test.YthcodiknghfmmaaQBall0
import Derived.Test.YthcodiknghfmmaaHTimes
import Derived.Test.YthcodiknghfmmaaFspecl02Times
set_option linter.unusedVariables false
set_option linter.unusedSimpArgs false
namespace Go.Proofs.Ythcodiknghfmmaa.Q
open Go.RowKit Go.Proofs.Ythcodiknghfmmaa.P Go.Proofs.YthcodiknghfmmaaW.PrintWords CC

/-- How often a code covers a word. -/
def cov (s c : List Int) (r u : Int) : Int := ((c.countP fun w => decide (dist s w u ≤ r) : Nat) : Int)
def covL (s c : List Int) (r : Int) : List Int := (List.range (NW s)).map fun (u : Nat) => cov s c r (u : Int)
theorem cov_nonneg (s c : List Int) (r u : Int) : 0 ≤ cov s c r u := by unfold cov; omega
theorem cov_le (s c : List Int) (r u : Int) : cov s c r u ≤ c.length := by
  unfold cov
  have := List.countP_le_length (p := fun w => decide (dist s w u ≤ r)) (l := c)
  omega
theorem covL_length (s c : List Int) (r : Int) : (covL s c r).length = NW s := by simp [covL]
theorem covL_mem {s c : List Int} {r t : Int} (h : t ∈ covL s c r) : 0 ≤ t ∧ t ≤ c.length := by
  simp only [covL, List.mem_map] at h
  obtain ⟨u, _, rfl⟩ := h
  exact ⟨cov_nonneg _ _ _ _, cov_le _ _ _ _⟩
theorem covL_rd (s c : List Int) (r : Int) {n : Nat} (h : n < NW s) : rd (covL s c r) (n : Int) = cov s c r (n : Int) := by
  simp [rd, covL, List.getD_eq_getElem?_getD, h]

theorem times_eq {s c : List Int} (hs : isSp s = true) (hc : isC s c = true) (r : Int) : impl_times.f s c r = some (covL s c r) := by
  unfold impl_times.f
  have hl := isC_len hs hc
  rw [if_pos ⟨hs, by rw [List.all_eq_true]; exact isC_words hc, by omega⟩]
  congr 1
  unfold timesL covL NW
  apply List.map_congr_left
  intro u _
  unfold tm cov
  rw [List.take_length]
  simp only [ham_dig8 (isSp_len hs)]

/-- One more at a place. -/
def incL (L : List Int) (x : Int) : List Int := L.set x.toNat (rd L x + 1)
theorem incL_gen (f : Nat → Int) (P : Nat) {x : Nat} (h : x < P) : incL ((List.range P).map f) (x : Int) = (List.range P).map fun u => f u + if u = x then 1 else 0 := by
  unfold incL
  rw [Int.toNat_natCast]
  apply List.ext_getElem?
  intro k
  by_cases hk : k = x
  · subst hk
    rw [List.getElem?_set_self (by simpa using h)]
    simp [rd, List.getD_eq_getElem?_getD, h]
  · rw [List.getElem?_set_ne (fun e => hk e.symm)]
    simp only [List.getElem?_map]
    by_cases hp : k < P
    · simp [hp, hk]
    · rw [List.getElem?_eq_none (by simp; omega)]
      rfl
/-- The words of a ball, one by one. -/
theorem incL_fold (P : Nat) (p : Int → Bool) : ∀ (n : Nat) (f : Nat → Int), n ≤ P → (selL p n).foldl incL ((List.range P).map f) = (List.range P).map fun u => f u + if u < n ∧ p (u : Int) = true then 1 else 0
  | 0, f, _ => by simp [selL]
  | n + 1, f, h => by
    rw [selL_succ, List.foldl_append, incL_fold P p n f (by omega)]
    by_cases hp : p (n : Int) = true
    · rw [if_pos hp]
      simp only [List.foldl_cons, List.foldl_nil]
      rw [incL_gen _ P (show n < P by omega)]
      apply List.map_congr_left
      intro u _
      by_cases hu : u = n
      · subst hu
        simp [hp]
      · by_cases hu2 : u < n
        · have : u < n + 1 := by omega
          simp [hu, hu2, this]
        · have : ¬ u < n + 1 := by omega
          simp [hu, hu2, this]
    · rw [if_neg hp, List.foldl_nil]
      apply List.map_congr_left
      intro u _
      by_cases hu : u = n
      · subst hu
        simp [hp]
      · by_cases hu2 : u < n
        · have : u < n + 1 := by omega
          simp [hu2, this]
        · have : ¬ u < n + 1 := by omega
          simp [hu2, this]
theorem incL_length (L : List Int) (x : Int) : (incL L x).length = L.length := by simp [incL]

theorem cov_succ (s c : List Int) (r : Int) {n : Nat} (h : n < c.length) (u : Int) : cov s (c.take (n + 1)) r u = cov s (c.take n) r u + if dist s (rd c (n : Int)) u ≤ r then 1 else 0 := by
  unfold cov
  rw [take_rd8 h, List.countP_append]
  by_cases hh : dist s (rd c (n : Int)) u ≤ r
  · simp [hh]
  · simp [hh]

/-- The values of a list stay small. -/
def small (L : List Int) (b : Int) : Prop := ∀ t ∈ L, 0 ≤ t ∧ t ≤ b
theorem small_rd {L : List Int} {b : Int} (h : small L b) {x : Int} (h0 : 0 ≤ x) (h1 : x < L.length) : 0 ≤ rd L x ∧ rd L x ≤ b := by
  obtain ⟨n, rfl⟩ := Int.eq_ofNat_of_zero_le h0
  have hn : n < L.length := by omega
  have : rd L (n : Int) = L[n] := by simp [rd, List.getD_eq_getElem?_getD, hn]
  rw [this]
  exact h _ (List.getElem_mem hn)
theorem small_inc {L : List Int} {b : Int} (h : small L b) {x : Int} (h0 : 0 ≤ x) (h1 : x < L.length) : small (incL L x) (b + 1) := by
  intro t ht
  have hr := small_rd h h0 h1
  rcases List.mem_or_eq_of_mem_set ht with h' | rfl
  · have := h t h'
    omega
  · omega

theorem l02Times_in {s c : List Int} (hc : c.length ≤ 1024) (r : Int) (n : Nat) (B : List Int) (hB : ∀ x ∈ B, 0 ≤ x ∧ x < NW s) (hBl : B.length ≤ 1024) (R : List Int) :
    ∀ (m k0 : Nat) (L : List Int), k0 + m = B.length → L.length = NW s → small L ((n : Int) * 1024 + k0) → n ≤ 1024 →
      Ev (fun k => spec_l02Times.l0 k c r ((B.drop k0).foldl incL L) (((n + 1 : Nat)) : Int) s) R → Ev (fun k => spec_l02Times.l1 k c r L (n : Int) B (k0 : Int) s) R
  | 0, k0, L, hm, hL, hsm, hn, hev => by
    refine Ev.step (fun k => by simp only [spec_l02Times.l1]; exact rfl) ?_
    refine Ev.iff_neg (by omega) ?_
    rw [wrap_nat (by unfold maxLen; omega)]
    rw [drop_all (by omega)] at hev
    exact hev
  | m + 1, k0, L, hm, hL, hsm, hn, hev => by
    have hk : k0 < B.length := by omega
    have hx : 0 ≤ rd B (k0 : Int) ∧ rd B (k0 : Int) < NW s := by
      have : rd B (k0 : Int) = B[k0] := by simp [rd, List.getD_eq_getElem?_getD, hk]
      rw [this]
      exact hB _ (List.getElem_mem hk)
    have hr := small_rd hsm hx.1 (by rw [hL]; exact hx.2)
    refine Ev.step (fun k => by simp only [spec_l02Times.l1]; exact rfl) ?_
    refine Ev.iff_pos (by omega) (Ev.iff_pos (by omega) (Ev.iff_pos hx.1 (Ev.iff_pos (by rw [hL]; exact hx.2) ?_)))
    rw [wrap_nat (by unfold maxLen; omega), wrap_id (x := rd L (rd B (k0 : Int)) + 1) (by omega) (by omega)]
    refine l02Times_in hc r n B hB hBl R m (k0 + 1) (incL L (rd B (k0 : Int))) (by omega) (by rw [incL_length]; exact hL) ?_ hn ?_
    · have := small_inc hsm hx.1 (by rw [hL]; exact hx.2)
      have e : (n : Int) * 1024 + ((k0 + 1 : Nat) : Int) = (n : Int) * 1024 + k0 + 1 := by omega
      rw [e]
      exact this
    · rw [drop_cons B hk, List.foldl_cons] at hev
      exact hev

theorem l02Times_l {s c : List Int} (hs : isSp s = true) (hc : isC s c = true) (r : Int) : ∀ (m n : Nat), n + m = c.length →
    Ev (fun k => spec_l02Times.l0 k c r (covL s (c.take n) r) (n : Int) s) (covL s c r)
  | 0, n, hm => by
    refine Ev.step (fun k => by simp only [spec_l02Times.l0]; exact rfl) ?_
    refine Ev.iff_neg (by omega) ?_
    rw [List.take_of_length_le (by omega)]
    exact Ev.now _
  | m + 1, n, hm => by
    have hn : n < c.length := by omega
    have hl := isC_len hs hc
    refine Ev.step (fun k => by simp only [spec_l02Times.l0]; exact rfl) ?_
    refine Ev.iff_pos (by omega) (Ev.iff_pos (by omega) ?_)
    refine Ev.bind (l01Ball_ev hs (isC_rd hc hn) r) ?_
    have hN := NW_le hs
    refine l02Times_in hl r n (ballL s (rd c (n : Int)) r) (fun x hx => ?_) (ballL_len hs _ _) _ (ballL s (rd c (n : Int)) r).length 0 (covL s (c.take n) r) (by omega) (covL_length _ _ _) (fun t ht => ?_) (by omega) ?_
    · have := mem_selL.1 hx
      exact ⟨this.1, this.2.1⟩
    · have h1 := covL_mem ht
      have h2 : (c.take n).length ≤ n := List.length_take_le _ _
      refine ⟨h1.1, ?_⟩
      have : (n : Int) ≤ (n : Int) * 1024 := by omega
      omega
    · have := l02Times_l hs hc r m (n + 1) (by omega)
      have e : (ballL s (rd c (n : Int)) r).foldl incL (covL s (c.take n) r) = covL s (c.take (n + 1)) r := by
        unfold ballL covL
        rw [incL_fold (NW s) _ (NW s) _ (Nat.le_refl _)]
        apply List.map_congr_left
        intro u hu
        rw [cov_succ s c r hn]
        congr 1
        have hu' := List.mem_range.1 hu
        by_cases hh : dist s (rd c (n : Int)) (u : Int) ≤ r <;> simp [hh, hu']
      rw [List.drop_zero, e]
      exact this

theorem l02Times_ev {s c : List Int} (hs : isSp s = true) (hc : isC s c = true) (r : Int) : Ev (fun k => spec_l02Times.f k s c r) (covL s c r) := by
  unfold spec_l02Times.f
  have hN := NW_eq hs
  have hN2 := NW_le hs
  refine Ev.bind (l01N_sp hs) ?_
  refine Ev.iff_pos (by omega) (Ev.iff_pos (by omega) ?_)
  have := l02Times_l hs hc r c.length 0 (by omega)
  have e : covL s (c.take 0) r = List.replicate (prd s).toNat 0 := by
    unfold covL cov NW
    rw [List.eq_replicate_iff]
    simp
  rw [e] at this
  exact this
end Go.Proofs.Ythcodiknghfmmaa.Q
