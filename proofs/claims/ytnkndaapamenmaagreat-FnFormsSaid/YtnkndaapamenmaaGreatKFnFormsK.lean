/- What the law FnForms needs, part 11: words, walks of functions (each says that a call returns what the plain Lean function beside it says), plain lemmas. -/
import Derived.Test.YtnkndaapamenmaaGreatKFnFormsJ
import Derived.OpenShut
set_option linter.unusedVariables false
namespace Go.Proofs.YtnkndaapamenmaaGreat.Q
open Go.RowKit Go.Proofs.YtnkndaapamenmaaGreat.P Go.Proofs.YtnkndaapamenmaaGreatW.PrintWords CC
theorem Ev.iff_pos {α : Type} {c : Prop} [Decidable c] {A B : Nat → Option α} {r : α} (h : c) (k : Ev A r) : Ev (fun n => if c then A n else B n) r := by
  simpa [h] using k
theorem Ev.iff_neg {α : Type} {c : Prop} [Decidable c] {A B : Nat → Option α} {r : α} (h : ¬ c) (k : Ev B r) : Ev (fun n => if c then A n else B n) r := by
  simpa [h] using k
theorem Ev.bindc {α β : Type} {g : Option α} {f : Nat → α → Option β} {a : α} {r : β} (h : g = some a) (k : Ev (fun n => f n a) r) : Ev (fun n => g.bind (f n)) r := by
  simpa [h] using k
theorem wrap_nat {n : Nat} (h : n < maxLen) : wrap64 ((n : Int) + 1) = ((n + 1 : Nat) : Int) := by
  unfold maxLen at h
  unfold wrap64
  omega
theorem rd_nat (s : List Int) (n : Nat) : rd s (n : Int) = s.getD n 0 := by simp [rd]
theorem drop_cons (s : List Int) {n : Nat} (h : n < s.length) : s.drop n = rd s (n : Int) :: s.drop (n + 1) := by
  rw [List.drop_eq_getElem_cons h, rd_nat]
  simp [List.getD_eq_getElem?_getD, h]
theorem drop_all {s : List Int} {n : Nat} (h : s.length ≤ n) : s.drop n = [] := List.drop_eq_nil_of_le h
theorem l01In_eq (a b c : Int) : spec_l01In.f a b c = some (decide (b ≤ a ∧ a ≤ c)) := by
  unfold spec_l01In.f
  by_cases h : a ≥ b
  · rw [if_pos h]
    simp [show b ≤ a from h]
  · rw [if_neg h]
    simp
    omega
theorem l01N_l (s : List Int) (hs : s.length < maxLen) : ∀ (d n : Nat) (x : Int), n + d = s.length → Ev (fun k => spec_l01N.l0 k x (n : Int) s) (prw x (s.drop n))
  | 0, n, x, hd => by
    refine Ev.step (f := fun _ => some x) (fun k => ?_) ?_
    · simp only [spec_l01N.l0]
      rw [if_neg (by omega)]
    · rw [drop_all (by omega)]
      exact Ev.now x
  | d + 1, n, x, hd => by
    refine Ev.step (f := fun k => spec_l01N.l0 k (wrap64 (x * rd s (n : Int))) ((n + 1 : Nat) : Int) s) (fun k => ?_) ?_
    · simp only [spec_l01N.l0]
      rw [if_pos (by omega), if_pos (by omega), wrap_nat (by omega)]
    · have := l01N_l s hs d (n + 1) (wrap64 (x * rd s (n : Int))) (by omega)
      rw [drop_cons s (by omega)]
      exact this
theorem l01N_ev (s : List Int) (hs : s.length < maxLen) : Ev (fun k => spec_l01N.f k s) (prw 1 s) := by
  unfold spec_l01N.f
  simpa using l01N_l s hs s.length 0 1 (by omega)
theorem l01N_sp {s : List Int} (h : isSp s = true) : Ev (fun k => spec_l01N.f k s) (prd s) := by
  have := l01N_ev s (by have := isSp_len h; unfold maxLen; omega)
  rwa [prw_one (isSp_len h) (isSp_all h)] at this
theorem l01Is_l (s : List Int) (hs : s.length ≤ 8) : ∀ (d n : Nat), n + d = s.length → (s.take n).all sizeOk = true → Ev (fun k => spec_l01Is.l0 k (n : Int) s) (s.all sizeOk && decide (prd s ≤ 1024))
  | 0, n, hd, ht => by
    rw [List.take_of_length_le (by omega)] at ht
    refine Ev.step (f := fun k => (spec_l01N.f k s).bind fun t109 => (some (decide (t109 ≤ 1024)))) (fun k => ?_) ?_
    · simp only [spec_l01Is.l0]
      rw [if_neg (by omega)]
    · have := l01N_ev s (by unfold maxLen; omega)
      rw [prw_one hs ht] at this
      refine Ev.bind this ?_
      rw [ht, Bool.true_and]
      exact Ev.now _
  | d + 1, n, hd, ht => by
    have hn : n < s.length := by omega
    have hal : s.all sizeOk = ((s.take n).all sizeOk && (sizeOk (rd s (n : Int)) && (s.drop (n + 1)).all sizeOk)) := by
      conv => lhs; rw [← List.take_append_drop n s, List.all_append, drop_cons s hn, List.all_cons]
    by_cases hq : sizeOk (rd s (n : Int)) = true
    · refine Ev.step (f := fun k => spec_l01Is.l0 k ((n + 1 : Nat) : Int) s) (fun k => ?_) (l01Is_l s hs d (n + 1) (by omega) ?_)
      · have hq' := (sizeOk_iff _).1 hq
        simp only [spec_l01Is.l0]
        rw [if_pos (by omega), if_pos (by omega), l01In_eq, Option.bind_some, wrap_nat (by unfold maxLen; omega), if_pos (by simp; omega)]
      · rw [List.take_add_one, List.all_append, ht]
        rw [rd_nat] at hq
        simp only [List.getD_eq_getElem?_getD, List.getElem?_eq_getElem hn, Option.getD_some] at hq
        simp [List.getElem?_eq_getElem hn, hq]
    · refine Ev.step (f := fun _ => some false) (fun k => ?_) ?_
      · have hq' : ¬ (rd s (n : Int) = 2 ∨ rd s (n : Int) = 3 ∨ rd s (n : Int) = 4) := fun z => hq ((sizeOk_iff _).2 z)
        simp only [spec_l01Is.l0]
        rw [if_pos (by omega), if_pos (by omega), l01In_eq, Option.bind_some, if_neg (by simp; omega)]
      · rw [hal, ht]
        simp only [Bool.not_eq_true] at hq
        rw [hq]
        exact Ev.now false
theorem l01Is_ev (s : List Int) : Ev (fun k => spec_l01Is.f k s) (isSp s) := by
  unfold spec_l01Is.f
  refine Ev.bindc (l01In_eq _ _ _) ?_
  by_cases h : 1 ≤ s.length ∧ s.length ≤ 8
  · refine Ev.iff_pos (by simp; omega) ?_
    have := l01Is_l s h.2 s.length 0 (by omega) (by simp)
    unfold isSp
    simpa [h.1, h.2] using this
  · refine Ev.iff_neg (by simp; omega) ?_
    have : isSp s = false := by
      unfold isSp
      rcases Nat.lt_or_ge s.length 1 with h1 | h1
      · have : ¬ 1 ≤ s.length := by omega
        simp [this]
      · have : ¬ s.length ≤ 8 := by omega
        simp [this]
    rw [this]
    exact Ev.now false
theorem isSpace_l (s : List Int) (hs : s.length ≤ 8) : ∀ (d n : Nat) (x : Int), n + d = s.length → (s.take n).all sizeOk = true → 0 ≤ x → x ≤ 4 ^ n → Ev (fun k => impl_IsSpace.l0 k x s (s.length : Int) (n : Int)) ((s.drop n).all sizeOk && decide (x * prd (s.drop n) ≤ 1024))
  | 0, n, x, hd, ht, h0, hx => by
    refine Ev.step (f := fun _ => some (decide (x ≤ 1024))) (fun k => ?_) ?_
    · simp only [impl_IsSpace.l0]
      rw [if_neg (by omega)]
    · rw [drop_all (by omega)]
      simpa [prd] using Ev.now (decide (x ≤ 1024))
  | d + 1, n, x, hd, ht, h0, hx => by
    have hn : n < s.length := by omega
    rw [drop_cons s hn]
    by_cases hq : sizeOk (rd s (n : Int)) = true
    · have hq' := (sizeOk_iff _).1 hq
      have hb := pow48 (m := n + 1) (by omega)
      have hx2 : x * rd s (n : Int) ≤ 4 ^ (n + 1) := by
        rw [Int.pow_succ]
        rcases hq' with e | e | e <;> rw [e] <;> omega
      have hx0 : 0 ≤ x * rd s (n : Int) := by rcases hq' with e | e | e <;> rw [e] <;> omega
      refine Ev.step (f := fun k => impl_IsSpace.l0 k (x * rd s (n : Int)) s (s.length : Int) ((n + 1 : Nat) : Int)) (fun k => ?_) ?_
      · simp only [impl_IsSpace.l0]
        rw [if_pos (by omega), if_pos (by omega), if_pos (by omega), if_neg (by omega), if_neg (by omega), wrap_nat (by unfold maxLen; omega), wrap_id (by omega) (by omega)]
      · have := isSpace_l s hs d (n + 1) (x * rd s (n : Int)) (by omega) ?_ hx0 hx2
        · have e : ((rd s (n : Int) :: s.drop (n + 1)).all sizeOk && decide (x * prd (rd s (n : Int) :: s.drop (n + 1)) ≤ 1024)) = ((s.drop (n + 1)).all sizeOk && decide (x * rd s (n : Int) * prd (s.drop (n + 1)) ≤ 1024)) := by rw [List.all_cons, hq, Bool.true_and, prd, ← Int.mul_assoc]
          rw [e]
          exact this
        · rw [List.take_add_one, List.all_append, ht]
          rw [rd_nat] at hq
          simp only [List.getD_eq_getElem?_getD, List.getElem?_eq_getElem hn, Option.getD_some] at hq
          simp [List.getElem?_eq_getElem hn, hq]
    · have hq' : ¬ (rd s (n : Int) = 2 ∨ rd s (n : Int) = 3 ∨ rd s (n : Int) = 4) := fun z => hq ((sizeOk_iff _).2 z)
      simp only [Bool.not_eq_true] at hq
      refine Ev.step (f := fun _ => some false) (fun k => ?_) ?_
      · simp only [impl_IsSpace.l0]
        rw [if_pos (by omega), if_pos (by omega), if_pos (by omega)]
        by_cases h2 : rd s (n : Int) < 2
        · rw [if_pos h2]
        · rw [if_neg h2, if_pos (by omega)]
      · simp only [List.all_cons, hq, Bool.false_and]
        exact Ev.now false
theorem isSpace_ev (s : List Int) : Ev (fun k => impl_IsSpace.f k s) (isSp s) := by
  unfold impl_IsSpace.f
  by_cases h1 : s.length < 1
  · refine Ev.iff_pos (by omega) ?_
    refine Ev.step (f := fun _ => some false) (fun k => by simp [impl_IsSpace.j0]) ?_
    have : isSp s = false := by
      have : ¬ 1 ≤ s.length := by omega
      simp [isSp, this]
    rw [this]
    exact Ev.now false
  · refine Ev.iff_neg (by omega) ?_
    by_cases h2 : s.length ≤ 8
    · refine Ev.step (f := fun k => impl_IsSpace.l0 k 1 s (s.length : Int) ((0 : Nat) : Int)) (fun k => ?_) ?_
      · simp only [impl_IsSpace.j0]
        rw [if_neg (by simp; omega)]
        rfl
      · have := isSpace_l s h2 s.length 0 1 (by omega) (by simp) (by omega) (by simp)
        have e1 : 1 ≤ s.length := by omega
        simpa [isSp, e1, h2] using this
    · refine Ev.step (f := fun _ => some false) (fun k => ?_) ?_
      · simp only [impl_IsSpace.j0]
        rw [if_pos (by simp; omega)]
      · have : isSp s = false := by simp [isSp, h2]
        rw [this]
        exact Ev.now false
theorem count_l (s : List Int) (hs : s.length < maxLen) : ∀ (d n : Nat) (x : Int), n + d = s.length → Ev (fun k => impl_count.l0 k x s (s.length : Int) (n : Int)) (prw x (s.drop n))
  | 0, n, x, hd => by
    refine Ev.step (f := fun _ => some x) (fun k => ?_) ?_
    · simp only [impl_count.l0]
      rw [if_neg (by omega)]
    · rw [drop_all (by omega)]
      exact Ev.now x
  | d + 1, n, x, hd => by
    refine Ev.step (f := fun k => impl_count.l0 k (wrap64 (x * rd s (n : Int))) s (s.length : Int) ((n + 1 : Nat) : Int)) (fun k => ?_) ?_
    · simp only [impl_count.l0]
      rw [if_pos (by omega), if_pos (by omega), if_pos (by omega), wrap_nat (by omega)]
    · have := count_l s hs d (n + 1) (wrap64 (x * rd s (n : Int))) (by omega)
      rw [drop_cons s (by omega)]
      exact this
theorem count_sp {s : List Int} (h : isSp s = true) : Ev (fun k => impl_count.f k s) (prd s) := by
  unfold impl_count.f
  have := count_l s (by have := isSp_len h; unfold maxLen; omega) s.length 0 1 (by omega)
  rw [List.drop_zero, prw_one (isSp_len h) (isSp_all h)] at this
  exact this
end Go.Proofs.YtnkndaapamenmaaGreat.Q
set_option linter.unusedVariables false
set_option linter.unusedSimpArgs false
namespace Go.Proofs.YtnkndaapamenmaaGreat.P
open Go.RowKit Go.Proofs.YtnkndaapamenmaaGreatW.PrintWords Go.Proofs.YtnkndaapamenmaaGreatW.PrintLast Go.Proofs.YtnkndaapamenmaaGreatW.PrintMore CC
def upTo (k : Nat) : List Int := (List.range k).map fun (i : Nat) => (i : Int)
theorem upTo_length (k : Nat) : (upTo k).length = k := by simp [upTo]
theorem upTo_rd {k j : Nat} (h : j < k) : rd (upTo k) (j : Int) = j := by simp [rd, upTo, List.getD_eq_getElem?_getD, h]
def ordQ (p : List Int) (n : Int) : Bool := decide (msort p = upTo p.length) && decide ((p.length : Int) = n)
def putN (N : Nat) (e p : List Int) : Nat → List Int
  | 0 => List.replicate N 0
  | n + 1 => (putN N e p n).set (rd p (n : Int)).toNat (rd e (n : Int))
theorem putN_length (N : Nat) (e p : List Int) : ∀ n, (putN N e p n).length = N
  | 0 => by simp [putN]
  | n + 1 => by rw [putN, List.length_set, putN_length N e p n]
theorem ordD_putN (e p : List Int) : ∀ n, ordD e p n = putN 8 e p n
  | 0 => rfl
  | n + 1 => by rw [ordD, putN, ordD_putN e p n]
def ospL (s p : List Int) : List Int := putN p.length s p p.length
theorem rd_getElem {l : List Int} {n : Nat} (h : n < l.length) : rd l (n : Int) = l[n] := by simp [rd, List.getD_eq_getElem?_getD, h]
theorem rd_set_ne9 (L : List Int) {k y : Nat} (h : k ≠ y) (v : Int) : rd (L.set k v) (y : Int) = rd L (y : Int) := by simp only [rd, Int.toNat_natCast, List.getD_eq_getElem?_getD, List.getElem?_set_ne h]
theorem putN_rd {p : List Int} (hn : p.Nodup) (hp : ∀ x ∈ p, 0 ≤ x) (N : Nat) (e : List Int) : ∀ (n : Nat), n ≤ p.length → ∀ j : Nat, j < n → rd p (j : Int) < N → rd (putN N e p n) (rd p (j : Int)) = rd e (j : Int)
  | 0, _, j, hj, _ => by omega
  | n + 1, hl, j, hj, hN => by
    have hm : ∀ k : Nat, k < p.length → 0 ≤ rd p (k : Int) := fun k hk => hp _ (by rw [rd_getElem hk]; exact List.getElem_mem _)
    have hj0 := hm j (by omega)
    obtain ⟨y, hy⟩ := Int.eq_ofNat_of_zero_le hj0
    rw [putN, hy]
    by_cases e1 : j = n
    · subst e1
      rw [hy, Int.toNat_natCast]
      have hlen : y < (putN N e p j).length := by rw [putN_length]; omega
      simp [rd, List.getD_eq_getElem?_getD, hlen]
    · have ih := putN_rd hn hp N e n (by omega) j (by omega) hN
      rw [hy] at ih
      have hne : (rd p (n : Int)).toNat ≠ y := by
        intro h
        have hn0 := hm n (by omega)
        have h2 : rd p (n : Int) = rd p (j : Int) := by omega
        rw [rd_getElem (show n < p.length by omega), rd_getElem (show j < p.length by omega)] at h2
        exact e1 ((List.getElem_inj hn).1 h2).symm
      rw [← ih, rd_set_ne9 _ hne]
theorem msort_perm9 (l : List Int) : (msort l).Perm l := List.mergeSort_perm l _
theorem ordQ_facts {p : List Int} {n : Int} (h : ordQ p n = true) : (p.length : Int) = n ∧ p.Nodup ∧ (∀ x ∈ p, 0 ≤ x ∧ x < p.length) ∧ (upTo p.length).Perm p := by
  unfold ordQ at h
  rw [Bool.and_eq_true, decide_eq_true_eq, decide_eq_true_eq] at h
  have hp : (upTo p.length).Perm p := by rw [← h.1]; exact msort_perm9 p
  refine ⟨h.2, ?_, fun x hx => ?_, hp⟩
  · refine (hp.nodup_iff).1 ?_
    unfold upTo
    rw [List.nodup_iff_pairwise_ne, List.pairwise_map]
    exact (List.nodup_range).imp (fun h e => h (by omega))
  · have := (hp.mem_iff).2 hx
    simp only [upTo, List.mem_map, List.mem_range] at this
    obtain ⟨i, hi, e⟩ := this
    omega
theorem ordQ_rd {p : List Int} {n : Int} (h : ordQ p n = true) : ∀ j : Nat, j < p.length → 0 ≤ rd p (j : Int) ∧ rd p (j : Int) < p.length := fun j hj => by
  rw [rd_getElem hj]
  exact (ordQ_facts h).2.2.1 _ (List.getElem_mem _)
theorem ordQ_onto {p : List Int} {n : Int} (h : ordQ p n = true) {k : Nat} (hk : k < p.length) : ∃ j : Nat, j < p.length ∧ rd p (j : Int) = k := by
  have : (k : Int) ∈ p := (ordQ_facts h).2.2.2.mem_iff.1 (by simp only [upTo, List.mem_map, List.mem_range]; exact ⟨k, hk, rfl⟩)
  obtain ⟨j, hj, e⟩ := List.getElem_of_mem this
  exact ⟨j, hj, by rw [rd_getElem hj, e]⟩
theorem prd_perm {a b : List Int} (h : a.Perm b) : prd a = prd b := by
  induction h with
  | nil => rfl
  | cons x _ ih => simp only [prd, ih]
  | swap x y l => simp only [prd]; rw [← Int.mul_assoc, ← Int.mul_assoc, Int.mul_comm x y]
  | trans _ _ h1 h2 => exact h1.trans h2
theorem ospL_perm {s p : List Int} (h : ordQ p s.length = true) : (ospL s p).Perm s := by
  obtain ⟨hl, hn, hb, hp⟩ := ordQ_facts h
  have hl2 : p.length = s.length := by omega
  have e1 : s = p.map (fun k => rd (ospL s p) k) := by
    apply List.ext_getElem (by simp [hl2])
    intro j h1 h2
    rw [List.getElem_map]
    have hj : j < p.length := by simpa using h2
    have := putN_rd hn (fun x hx => (hb x hx).1) p.length s p.length (Nat.le_refl _) j hj (ordQ_rd h j hj).2
    rw [rd_getElem hj, rd_getElem h1] at this
    exact this.symm
  have e2 : ospL s p = (upTo p.length).map (fun k => rd (ospL s p) k) := by
    apply List.ext_getElem (by unfold ospL; rw [putN_length]; simp [upTo])
    intro j h1 h2
    rw [List.getElem_map]
    have : (upTo p.length)[j]'(by simpa using h2) = (j : Int) := by simp [upTo]
    rw [this, rd_getElem h1]
  have h3 := hp.map (fun k => rd (ospL s p) k)
  rw [← e1, ← e2] at h3
  exact h3
theorem ospL_len (s p : List Int) : (ospL s p).length = p.length := by unfold ospL; rw [putN_length]
theorem ospL_isSp {s p : List Int} (hs : isSp s = true) (h : ordQ p s.length = true) : isSp (ospL s p) = true := by
  have hp := ospL_perm h
  have h0 := (isSp_iff s).1 hs
  refine (isSp_iff _).2 ⟨by rw [hp.length_eq]; exact h0.1, by rw [hp.length_eq]; exact h0.2.1, ?_, by rw [prd_perm hp]; exact h0.2.2.2⟩
  rw [List.all_eq_true]
  intro x hx
  exact List.all_eq_true.1 h0.2.2.1 x (hp.mem_iff.1 hx)
theorem ospL_rd {s p : List Int} (h : ordQ p s.length = true) {j : Nat} (hj : j < p.length) : rd (ospL s p) (rd p (j : Int)) = rd s (j : Int) := by
  obtain ⟨hl, hn, hb, hp⟩ := ordQ_facts h
  exact putN_rd hn (fun x hx => (hb x hx).1) p.length s p.length (Nat.le_refl _) j hj (ordQ_rd h j hj).2
theorem putN_inR {s p e : List Int} (hs : isSp s = true) (h : ordQ p s.length = true) (hi : inR s e = true) (he : s.length ≤ e.length) {N : Nat} (hN : p.length ≤ N) : inR (ospL s p) (putN N e p p.length) = true := by
  obtain ⟨hl, hn, hb, hp⟩ := ordQ_facts h
  have hl2 : p.length = s.length := by omega
  refine inR_of _ _ fun k hk _ => ?_
  rw [ospL_len] at hk
  obtain ⟨j, hj, ej⟩ := ordQ_onto h hk
  have h1 := putN_rd hn (fun x hx => (hb x hx).1) N e p.length (Nat.le_refl _) j hj (by have := (ordQ_rd h j hj).2; omega)
  have h2 := ospL_rd h hj
  rw [ej] at h1 h2
  rw [h1, h2]
  exact inR_rd s e j hi (by omega) (by omega)
def plW (s p : List Int) (x : Int) : Int := hor 0 (ospL s p) (putN 8 (dig8 s x) p p.length)
end Go.Proofs.YtnkndaapamenmaaGreat.P
set_option linter.unusedVariables false
set_option linter.unusedSimpArgs false
namespace Go.Proofs.YtnkndaapamenmaaGreat.Q
open Go.RowKit Go.Proofs.YtnkndaapamenmaaGreat.P Go.Proofs.YtnkndaapamenmaaGreatW.PrintWords CC
theorem ordL_of {R l : List Int} (hR : R.Pairwise (· < ·)) (hm : ∀ y, y ∈ R ↔ y ∈ l) : R = ordL l := asc_ext hR (ordL_pw l) (fun y => by rw [hm, ordL_mem])
theorem ordL_put (L : List Int) (x : Int) : ordL (ordL L ++ [x]) = ordL (L ++ [x]) := ordL_of (ordL_pw _) (fun y => by rw [ordL_mem, List.mem_append, List.mem_append, ordL_mem])
theorem ordL_asc {l : List Int} (h : l.Pairwise (· < ·)) : ordL l = l := (ordL_of h (fun _ => Iff.rfl)).symm
theorem asc_pw : ∀ {l : List Int}, asc l = true → l.Pairwise (· < ·)
  | [], _ => List.Pairwise.nil
  | [a], _ => by simp
  | a :: b :: t, h => by
    simp only [asc, Bool.and_eq_true, decide_eq_true_eq] at h
    have ih := asc_pw h.2
    rw [List.pairwise_cons]
    refine ⟨fun y hy => ?_, ih⟩
    rcases List.mem_cons.1 hy with rfl | hy
    · exact h.1
    · have := (List.pairwise_cons.1 ih).1 y hy
      omega
theorem l01Own_eq (l : List Int) (hl : l.length ≤ 1048576) : spec_l01Own.f l = some l := by
  unfold spec_l01Own.f
  simp only [Option.bind_some, List.length_nil, List.nil_append]
  rw [if_pos (by omega)]
theorem mem_take_drop {l : List Int} (n : Nat) (y : Int) : y ∈ l.take n ∨ y ∈ l.drop n ↔ y ∈ l := by
  rw [← List.mem_append, List.take_append_drop]
theorem put_pw {l : List Int} (h : l.Pairwise (· < ·)) {x : Int} {n : Nat} (h1 : ∀ y ∈ l.take n, y < x) (h2 : ∀ y ∈ l.drop n, x < y) : (l.take n ++ [x] ++ l.drop n).Pairwise (· < ·) := by
  rw [← List.take_append_drop n l, List.pairwise_append] at h
  rw [List.append_assoc, List.pairwise_append]
  refine ⟨h.1, ?_, fun a ha b hb => ?_⟩
  · rw [List.singleton_append, List.pairwise_cons]
    exact ⟨h2, h.2.1⟩
  · rcases List.mem_append.1 hb with hb | hb
    · rw [List.mem_singleton] at hb
      subst hb
      exact h1 a ha
    · exact h.2.2 a ha b hb
theorem put_eq {l : List Int} (h : l.Pairwise (· < ·)) {x : Int} {n : Nat} (h1 : ∀ y ∈ l.take n, y < x) (h2 : ∀ y ∈ l.drop n, x < y) : l.take n ++ [x] ++ l.drop n = ordL (l ++ [x]) :=
  ordL_of (put_pw h h1 h2) (fun y => by
    simp only [List.mem_append]
    have := mem_take_drop (l := l) n y
    constructor
    · rintro ((h | h) | h)
      · exact .inl (this.1 (.inl h))
      · exact .inr h
      · exact .inl (this.1 (.inr h))
    · rintro (h | h)
      · rcases this.2 h with h | h
        · exact .inl (.inl h)
        · exact .inr h
      · exact .inl (.inr h))
theorem l01Put_l {l : List Int} (h : l.Pairwise (· < ·)) (hl : l.length ≤ 1048576) (x : Int) : ∀ n, n ≤ l.length → (∀ y ∈ l.drop n, x < y) → Ev (fun k => spec_l01Put.l0 k l x (n : Int)) (ordL (l ++ [x]))
  | 0, hn, hd => by
    refine Ev.step (fun k => by simp only [spec_l01Put.l0]; exact rfl) ?_
    refine Ev.iff_neg (by omega) (Ev.iff_pos (by omega) (Ev.iff_pos (by omega) ?_))
    refine Ev.bindc (l01Own_eq _ (by simp)) ?_
    refine Ev.iff_pos (by simp) ?_
    refine Ev.bindc rfl (Ev.bindc rfl ?_)
    refine Ev.iff_pos (by simp; omega) ?_
    have := put_eq h (x := x) (n := 0) (by simp) hd
    rw [← this]
    exact Ev.now _
  | n + 1, hn, hd => by
    have e1 : wrap64 (((n + 1 : Nat) : Int) - 1) = (n : Int) := by rw [wrap_id (by omega) (by omega)]; omega
    have hdc := drop_cons l (show n < l.length by omega)
    have htk := take_rd8 (d := l) (show n < l.length by omega)
    refine Ev.step (fun k => by simp only [spec_l01Put.l0]; exact rfl) ?_
    rw [e1]
    refine Ev.iff_pos (by omega) (Ev.iff_pos (by omega) (Ev.iff_pos (by omega) ?_))
    by_cases h1 : rd l (n : Int) > x
    · refine Ev.iff_pos h1 ?_
      refine l01Put_l h hl x n (by omega) (fun y hy => ?_)
      rw [hdc] at hy
      rcases List.mem_cons.1 hy with rfl | hy
      · exact h1
      · exact hd y hy
    · refine Ev.iff_neg h1 ?_
      by_cases h2 : rd l (n : Int) = x
      · refine Ev.iff_pos h2 ?_
        have hm : x ∈ l := by
          rw [← mem_take_drop n, hdc, h2]
          simp
        have : ordL (l ++ [x]) = l := (ordL_of h (fun y => by
          rw [List.mem_append, List.mem_singleton]
          constructor
          · exact .inl
          · rintro (h | rfl)
            · exact h
            · exact hm)).symm
        rw [this]
        exact Ev.now _
      · refine Ev.iff_neg h2 (Ev.iff_pos (by omega) (Ev.iff_pos (by omega) ?_))
        have htl : (l.take (n + 1)).length ≤ n + 1 := List.length_take_le _ _
        rw [Int.toNat_natCast]
        refine Ev.bindc (l01Own_eq _ (by omega)) ?_
        refine Ev.iff_pos (by omega) ?_
        refine Ev.bindc rfl (Ev.bindc rfl ?_)
        refine Ev.iff_pos (by rw [List.length_append, List.length_drop, List.length_singleton]; omega) ?_
        have hp : ∀ y ∈ l.take (n + 1), y < x := fun y hy => by
          have hpw := h
          rw [← List.take_append_drop (n + 1) l, List.pairwise_append, htk, List.pairwise_append] at hpw
          rw [htk, List.mem_append, List.mem_singleton] at hy
          rcases hy with hy | rfl
          · have := hpw.1.2.2 y hy (rd l (n : Int)) (by simp)
            omega
          · omega
        rw [← put_eq h hp hd]
        exact Ev.now _
theorem l01Put_ev {l : List Int} (h : l.Pairwise (· < ·)) (hl : l.length ≤ 1048576) (x : Int) : Ev (fun k => spec_l01Put.f k l x) (ordL (l ++ [x])) := by
  unfold spec_l01Put.f
  exact l01Put_l h hl x l.length (Nat.le_refl _) (by simp)
theorem isW_in {s : List Int} (h : isSp s = true) (x : Int) : spec_l01In.f x 0 (wrap64 (prd s - 1)) = some (isW s x) := by
  have h1 := isSp_prd h
  have h2 := isSp_prd1 h
  rw [l01In_eq, wrap_id (by omega) (by omega)]
  unfold isW
  congr 1
  rw [← Bool.decide_and]
  exact decide_eq_decide.2 (by omega)
theorem areWords_l {s c : List Int} (hc : c.length ≤ 1048576) : ∀ (m n : Nat), n + m = c.length →
    Ev (fun k => impl_areWords.l0 k (prd s) c (c.length : Int) (n : Int)) ((c.drop n).all (isW s))
  | 0, n, hm => by
    rw [drop_all (by omega)]
    refine Ev.step (f := fun k => some true) (fun k => ?_) (Ev.now _)
    simp only [impl_areWords.l0]
    rw [if_neg (by omega)]
  | m + 1, n, hm => by
    have hn : n < c.length := by omega
    rw [drop_cons c hn, List.all_cons]
    by_cases h0 : rd c (n : Int) < 0
    · have : isW s (rd c (n : Int)) = false := by simp [isW]; omega
      rw [this, Bool.false_and]
      refine Ev.step (f := fun k => some false) (fun k => ?_) (Ev.now _)
      simp only [impl_areWords.l0]
      rw [if_pos (by omega), if_pos (by omega), if_pos (by omega), if_pos h0]
    by_cases h1 : rd c (n : Int) ≥ prd s
    · have : isW s (rd c (n : Int)) = false := by simp [isW]; omega
      rw [this, Bool.false_and]
      refine Ev.step (f := fun k => some false) (fun k => ?_) (Ev.now _)
      simp only [impl_areWords.l0]
      rw [if_pos (by omega), if_pos (by omega), if_pos (by omega), if_neg h0, if_pos h1]
    · have : isW s (rd c (n : Int)) = true := by simp [isW]; omega
      rw [this, Bool.true_and]
      refine Ev.step (f := fun k => impl_areWords.l0 k (prd s) c (c.length : Int) ((n + 1 : Nat) : Int)) (fun k => ?_) (areWords_l hc m (n + 1) (by omega))
      simp only [impl_areWords.l0]
      rw [if_pos (by omega), if_pos (by omega), if_pos (by omega), if_neg h0, if_neg h1, wrap_nat (by unfold maxLen; omega)]
theorem areWords_ev {s c : List Int} (hs : isSp s = true) (hc : c.length ≤ 1048576) : Ev (fun k => impl_areWords.f k s c) (c.all (isW s)) := by
  unfold impl_areWords.f
  refine Ev.bind (count_sp hs) ?_
  simpa using areWords_l (s := s) hc c.length 0 (by omega)
def rWords (s c : List Int) : Int := if isSp s then if c.all (isW s) then 0 else 2 else 1
theorem rWords_zero {s c : List Int} (h : rWords s c = 0) : isSp s = true ∧ ∀ x ∈ c, isW s x = true := by
  unfold rWords at h
  split at h
  · rename_i hs
    split at h
    · rename_i hc
      exact ⟨hs, List.all_eq_true.1 hc⟩
    · cases h
  · cases h
theorem wordCode_ev (s : List Int) {c : List Int} (hc : c.length ≤ 1048576) : Ev (fun k => impl_wordCode.f k s c) (rWords s c) := by
  unfold impl_wordCode.f rWords
  refine Ev.bind (isSpace_ev s) ?_
  by_cases h : isSp s = true
  · simp only [h, if_true]
    refine Ev.bind (areWords_ev h hc) ?_
    by_cases h2 : c.all (isW s) = true
    · simp only [h2, if_true]
      exact Ev.now _
    · simp only [h2, if_false]
      exact Ev.now _
  · simp only [h, if_false]
    exact Ev.now _
theorem all_rd {s : List Int} (h : s.all sizeOk = true) {n : Nat} (hn : n < s.length) : rd s (n : Int) = 2 ∨ rd s (n : Int) = 3 ∨ rd s (n : Int) = 4 := by
  rw [← sizeOk_iff, rd_nat]
  simp only [List.getD_eq_getElem?_getD, List.getElem?_eq_getElem hn, Option.getD_some]
  exact List.all_eq_true.1 h _ (List.getElem_mem hn)
theorem hor_step {a q x : Int} {n : Nat} (hn : n + 1 ≤ 8) (hq : q = 2 ∨ q = 3 ∨ q = 4) (h0 : 0 ≤ a) (h1 : a + 1 ≤ 4 ^ n) (x0 : 0 ≤ x) (x1 : x < q) :
    wrap64 (wrap64 (a * q) + x) = a * q + x ∧ 0 ≤ a * q + x ∧ a * q + x + 1 ≤ 4 ^ (n + 1) := by
  have hb := pow48 hn
  rw [Int.pow_succ] at hb ⊢
  rcases hq with rfl | rfl | rfl
  all_goals
    rw [wrap_id (x := a * _) (by omega) (by omega), wrap_id (by omega) (by omega)]
    omega
theorem tmod_pos {x q : Int} (h : 0 ≤ x) : Int.tmod x q = x % q := Int.tmod_eq_emod_of_nonneg h
theorem tdiv_pos {x q : Int} (h : 0 ≤ x) (hq : 0 ≤ q) : Int.tdiv x q = x / q := Int.tdiv_eq_ediv_of_nonneg h
theorem div_bounds {x q : Int} (h0 : 0 ≤ x) (h1 : x ≤ 1024) (hq : q = 2 ∨ q = 3 ∨ q = 4) : 0 ≤ x / q ∧ x / q ≤ 1024 ∧ wrap64 (Int.tdiv x q) = x / q ∧ Int.tmod x q = x % q := by
  have h2 : 0 ≤ x / q ∧ x / q ≤ 1024 := by rcases hq with rfl | rfl | rfl <;> omega
  refine ⟨h2.1, h2.2, ?_, tmod_pos h0⟩
  rw [tdiv_pos h0 (by omega), wrap_id (by omega) (by omega)]
theorem pred_nat (n : Nat) (h : n ≤ 100) : wrap64 (((n : Nat) : Int) - 1) = (n : Int) - 1 := wrap_id (by omega) (by omega)
theorem isW_b {s : List Int} (hs : isSp s = true) {x : Int} (h : isW s x = true) : 0 ≤ x ∧ x ≤ 1024 := by
  have h1 := (isW_iff s x).1 h
  have h2 := isSp_prd hs
  omega
theorem likeInts_l {l : List Int} (hl : l.length ≤ 1048576) : ∀ (m n : Nat), n + m = l.length → Ev (fun k => laws_likeInts.l0 k l l (n : Int)) true
  | 0, n, hm => by
    refine Ev.step (fun k => by simp only [laws_likeInts.l0]; exact rfl) ?_
    exact Ev.iff_neg (by omega) (Ev.now _)
  | m + 1, n, hm => by
    have ih := likeInts_l hl m (n + 1) (by omega)
    refine Ev.step (fun k => by simp only [laws_likeInts.l0]; exact rfl) ?_
    refine Ev.iff_pos (by omega) (Ev.iff_pos (by omega) (Ev.iff_pos (by omega) (Ev.iff_pos (by first | rfl | trivial) ?_)))
    rw [wrap_nat (by unfold maxLen; omega)]
    exact ih
theorem likeInts_same {l : List Int} (hl : l.length ≤ 1048576) : Ev (fun k => laws_likeInts.f k l l) true := by
  unfold laws_likeInts.f
  exact Ev.iff_pos rfl (likeInts_l hl l.length 0 (by omega))
theorem bytes_in {l : List Int} (h : ∀ x ∈ l, (Lit.int .u8 x).wf = true) : ∀ x ∈ l, 0 ≤ x ∧ x ≤ 255 := fun x hx => by
  have := h x hx
  have e1 : IntKind.u8.min = 0 := by decide
  have e2 : IntKind.u8.max = 255 := by decide
  simp [Lit.wf, e1, e2] at this
  omega
theorem prev_nat {n : Nat} (h : n < maxLen) : wrap64 (((n + 1 : Nat) : Int) - 1) = (n : Int) := by
  unfold maxLen at h
  unfold wrap64
  omega
theorem l01Code_l {s c : List Int} (hs : isSp s = true) (hc : c.length ≤ 1048576) : ∀ (m n : Nat), n + 1 + m = c.length →
    Ev (fun k => spec_l01Code.l0 k c ((n + 1 : Nat) : Int) s) ((c.drop (n + 1)).all (isW s) && asc (c.drop n))
  | 0, n, hm => by
    rw [drop_cons c (show n < c.length by omega), drop_all (s := c) (n := n + 1) (by omega)]
    refine Ev.step (f := fun k => some true) (fun k => ?_) (by simpa [asc] using Ev.now _)
    simp only [spec_l01Code.l0]
    rw [if_neg (by omega)]
  | m + 1, n, hm => by
    have hn : n < c.length := by omega
    have hn2 : n + 1 < c.length := by omega
    rw [drop_cons c hn, drop_cons c hn2, List.all_cons]
    refine Ev.step (fun k => by simp only [spec_l01Code.l0]; exact rfl) ?_
    refine Ev.iff_pos (by omega) (Ev.iff_pos (by omega) (Ev.bind (l01N_sp hs) (Ev.bindc (isW_in hs _) ?_)))
    cases h : isW s (rd c ((n + 1 : Nat) : Int)) with
    | false => simpa using Ev.now _
    | true =>
      rw [asc, Bool.true_and]
      refine Ev.iff_pos rfl (Ev.iff_pos (by omega) ?_)
      rw [prev_nat (by unfold maxLen; omega)]
      refine Ev.iff_pos (by omega) (Ev.iff_pos (by omega) ?_)
      by_cases hlt : rd c (n : Int) < rd c ((n + 1 : Nat) : Int)
      · refine Ev.iff_neg (by omega) ?_
        rw [wrap_nat (by unfold maxLen; omega)]
        have := l01Code_l hs hc m (n + 1) (by omega)
        rw [drop_cons c hn2] at this
        rw [decide_eq_true hlt, Bool.true_and]
        exact this
      · refine Ev.iff_pos (by omega) ?_
        rw [decide_eq_false hlt, Bool.false_and, Bool.and_false]
        exact Ev.now _
theorem l01Code_ev {s c : List Int} (hs : isSp s = true) (hc : c.length ≤ 1048576) : Ev (fun k => spec_l01Code.f k s c) (isC s c) := by
  unfold spec_l01Code.f isC
  cases c with
  | nil =>
    refine Ev.step (f := fun k => some true) (fun k => ?_) (Ev.now _)
    simp only [spec_l01Code.l0]
    rw [if_neg (by simp)]
  | cons a t =>
    refine Ev.step (fun k => by simp only [spec_l01Code.l0]; exact rfl) ?_
    refine Ev.iff_pos (by simp only [List.length_cons]; omega) (Ev.iff_pos (by omega) (Ev.bind (l01N_sp hs) (Ev.bindc (isW_in hs _) ?_)))
    have e : rd (a :: t) 0 = a := by simp [rd]
    rw [e, List.all_cons]
    cases h : isW s a with
    | false => simpa using Ev.now _
    | true =>
      refine Ev.iff_pos rfl (Ev.iff_neg (by omega) ?_)
      have := l01Code_l hs hc t.length 0 (by simp only [List.length_cons]; omega)
      rw [show wrap64 (0 + 1) = ((0 + 1 : Nat) : Int) from by simp [wrap64], Bool.true_and]
      simpa using this
theorem isCode_l {c : List Int} (hc : c.length ≤ 1048576) : ∀ (m n : Nat), n + 1 + m = c.length →
    Ev (fun k => impl_isCode.l0 k c ((n + 1 : Nat) : Int)) (asc (c.drop n))
  | 0, n, hm => by
    rw [drop_cons c (show n < c.length by omega), drop_all (s := c) (n := n + 1) (by omega)]
    refine Ev.step (f := fun k => some true) (fun k => ?_) (by simpa [asc] using Ev.now _)
    simp only [impl_isCode.l0]
    rw [if_neg (by omega)]
  | m + 1, n, hm => by
    have hn : n < c.length := by omega
    have hn2 : n + 1 < c.length := by omega
    rw [drop_cons c hn, drop_cons c hn2]
    refine Ev.step (fun k => by simp only [impl_isCode.l0]; exact rfl) ?_
    refine Ev.iff_pos (by omega) (Ev.iff_pos (by omega) ?_)
    rw [prev_nat (by unfold maxLen; omega)]
    refine Ev.iff_pos (by omega) (Ev.iff_pos (by omega) ?_)
    rw [asc]
    by_cases hlt : rd c (n : Int) < rd c ((n + 1 : Nat) : Int)
    · refine Ev.iff_neg (by omega) ?_
      rw [wrap_nat (by unfold maxLen; omega)]
      have := isCode_l hc m (n + 1) (by omega)
      rw [drop_cons c hn2] at this
      rw [decide_eq_true hlt, Bool.true_and]
      exact this
    · refine Ev.iff_pos (by omega) ?_
      rw [decide_eq_false hlt, Bool.false_and]
      exact Ev.now _
theorem isCode_ev {s c : List Int} (hs : isSp s = true) (hc : c.length ≤ 1048576) : Ev (fun k => impl_isCode.f k s c) (isC s c) := by
  unfold impl_isCode.f
  refine Ev.bind (count_sp hs) ?_
  by_cases hlen : (c.length : Int) > prd s
  · have : isC s c = false := by
      cases h : isC s c with
      | false => rfl
      | true =>
        have := isC_length hs h
        omega
    rw [this]
    refine Ev.iff_pos hlen ?_
    refine Ev.step (f := fun k => some false) (fun k => ?_) (Ev.now _)
    simp [impl_isCode.j0]
  · refine Ev.iff_neg hlen (Ev.bind (areWords_ev hs hc) ?_)
    unfold isC
    cases h : c.all (isW s) with
    | false =>
      refine Ev.step (f := fun k => some false) (fun k => ?_) (Ev.now _)
      simp [impl_isCode.j0]
    | true =>
      refine Ev.step (f := fun k => impl_isCode.l0 k c 1) (fun k => ?_) ?_
      · simp [impl_isCode.j0]
      · rw [Bool.true_and]
        cases c with
        | nil =>
          refine Ev.step (f := fun k => some true) (fun k => ?_) (Ev.now _)
          simp [impl_isCode.l0]
        | cons a t =>
          have := isCode_l hc t.length 0 (by simp only [List.length_cons]; omega)
          simpa using this
theorem l01Word_l (s d : List Int) (hs : s.all sizeOk = true) (hl : s.length ≤ 8) (hd : d.length = s.length) : ∀ (m n : Nat) (a : Int), n + m = s.length → 0 ≤ a → a + 1 ≤ 4 ^ n → inR (s.drop n) (d.drop n) = true →
    Ev (fun k => spec_l01Word.l0 k d a (n : Int) s) (hor a (s.drop n) (d.drop n))
  | 0, n, a, hm, h0, h1, hr => by
    refine Ev.step (f := fun _ => some a) (fun k => ?_) ?_
    · simp only [spec_l01Word.l0]
      rw [if_neg (by omega)]
    · rw [drop_all (by omega)]
      exact Ev.now a
  | m + 1, n, a, hm, h0, h1, hr => by
    have hn : n < s.length := by omega
    have hn2 : n < d.length := by omega
    rw [drop_cons s hn, drop_cons d hn2] at hr ⊢
    simp only [inR, Bool.and_eq_true, decide_eq_true_eq] at hr
    obtain ⟨e, b0, b1⟩ := hor_step (n := n) (by omega) (all_rd hs hn) h0 h1 hr.1.1 hr.1.2
    refine Ev.step (f := fun k => spec_l01Word.l0 k d (a * rd s (n : Int) + rd d (n : Int)) ((n + 1 : Nat) : Int) s) (fun k => ?_) ?_
    · simp only [spec_l01Word.l0]
      rw [if_pos (by omega), if_pos (by omega), if_pos (by omega), e, wrap_nat (by unfold maxLen; omega)]
    · exact l01Word_l s d hs hl hd m (n + 1) _ (by omega) b0 b1 hr.2
theorem l01Word_ev {s d : List Int} (hs : s.all sizeOk = true) (hl : s.length ≤ 8) (hd : d.length = s.length) (hr : inR s d = true) : Ev (fun k => spec_l01Word.f k s d) (wd s d) := by
  unfold spec_l01Word.f wd
  simpa using l01Word_l s d hs hl hd s.length 0 0 (by omega) (by omega) (by simp) (by simpa using hr)
def rCode (s c ws : List Int) : Int := if rWords s ws = 0 then if isC s c then 0 else 2 else rWords s ws
theorem rCode_zero {s c ws : List Int} (h : rCode s c ws = 0) : isSp s = true ∧ isC s c = true ∧ ∀ x ∈ ws, isW s x = true := by
  unfold rCode at h
  split at h
  · rename_i hw
    obtain ⟨h1, h2⟩ := rWords_zero hw
    split at h
    · rename_i hc
      exact ⟨h1, hc, h2⟩
    · cases h
  · rename_i hw
    exact absurd h hw
theorem rWords_nil (s : List Int) : rWords s [] = if isSp s then 0 else 1 := by
  unfold rWords
  by_cases h : isSp s = true <;> simp [h]
theorem isC_len {s c : List Int} (hs : isSp s = true) (h : isC s c = true) : c.length ≤ 1024 := by
  have := isC_length hs h
  have := isSp_prd hs
  omega
theorem isC_words {s c : List Int} (h : isC s c = true) : ∀ x ∈ c, isW s x = true := by
  simp only [isC, Bool.and_eq_true, List.all_eq_true] at h
  exact h.1
theorem isC_asc {s c : List Int} (h : isC s c = true) : asc c = true := by
  simp only [isC, Bool.and_eq_true] at h
  exact h.2
theorem isC_rd {s c : List Int} (h : isC s c = true) {n : Nat} (hn : n < c.length) : isW s (rd c (n : Int)) = true := by
  have : rd c (n : Int) = c[n] := by simp [rd, List.getD_eq_getElem?_getD, hn]
  rw [this]
  exact isC_words h _ (List.getElem_mem hn)
theorem codeCode_ev (s : List Int) {c ws : List Int} (hc : c.length ≤ 1048576) (hw : ws.length ≤ 1048576) : Ev (fun k => impl_codeCode.f k s c ws) (rCode s c ws) := by
  unfold impl_codeCode.f rCode
  refine Ev.bind (wordCode_ev s hw) ?_
  by_cases h : rWords s ws = 0
  · obtain ⟨hs, _⟩ := rWords_zero h
    simp only [if_pos h]
    refine Ev.bind (isCode_ev hs hc) ?_
    cases isC s c with
    | true => exact Ev.iff_pos rfl (Ev.now _)
    | false => exact Ev.iff_neg (by simp) (Ev.now _)
  · simp only [if_neg h]
    exact Ev.now _
theorem l01Given_ev (s : List Int) {c : List Int} (hc : c.length ≤ 1048576) : Ev (fun k => spec_l01Given.f k s c) (rCode s c []) := by
  unfold spec_l01Given.f rCode
  rw [rWords_nil]
  refine Ev.bind (l01Is_ev s) ?_
  by_cases hs : isSp s = true
  · simp only [hs, if_true]
    refine Ev.bind (l01Code_ev hs hc) ?_
    cases isC s c with
    | true => exact Ev.iff_pos rfl (Ev.now _)
    | false => exact Ev.iff_neg (by simp) (Ev.now _)
  · simp only [hs]
    exact Ev.now _
def selL (p : Int → Bool) (n : Nat) : List Int := ((List.range n).filter fun (i : Nat) => p (i : Int)).map fun (i : Nat) => (i : Int)
theorem selL_succ (p : Int → Bool) (n : Nat) : selL p (n + 1) = selL p n ++ if p (n : Int) then [(n : Int)] else [] := by
  unfold selL
  rw [List.range_succ, List.filter_append, List.map_append]
  congr 1
  by_cases h : p (n : Int) = true <;> simp [h]
theorem selL_len (p : Int → Bool) (n : Nat) : (selL p n).length ≤ n := by
  unfold selL
  have := List.length_filter_le (fun (i : Nat) => p (i : Int)) (List.range n)
  simpa using this
theorem mem_selL {p : Int → Bool} {n : Nat} {x : Int} : x ∈ selL p n ↔ 0 ≤ x ∧ x < n ∧ p x = true := by
  unfold selL
  simp only [List.mem_map, List.mem_filter, List.mem_range]
  constructor
  · rintro ⟨i, ⟨h1, h2⟩, rfl⟩
    exact ⟨by omega, by omega, h2⟩
  · rintro ⟨h1, h2, h3⟩
    obtain ⟨m, rfl⟩ := Int.eq_ofNat_of_zero_le h1
    exact ⟨m, ⟨by omega, h3⟩, rfl⟩
def NW (s : List Int) : Nat := (prd s).toNat
theorem NW_eq {s : List Int} (hs : isSp s = true) : ((NW s : Nat) : Int) = prd s := by
  have := isSp_prd1 hs
  unfold NW
  omega
theorem NW_le {s : List Int} (hs : isSp s = true) : NW s ≤ 1024 := by
  have := isSp_prd hs
  unfold NW
  omega
theorem l01Digits_l {s : List Int} (hs : s.all sizeOk = true) (hl : s.length ≤ 8) : ∀ (n : Nat) (u : Int) (ar : List Int), n ≤ s.length → ar.length = s.length → 0 ≤ u → u ≤ 1024 →
    Ev (fun k => spec_l01Digits.l0 k u ar ((n : Int) - 1) s) (dloop s n u ar)
  | 0, u, ar, _, _, _, _ => by
    refine Ev.step (f := fun k => some ar) (fun k => ?_) (Ev.now _)
    simp only [spec_l01Digits.l0]
    rw [if_neg (by omega)]
  | n + 1, u, ar, hn, ha, u0, u1 => by
    have hq := all_rd hs (show n < s.length by omega)
    obtain ⟨b0, b1, b2, b3⟩ := div_bounds u0 u1 hq
    have e : ((n + 1 : Nat) : Int) - 1 = (n : Int) := by omega
    rw [e]
    refine Ev.step (fun k => by simp only [spec_l01Digits.l0]; exact rfl) ?_
    refine Ev.iff_pos (by omega) (Ev.iff_pos (by omega) (Ev.iff_pos (by omega) (Ev.iff_neg (by omega) (Ev.iff_pos (by omega) ?_))))
    rw [b2, b3, pred_nat n (by omega), Int.toNat_natCast]
    exact l01Digits_l hs hl n _ _ (by omega) (by simpa using ha) b0 b1
theorem l01Digits_ev {s : List Int} (hs : isSp s = true) {w : Int} (hw : isW s w = true) : Ev (fun k => spec_l01Digits.f k s w) (dg s w) := by
  have hl := isSp_len hs
  obtain ⟨w0, w1⟩ := isW_b hs hw
  unfold spec_l01Digits.f
  refine Ev.iff_pos (by omega) (Ev.iff_pos (by omega) ?_)
  have e : wrap64 ((s.length : Int) - 1) = (s.length : Int) - 1 := wrap_id (by omega) (by omega)
  rw [e]
  have := l01Digits_l (isSp_all hs) hl s.length w (List.replicate ((s.length : Int)).toNat 0) (Nat.le_refl _) (by simp) w0 w1
  rw [dloop_eq s s.length w _ (Nat.le_refl _) (by simp)] at this
  simpa [dg] using this
def genL (g : Nat → Int) (n : Nat) : List Int := (List.range n).map g
theorem genL_length (g : Nat → Int) (n : Nat) : (genL g n).length = n := by simp [genL]
theorem genL_succ (g : Nat → Int) (n : Nat) : genL g (n + 1) = genL g n ++ [g n] := by simp [genL, List.range_succ]
theorem genL_rd (g : Nat → Int) {n k : Nat} (h : k < n) : rd (genL g n) (k : Int) = g k := by simp [rd, genL, List.getD_eq_getElem?_getD, h]
theorem genL_set {g : Nat → Int} {n : Nat} {d : List Int} (h : n < d.length) : (genL g n ++ d.drop n).set n (g n) = genL g (n + 1) ++ d.drop (n + 1) := by
  rw [List.set_append_right _ _ (by rw [genL_length]; exact Nat.le_refl _), genL_length, Nat.sub_self, genL_succ, List.append_assoc]
  congr 1
  rw [List.drop_eq_getElem_cons h]
  rfl
theorem genL_old {g : Nat → Int} {n : Nat} {d : List Int} (h : n < d.length) : rd (genL g n ++ d.drop n) (n : Int) = rd d (n : Int) := by
  rw [rd_nat, rd_nat, List.getD_eq_getElem?_getD, List.getElem?_append_right (by rw [genL_length]; exact Nat.le_refl _), genL_length, Nat.sub_self, List.getElem?_drop]
  simp [List.getD_eq_getElem?_getD]
theorem genL_congr {g h : Nat → Int} {n : Nat} (e : ∀ k, k < n → g k = h k) : genL g n = genL h n := by
  unfold genL
  apply List.map_congr_left
  intro k hk
  exact e k (List.mem_range.1 hk)
theorem genL_inR {s : List Int} {g : Nat → Int} (h : ∀ k, k < s.length → 0 ≤ g k ∧ g k < rd s (k : Int)) : inR s (genL g s.length) = true := by
  refine inR_of _ _ fun k h1 h2 => ?_
  rw [genL_rd g h1]
  exact h k h1
theorem upd8_gen (g : Nat → Int) {n : Nat} (hn : n ≤ 8) : upd8 g n = genL g n ++ List.replicate (8 - n) 0 := by
  apply List.ext_getElem?
  intro k
  by_cases h8 : k < 8
  · by_cases hk : k < n
    · rw [List.getElem?_append_left (by rw [genL_length]; exact hk)]
      simp [upd8, genL, h8, hk]
    · rw [List.getElem?_append_right (by rw [genL_length]; omega), genL_length, List.getElem?_replicate, if_pos (by omega)]
      simp [upd8, h8, hk]
  · rw [List.getElem?_eq_none (by rw [upd8_length]; omega), List.getElem?_eq_none (by simp [genL_length]; omega)]
def sumL (s a b : List Int) : List Int := genL (fun k => (rd a (k : Int) + rd b (k : Int)) % rd s (k : Int)) s.length
def sumW (s : List Int) (u w : Int) : Int := wd s (sumL s (dg s u) (dg s w))
theorem sumL_inR {s : List Int} (hs : s.all sizeOk = true) (a b : List Int) : inR s (sumL s a b) = true := by
  refine genL_inR fun k hk => ?_
  have hq := all_rd hs hk
  exact ⟨Int.emod_nonneg _ (by omega), Int.emod_lt_of_pos _ (by omega)⟩
theorem sumL_length (s a b : List Int) : (sumL s a b).length = s.length := genL_length _ _
theorem rd_dig8 {s : List Int} (hl : s.length ≤ 8) (x : Int) {k : Nat} (hk : k < s.length) : rd (dig8 s x) (k : Int) = rd (dg s x) (k : Int) := by
  rw [dig8_eq hl, rd_nat, rd_nat, List.getD_eq_getElem?_getD, List.getElem?_append_left (by rw [dg_length]; exact hk), List.getD_eq_getElem?_getD]
theorem hor_sum8 {s : List Int} (hs : isSp s = true) (u w : Int) : hor 0 s (sum8 s (dig8 s u) (dig8 s w)) = sumW s u w := by
  unfold sum8 sumW sumL wd
  rw [upd8_gen _ (isSp_len hs), hor_pad (genL_length _ _)]
  congr 1
  apply genL_congr
  intro k hk
  rw [rd_dig8 (isSp_len hs) u hk, rd_dig8 (isSp_len hs) w hk]
theorem sumW_isW {s : List Int} (hs : isSp s = true) (u w : Int) : isW s (sumW s u w) = true :=
  wd_word (isSp_all hs) (sumL_length _ _ _).symm (sumL_inR (isSp_all hs) _ _)
theorem l01Sum_l {s a b : List Int} (hs : s.all sizeOk = true) (hl : s.length ≤ 8) (ha : a.length = s.length) (hb : b.length = s.length) (hr : inR s a = true) (hr2 : inR s b = true) : ∀ (m n : Nat), n + m = s.length →
    Ev (fun k => spec_l01Sum.l0 k (genL (fun k => (rd a (k : Int) + rd b (k : Int)) % rd s (k : Int)) n ++ a.drop n) b (a.length : Int) (n : Int) s) (wd s (sumL s a b))
  | 0, n, hm => by
    obtain rfl : n = s.length := by omega
    refine Ev.step (fun k => by simp only [spec_l01Sum.l0]; exact rfl) (Ev.iff_neg (by omega) ?_)
    rw [List.drop_eq_nil_of_le (by omega), List.append_nil]
    exact Ev.bind (l01Word_ev hs hl (sumL_length s a b) (sumL_inR hs a b)) (Ev.now _)
  | m + 1, n, hm => by
    have hn : n < s.length := by omega
    have hq := all_rd hs hn
    obtain ⟨r0, r1⟩ := inR_rd s a n hr hn (by omega)
    obtain ⟨r2, r3⟩ := inR_rd s b n hr2 hn (by omega)
    refine Ev.step (fun k => by simp only [spec_l01Sum.l0]; exact rfl) ?_
    have hlen : (genL (fun k => (rd a (k : Int) + rd b (k : Int)) % rd s (k : Int)) n ++ a.drop n).length = s.length := by
      simp [genL_length]
      omega
    rw [genL_old (by omega)]
    refine Ev.iff_pos (by omega) (Ev.iff_pos (by omega) (Ev.iff_pos (by omega) (Ev.iff_pos (by omega) (Ev.iff_pos (by omega) (Ev.iff_neg (by omega) ?_)))))
    rw [wrap_id (x := rd a (n : Int) + rd b (n : Int)) (by omega) (by omega), tmod_pos (by omega), wrap_nat (by unfold maxLen; omega), Int.toNat_natCast]
    have := genL_set (g := fun k => (rd a (k : Int) + rd b (k : Int)) % rd s (k : Int)) (n := n) (d := a) (by omega)
    rw [this]
    exact l01Sum_l hs hl ha hb hr hr2 m (n + 1) (by omega)
theorem l01Sum_ev {s : List Int} (hs : isSp s = true) {u w : Int} (hu : isW s u = true) (hw : isW s w = true) : Ev (fun k => spec_l01Sum.f k s u w) (sumW s u w) := by
  unfold spec_l01Sum.f
  refine Ev.bind (l01Digits_ev hs hu) (Ev.bind (l01Digits_ev hs hw) ?_)
  have := l01Sum_l (isSp_all hs) (isSp_len hs) (dg_length s u) (dg_length s w) (inR_dg (isSp_all hs) u) (inR_dg (isSp_all hs) w) s.length 0 (by omega)
  simpa [genL, sumW] using this
def rF1 (s C : List Int) : Int := if rCode s C [] = 0 then (if prd s > 81 then 3 else 0) else rCode s C []
def rF2 (s C D : List Int) : Int := if rCode s C [] = 0 then rF1 s D else rCode s C []
theorem rF1_zero {s C : List Int} (h : rF1 s C = 0) : rCode s C [] = 0 ∧ prd s ≤ 81 := by
  unfold rF1 at h
  split at h
  · rename_i hc
    split at h
    · omega
    · exact ⟨hc, by omega⟩
  · rename_i hc
    exact absurd h hc
theorem rF2_zero {s C D : List Int} (h : rF2 s C D = 0) : rCode s C [] = 0 ∧ rF1 s D = 0 := by
  unfold rF2 at h
  split at h
  · rename_i hc
    exact ⟨hc, h⟩
  · rename_i hc
    exact absurd h hc
theorem formEnd_ev {s : List Int} (hs : isSp s = true) (L : List (List Int)) : Ev (fun k => impl_formCode.l0 k L (L.length : Int) (L.length : Int) s) (if prd s > 81 then 3 else 0) := by
  refine Ev.step (fun k => by simp only [impl_formCode.l0]; exact rfl) (Ev.iff_neg (by omega) ?_)
  refine Ev.bind (count_sp hs) ?_
  by_cases h : prd s > 81
  · simp only [if_pos h]
    exact Ev.now _
  · simp only [if_neg h]
    exact Ev.now _
theorem formStep_ev {s C : List Int} (hC : C.length ≤ 1048576) (L : List (List Int)) {n : Nat} (hn : n < L.length) (hl : L.length ≤ 10) (he : rd_L2 L (n : Int) = C) {r : Int} (hr : rCode s C [] = 0 → Ev (fun k => impl_formCode.l0 k L (L.length : Int) ((n + 1 : Nat) : Int) s) r) (hr2 : rCode s C [] ≠ 0 → r = rCode s C []) :
    Ev (fun k => impl_formCode.l0 k L (L.length : Int) (n : Int) s) r := by
  refine Ev.step (fun k => by simp only [impl_formCode.l0]; exact rfl) (Ev.iff_pos (by omega) (Ev.iff_pos (by omega) (Ev.iff_pos (by omega) ?_)))
  rw [he]
  refine Ev.bind (codeCode_ev s hC (by simp)) ?_
  by_cases h : rCode s C [] = 0
  · refine Ev.iff_pos h ?_
    rw [wrap_nat (by unfold maxLen; omega)]
    exact hr h
  · refine Ev.iff_neg h ?_
    rw [hr2 h]
    exact Ev.now _
theorem formCode1_ev (s : List Int) {C : List Int} (hC : C.length ≤ 1048576) : Ev (fun k => impl_formCode.f k s [C]) (rF1 s C) := by
  unfold impl_formCode.f
  refine formStep_ev (n := 0) hC [C] (by simp) (by simp) rfl (fun h => ?_) (fun h => by unfold rF1; rw [if_neg h])
  have := formEnd_ev (rCode_zero h).1 [C]
  unfold rF1
  rw [if_pos h]
  exact this
theorem formCode2_ev (s : List Int) {C D : List Int} (hC : C.length ≤ 1048576) (hD : D.length ≤ 1048576) : Ev (fun k => impl_formCode.f k s [C, D]) (rF2 s C D) := by
  unfold impl_formCode.f
  refine formStep_ev (n := 0) hC [C, D] (by simp) (by simp) rfl (fun h => ?_) (fun h => by unfold rF2; rw [if_neg h])
  unfold rF2
  rw [if_pos h]
  refine formStep_ev (n := 1) hD [C, D] (by simp) (by simp) rfl (fun h2 => ?_) (fun h2 => by unfold rF1; rw [if_neg h2])
  have := formEnd_ev (rCode_zero h2).1 [C, D]
  unfold rF1
  rw [if_pos h2]
  exact this
end Go.Proofs.YtnkndaapamenmaaGreat.Q
set_option linter.unusedVariables false
set_option linter.unusedSimpArgs false
namespace Go.Proofs.YtnkndaapamenmaaGreat.P
open Go.RowKit Go.Proofs.YtnkndaapamenmaaGreatW.PrintWords CC
def rTwo (s C D : List Int) : Int := if Q.rCode s C [] = 0 then Q.rCode s D [] else Q.rCode s C []
theorem bothCode_ev (s : List Int) {C D : List Int} (hC : C.length ≤ 1048576) (hD : D.length ≤ 1048576) : Ev (fun k => impl_bothCode.f k s C D) (rTwo s C D) := by
  unfold impl_bothCode.f rTwo
  refine Ev.bind (Q.codeCode_ev s hC (by decide)) ?_
  by_cases h : Q.rCode s C [] = 0
  · simp only [if_pos h]
    exact Ev.bind (Q.codeCode_ev s hD (by decide)) (Ev.now _)
  · simp only [if_neg h]
    exact Ev.now _
theorem rTwo_zero {s C D : List Int} (h : rTwo s C D = 0) : isSp s = true ∧ isC s C = true ∧ isC s D = true := by
  unfold rTwo at h
  split at h
  · rename_i h1
    have a := Q.rCode_zero h1
    have b := Q.rCode_zero h
    exact ⟨a.1, a.2.1, b.2.1⟩
  · rename_i h1
    exact absurd h h1
end Go.Proofs.YtnkndaapamenmaaGreat.P
set_option linter.unusedVariables false
set_option linter.unusedSimpArgs false
namespace Go.Proofs.YtnkndaapamenmaaGreat.P
open Go.RowKit Go.Proofs.YtnkndaapamenmaaGreatW.PrintWords Go.Proofs.YtnkndaapamenmaaGreatW.PrintLast Go.Proofs.YtnkndaapamenmaaGreatW.PrintMore CC
def incP (L : List Int) (x : Int) : List Int := L.set x.toNat (rd L x + 1)
def cin (s C d : List Int) (L : List Int) (m : Nat) : List Int := (C.take m).foldl (fun L x => incP L (ham d (dig8 s x))) L
theorem cin_succ (s C d L : List Int) {m : Nat} (h : m < C.length) : cin s C d L (m + 1) = incP (cin s C d L m) (ham d (dig8 s (rd C (m : Int)))) := by
  unfold cin
  rw [take_rdO h, List.foldl_append]
  rfl
def cout (s C : List Int) : Nat → List Int
  | 0 => List.replicate (s.length + 1) 0
  | n + 1 => cin s C (dig8 s (rd C (n : Int))) (cout s C n) C.length
theorem incP_length (L : List Int) (x : Int) : (incP L x).length = L.length := by simp [incP]
theorem cin_length (s C d L : List Int) : ∀ m, (cin s C d L m).length = L.length := by
  intro m
  unfold cin
  generalize C.take m = K
  induction K generalizing L with
  | nil => rfl
  | cons x K ih => rw [List.foldl_cons, ih, incP_length]
theorem cout_length (s C : List Int) : ∀ n, (cout s C n).length = s.length + 1
  | 0 => by simp [cout]
  | n + 1 => by rw [cout, cin_length, cout_length s C n]
def smallP (L : List Int) (b : Int) : Prop := ∀ t ∈ L, 0 ≤ t ∧ t ≤ b
theorem smallP_rd {L : List Int} {b : Int} (h : smallP L b) {x : Int} (h0 : 0 ≤ x) (h1 : x < L.length) : 0 ≤ rd L x ∧ rd L x ≤ b := by
  obtain ⟨n, rfl⟩ := Int.eq_ofNat_of_zero_le h0
  have hn : n < L.length := by omega
  have : rd L (n : Int) = L[n] := by simp [rd, List.getD_eq_getElem?_getD, hn]
  rw [this]
  exact h _ (List.getElem_mem hn)
theorem smallP_inc {L : List Int} {b : Int} (h : smallP L b) {x : Int} (h0 : 0 ≤ x) (h1 : x < L.length) : smallP (incP L x) (b + 1) := by
  intro t ht
  have hr := smallP_rd h h0 h1
  rcases List.mem_or_eq_of_mem_set ht with h' | rfl
  · have := h t h'
    omega
  · omega
def countsR (s C : List Int) : List Int × Int := if Q.rCode s C [] = 0 then (cout s C C.length, 0) else ([], Q.rCode s C [])
set_option maxHeartbeats 16000000 in
set_option maxRecDepth 100000 in
theorem counts_calls (A : Option Addr) (c : Nat) (s : List Int) (A1 : Option Addr) (c1 : Nat) (C : List Int) (w : World) (hr : Kd.C (Kd.int .i64) w A s.length s) (hc : s.length ≤ c) (hr1 : Kd.C (Kd.int .i64) w A1 C.length C) (hc1 : C.length ≤ c1) (hCl : C.length ≤ 1048576) :
    Calls Tryz.prog 19 #[.agg #[.slice A s.length c], .slice A1 C.length c1] w
      fun e w' => ∃ v, e = .returned (.tuple #[v, .int .i64 (countsR s C).2]) ∧ Kd.R (Kd.int .i64) 2 w' w.heap.size (fun _ => True) v (countsR s C).1 ∧ Below w.heap.size w w' := by
  have huS := Tryz.underlying26
  have huD := Tryz.underlying66
  have HR := Aside0.mk hr
  have HR1 := Aside0.mk hr1
  obtain ⟨kb, hbc⟩ := (Q.codeCode_ev s (c := C) (ws := []) hCl (by simp)).rounds
  have HBC := Aside0.mk hbc
  clear hr hr1 hbc
  go_enter Tryz.func19, Tryz.ntmps19
  have hcell : (w.alloc (.cells #[.slice A s.length c] 26)).heap[w.heap.size]? = some (.cells #[.slice A s.length c] 26 (0, 0)) := blk_new _ _
  have hB : Below w.heap.size w (w.alloc (.cells #[.slice A s.length c] 26)) := (Below.refl _ _).alloc (Nat.le_refl _) _
  have hcz : (w.alloc (.cells #[.slice A s.length c] 26)).cell? ⟨w.heap.size, 0, none⟩ = some (.slice A s.length c) := blk_cell hcell 0
  go_wp2_with fail
  refine (impl_codeCode.calls kb A c s A1 c1 C none 0 [] (Q.rCode s C []) _ (Kd.C_below HR.out hB) hc (Kd.C_below HR1.out hB) hc1 (Kd.C_nil _ _) (by simp) HBC.out).mono ?_
  rintro e w0 ⟨rfl, hb⟩
  have K1 := Aside0.mk (blk_below hcell hb)
  have B1 := Aside0.mk (below_then hB hB.size hb)
  clear hcell hB hb hcz
  by_cases hz : Q.rCode s C [] = 0
  · have HZ : Aside0 (countsR s C = (cout s C C.length, 0)) := ⟨by unfold countsR; rw [if_pos hz]⟩
    obtain ⟨hs, hC, _⟩ := Q.rCode_zero hz
    have HS := Aside0.mk hs
    have hC2 : C.all (isW s) = true := by rw [List.all_eq_true]; exact Q.isC_words hC
    have HC := Aside0.mk hC2
    have hl := isSp_len hs
    have hCl2 := Q.isC_len hs hC
    rw [hz]
    clear hs hC hC2 hz HBC
    have hcz : w0.cell? ⟨w.heap.size, 0, none⟩ = some (.slice A s.length c) := blk_cell K1.out 0
    have hB1 : Below w.heap.size w w0 := B1.out
    have hmk := print_make_int (P := Tryz.prog) 24 2 (.int .i64 0) 8 Tryz.underlying24 infoI rfl (by decide) ((s.length : Int) + 1) (by omega) (by omega)
    have hpl : impl_places.f s = some (s.length : Int) := by
      unfold impl_places.f
      first | rfl | (rw [wrap_id (by omega) (by omega)])
    rw [show ((s.length : Int) + 1).toNat = s.length + 1 by omega] at hmk
    have hwr : IntKind.i64.wrap ((s.length : Int) + 1) = (s.length : Int) + 1 := by
      rw [IntKind.wrap_i64]; omega
    rw [← hwr] at hmk
    clear hwr
    go_upto_region 4 with (fail)
    go_cut [7, 8] (fun v7 v8 W => ∃ A8 cap g8, v7 = .slice (some ⟨g8, 0, none⟩) (s.length + 1) (s.length + 1) ∧ v8 = .slice A8 C.length cap ∧ Aside0 (C.length ≤ cap) ∧ Aside0 (W.ownsRow w.heap.size 66 8 (.slice A8 C.length cap) C.length (flat8 (allOf s C C.length))) ∧ Aside0 (W.ownsRow w.heap.size 2 1 (.slice (some ⟨g8, 0, none⟩) (s.length + 1) (s.length + 1)) (s.length + 1) (nums .i64 (cout s C 0))) ∧ Aside0 (Below w.heap.size w W))
    case first =>
      go_region_held3 (fun w' => w'.cell? ⟨w.heap.size, 0, none⟩ = some (.slice A s.length c) ∧ Below w.heap.size w w') (first | exact ⟨hcz, below_drew hB1⟩ | exact keepS hb (by assumption) | (refine keepS ((Below.refl _ _).alloc (Nat.le_refl _) _) ?_; assumption))
        (first
          | (go_at_call 46; refine (impl_places.calls A c s (s.length : Int) _ ?k1 hc hpl).mono ?_; (case k1 => exact Kd.C_below HR.out (by first | assumption | exact (by assumption : _ ∧ Below _ _ _).2)); rintro e w' ⟨rfl, hb⟩; have hz2 := hb.size; obtain ⟨wp, hwp⟩ : ∃ wp : World, wp = w' := ⟨_, rfl⟩)
          | (go_at_call 47; refine (digitsOfAll_calls A c s A1 c1 C _ ?k1 hc ?k2 hc1 HS.out HC.out hCl).mono ?_; (case k1 => exact Kd.C_below HR.out (by first | assumption | exact (by assumption : _ ∧ Below _ _ _).2)); (case k2 => exact Kd.C_below HR1.out (by first | assumption | exact (by assumption : _ ∧ Below _ _ _).2)); rintro e w' ⟨v1, rfl, hO, hb⟩; have hz1 := hb.size))
      all_goals go_wp2
      all_goals go_meet
      all_goals
        subst hwp
        have hBB := (by assumption : _ ∧ Below w.heap.size w _).2
        have hz0 := hB1.size
        have hz3 : w0.heap.size ≤ wp.heap.size := by simpa using hz2
        obtain ⟨A8, cap, rfl, hcap⟩ : ∃ A8 cap, v1 = .slice A8 C.length cap ∧ C.length ≤ cap := by
          rcases hO.2 with ⟨hv, h⟩ | ⟨g, cap, _, h, _, _, h2, _⟩
          · exact ⟨none, 0, by rw [hv, h], by omega⟩
          · exact ⟨some ⟨g, 0, none⟩, cap, h, h2⟩
        have hrep : (List.replicate (s.length + 1) (0 : Int)) = cout s C 0 := rfl
      case rel =>
        first
          | (have hm := own_made' w' w.heap.size 2 .i64 (s.length + 1) (by omega) (by omega)
             rw [List.length_replicate, hrep] at hm
             exact ⟨A8, cap, w'.heap.size, rfl, rfl, ⟨hcap⟩, ⟨own_weaken (own_alloc hO _) (by omega)⟩, ⟨hm⟩, ⟨hBB⟩⟩)
          | (have hm := own_made' wp w.heap.size 2 .i64 (s.length + 1) (by omega) (by omega)
             rw [List.length_replicate, hrep] at hm
             exact ⟨A8, cap, wp.heap.size, rfl, rfl, ⟨hcap⟩, ⟨own_weaken hO (by simp; omega)⟩, ⟨pw_own_below hm hb⟩, ⟨hBB⟩⟩)
      case rel =>
        first
          | (have hm := own_made' w' w.heap.size 2 .i64 (s.length + 1) (by omega) (by omega)
             rw [List.length_replicate, hrep] at hm
             exact ⟨A8, cap, w'.heap.size, rfl, rfl, ⟨hcap⟩, ⟨own_weaken (own_alloc hO _) (by omega)⟩, ⟨hm⟩, ⟨hBB⟩⟩)
          | (have hm := own_made' wp w.heap.size 2 .i64 (s.length + 1) (by omega) (by omega)
             rw [List.length_replicate, hrep] at hm
             exact ⟨A8, cap, wp.heap.size, rfl, rfl, ⟨hcap⟩, ⟨own_weaken hO (by simp; omega)⟩, ⟨pw_own_below hm hb⟩, ⟨hBB⟩⟩)
    case rest =>
      obtain ⟨A8, cap, g8, rfl, rfl, HCAP, HL, HO, HB⟩ := hcut
      clear hcz hB1 hmk hpl K1 B1
      have hcap := HCAP.out
      go_wp2_with fail
      go_loopw [28] (fun i W => ∃ (n : Nat), n ≤ C.length ∧ i = .int .i64 n ∧ Aside0 (smallP (cout s C n) ((n : Int) * 1024)) ∧ Aside0 (W.ownsRow w.heap.size 66 8 (.slice A8 C.length cap) C.length (flat8 (allOf s C C.length))) ∧ Aside0 (W.ownsRow w.heap.size 2 1 (.slice (some ⟨g8, 0, none⟩) (s.length + 1) (s.length + 1)) (s.length + 1) (nums .i64 (cout s C n))) ∧ Aside0 (Below w.heap.size w W)) (fun i _ => C.length - (intOf i).toNat)
      case atStart => exact ⟨0, by omega, rfl, ⟨fun t ht => by have := List.eq_of_mem_replicate ht; omega⟩, HL, HO, HB⟩
      case round =>
        clear HL HO HB
        obtain ⟨n, hn, rfl, HSM, HL, HO, HB⟩ := hrel
        by_cases hlt : n < C.length
        · obtain ⟨g, rfl⟩ : ∃ g, A8 = some ⟨g, 0, none⟩ := by
            rcases HL.out.2 with ⟨_, h⟩ | ⟨g, cap', _, h, _⟩
            · omega
            · injection h with h1
              exact ⟨g, h1⟩
          obtain ⟨y0, y1, y2, y3, y4, y5, y6, y7, hye⟩ := eight (dig8_length s (rd C (n : Int)))
          have hge := allOf_get s C hlt
          rw [hye] at hge
          obtain ⟨k0, k1, k2, k3, k4, k5, k6, k7⟩ := row8g HL.out (allOf_len s C _) hge
          have HYE : Aside0 (cout s C (n + 1) = cin s C [y0, y1, y2, y3, y4, y5, y6, y7] (cout s C n) C.length) := ⟨by rw [cout, hye]⟩
          have HW1 := Aside0.mk (code_rdO HC.out hlt)
          have HHY := Aside0.mk hye
          clear hge hye
          go_wp2_with fail
          have HL1 := Aside0.mk (own_alloc HL.out (.cells #[.int .u8 y0, .int .u8 y1, .int .u8 y2, .int .u8 y3, .int .u8 y4, .int .u8 y5, .int .u8 y6, .int .u8 y7] 66))
          have HO1 := Aside0.mk (own_alloc HO.out (.cells #[.int .u8 y0, .int .u8 y1, .int .u8 y2, .int .u8 y3, .int .u8 y4, .int .u8 y5, .int .u8 y6, .int .u8 y7] 66))
          have HB1 := Aside0.mk (below_alloc HB.out (.cells #[.int .u8 y0, .int .u8 y1, .int .u8 y2, .int .u8 y3, .int .u8 y4, .int .u8 y5, .int .u8 y6, .int .u8 y7] 66))
          have HY1 := Aside0.mk (blk_new wr (.cells #[.int .u8 y0, .int .u8 y1, .int .u8 y2, .int .u8 y3, .int .u8 y4, .int .u8 y5, .int .u8 y6, .int .u8 y7] 66))
          clear k0 k1 k2 k3 k4 k5 k6 k7 HL HB HO
          generalize wr.alloc (.cells #[.int .u8 y0, .int .u8 y1, .int .u8 y2, .int .u8 y3, .int .u8 y4, .int .u8 y5, .int .u8 y6, .int .u8 y7] 66) = W1 at *
          generalize wr.heap.size = gd at *
          go_loopw [34] (fun i W => ∃ (m : Nat), m ≤ C.length ∧ i = .int .i64 m ∧ Aside0 (smallP (cin s C [y0, y1, y2, y3, y4, y5, y6, y7] (cout s C n) m) ((n : Int) * 1024 + m)) ∧ Aside0 (W.ownsRow w.heap.size 66 8 (.slice (some ⟨g, 0, none⟩) C.length cap) C.length (flat8 (allOf s C C.length))) ∧ Aside0 (W.ownsRow w.heap.size 2 1 (.slice (some ⟨g8, 0, none⟩) (s.length + 1) (s.length + 1)) (s.length + 1) (nums .i64 (cin s C [y0, y1, y2, y3, y4, y5, y6, y7] (cout s C n) m))) ∧ Aside0 (W.heap[gd]? = some (.cells #[.int .u8 y0, .int .u8 y1, .int .u8 y2, .int .u8 y3, .int .u8 y4, .int .u8 y5, .int .u8 y6, .int .u8 y7] 66 (0, 0))) ∧ Aside0 (Below w.heap.size w W)) (fun i _ => C.length - (intOf i).toNat)
          case atStart => exact ⟨0, by omega, rfl, ⟨by have := HSM.out; simpa [cin] using this⟩, HL1, HO1, HY1, HB1⟩
          case round =>
            clear HL1 HB1 HY1 HO1
            obtain ⟨m, hm, rfl, HS2, HL, HO, HY, HB⟩ := hrel
            by_cases hlm : m < C.length
            · obtain ⟨x0, x1, x2, x3, x4, x5, x6, x7, hxe⟩ := eight (dig8_length s (rd C (m : Int)))
              have hge := allOf_get s C hlm
              rw [hxe] at hge
              obtain ⟨k0, k1, k2, k3, k4, k5, k6, k7⟩ := row8g HL.out (allOf_len s C _) hge
              have HQ : Aside0 (cin s C [y0, y1, y2, y3, y4, y5, y6, y7] (cout s C n) (m + 1) = incP (cin s C [y0, y1, y2, y3, y4, y5, y6, y7] (cout s C n) m) (ham [y0, y1, y2, y3, y4, y5, y6, y7] [x0, x1, x2, x3, x4, x5, x6, x7])) := ⟨by rw [cin_succ s C _ _ hlm, hxe]⟩
              have hh : 0 ≤ ham [y0, y1, y2, y3, y4, y5, y6, y7] [x0, x1, x2, x3, x4, x5, x6, x7] ∧ ham [y0, y1, y2, y3, y4, y5, y6, y7] [x0, x1, x2, x3, x4, x5, x6, x7] ≤ s.length := by
                rw [← HHY.out, ← hxe, ham_dig8 hl]
                exact ⟨dist_nonneg _ _ _, dist_le _ _ _⟩
              clear hge hxe
              have hY2 := blk_alloc HY.out (.cells #[.int .u8 x0, .int .u8 x1, .int .u8 x2, .int .u8 x3, .int .u8 x4, .int .u8 x5, .int .u8 x6, .int .u8 x7] 66)
              have h0 := blk_cell hY2 0
              have h1 := blk_cell hY2 1
              have h2 := blk_cell hY2 2
              have h3 := blk_cell hY2 3
              have h4 := blk_cell hY2 4
              have h5 := blk_cell hY2 5
              have h6 := blk_cell hY2 6
              have h7 := blk_cell hY2 7
              clear hY2
              go_wp2_with fail
              refine (far_calls8 y0 y1 y2 y3 y4 y5 y6 y7 x0 x1 x2 x3 x4 x5 x6 x7 _).mono ?_
              rintro e w3 ⟨rfl, hb⟩
              have HL3 := Aside0.mk (pw_own_below (own_alloc HL.out (.cells #[.int .u8 x0, .int .u8 x1, .int .u8 x2, .int .u8 x3, .int .u8 x4, .int .u8 x5, .int .u8 x6, .int .u8 x7] 66)) hb)
              have HO3 := Aside0.mk (pw_own_below (own_alloc HO.out (.cells #[.int .u8 x0, .int .u8 x1, .int .u8 x2, .int .u8 x3, .int .u8 x4, .int .u8 x5, .int .u8 x6, .int .u8 x7] 66)) hb)
              have HY3 := Aside0.mk (blk_below (blk_alloc HY.out (.cells #[.int .u8 x0, .int .u8 x1, .int .u8 x2, .int .u8 x3, .int .u8 x4, .int .u8 x5, .int .u8 x6, .int .u8 x7] 66)) hb)
              have hB2 := below_alloc HB.out (.cells #[.int .u8 x0, .int .u8 x1, .int .u8 x2, .int .u8 x3, .int .u8 x4, .int .u8 x5, .int .u8 x6, .int .u8 x7] 66)
              have HB3 := Aside0.mk (below_then hB2 hB2.size hb)
              clear k0 k1 k2 k3 k4 k5 k6 k7 h0 h1 h2 h3 h4 h5 h6 h7 HL HY HB HO hB2 hb
              generalize ham [y0, y1, y2, y3, y4, y5, y6, y7] [x0, x1, x2, x3, x4, x5, x6, x7] = z at *
              have hlen : (cin s C [y0, y1, y2, y3, y4, y5, y6, y7] (cout s C n) m).length = s.length + 1 := by rw [cin_length, cout_length]
              have hsm := smallP_rd HS2.out (x := z) hh.1 (by rw [hlen]; omega)
              have hsi : smallP (incP (cin s C [y0, y1, y2, y3, y4, y5, y6, y7] (cout s C n) m) z) ((n : Int) * 1024 + m + 1) := smallP_inc HS2.out hh.1 (by rw [hlen]; omega)
              have HSI : Aside0 (smallP (cin s C [y0, y1, y2, y3, y4, y5, y6, y7] (cout s C n) (m + 1)) ((n : Int) * 1024 + ((m + 1 : Nat) : Int))) := ⟨by rw [HQ.out, show (n : Int) * 1024 + ((m + 1 : Nat) : Int) = (n : Int) * 1024 + m + 1 by omega]; exact hsi⟩
              obtain ⟨o1, o2⟩ := own_at HO3.out z hh.1 (by omega)
              have hst := own_store HO3.out z (rd (cin s C [y0, y1, y2, y3, y4, y5, y6, y7] (cout s C n) m) z + 1)
              have hee : (cin s C [y0, y1, y2, y3, y4, y5, y6, y7] (cout s C n) m).set z.toNat (rd (cin s C [y0, y1, y2, y3, y4, y5, y6, y7] (cout s C n) m) z + 1) = cin s C [y0, y1, y2, y3, y4, y5, y6, y7] (cout s C n) (m + 1) := by rw [HQ.out]; rfl
              rw [hee] at hst
              have HST := Aside0.mk hst
              have HL4 := Aside0.mk (own_other HL3.out hst.2 (own_type_ne HL3.out HO3.out (by decide)))
              have HB4 := Aside0.mk (pw_below_grown HB3.out _ HB3.out.size hst.2 (fun k hk => by injection hk with hk; subst hk; exact own_base HO3.out _ rfl))
              have HY4 := Aside0.mk (blk_grown HY3.out hst.2 (own_ne HO3.out HY3.out (by decide)))
              clear hst hee hsi HQ HS2 hlen
              obtain ⟨h00, h01⟩ := hh
              generalize rd (cin s C [y0, y1, y2, y3, y4, y5, y6, y7] (cout s C n) m) z = q at *
              go_wp2
              go_roundw
              case rel => exact ⟨m + 1, by omega, by go_num, HSI, HL4, ⟨HST.out.1⟩, HY4, HB4⟩
              case measure => simp [intOf]; omega
            · have hm2 : m = C.length := by omega
              subst hm2
              have HS3 : Aside0 (smallP (cout s C (n + 1)) (((n + 1 : Nat) : Int) * 1024)) := ⟨by
                rw [HYE.out]
                intro t ht
                have := HS2.out t ht
                omega⟩
              have HO3 : Aside0 (wr.ownsRow w.heap.size 2 1 (.slice (some ⟨g8, 0, none⟩) (s.length + 1) (s.length + 1)) (s.length + 1) (nums .i64 (cout s C (n + 1)))) := ⟨by rw [HYE.out]; exact HO.out⟩
              clear HS2 HO HYE
              go_wp2
              go_roundw
              case rel => exact ⟨n + 1, by omega, by go_num, HS3, HL, HO3, HB⟩
              case measure => simp [intOf]; omega
        · go_wp2
          go_ret2
          have hn2 : n = C.length := by omega
          subst hn2
          rw [HZ.out]
          exact ⟨_, rfl, Kd.R_of_own (by rw [cout_length]; exact HO.out) (fun _ _ => trivial), HB.out⟩
  · have HZ : Aside0 (countsR s C = ([], Q.rCode s C [])) := ⟨by unfold countsR; rw [if_neg hz]⟩
    clear HBC
    generalize Q.rCode s C [] = z at *
    go_wp2
    go_ret2
    rw [HZ.out]
    exact ⟨_, rfl, Kd.R_nil _ _ _ _ _, B1.out⟩
def impl_DistanceCounts.f (l0_0 l1 : List Int) : Option (List Int × Int) := if l1.length ≤ 1048576 then some (countsR l0_0 l1) else none
theorem impl_DistanceCounts.calls (A0_0 : Option Addr) (c0_0 : Nat) (l0_0 : List Int) (A1 : Option Addr) (c1 : Nat) (l1 : List Int) (r1 : List Int) (r2 : Int) (w : World) (hr0_0 : Kd.C (Kd.int .i64) w A0_0 l0_0.length l0_0) (hc0_0 : l0_0.length ≤ c0_0) (hr1 : Kd.C (Kd.int .i64) w A1 l1.length l1) (hc1 : l1.length ≤ c1) (h : impl_DistanceCounts.f l0_0 l1 = some (r1, r2)) :
    Calls Tryz.prog 19 #[.agg #[.slice A0_0 l0_0.length c0_0], .slice A1 l1.length c1] w fun e w' => ∃ v0_ : Value, e = .returned (.tuple #[v0_, .int .i64 r2]) ∧ Kd.R (Kd.int .i64) 2 w' w.heap.size (fun _ => True) v0_ r1 ∧ Below w.heap.size w w' := by
  unfold impl_DistanceCounts.f at h
  split at h
  · rename_i hl
    obtain h2 := Option.some.inj h
    have e1 : (countsR l0_0 l1).1 = r1 := by rw [h2]
    have e2 : (countsR l0_0 l1).2 = r2 := by rw [h2]
    subst e1 e2
    exact counts_calls A0_0 c0_0 l0_0 A1 c1 l1 w hr0_0 hc0_0 hr1 hc1 hl
  · cases h
end Go.Proofs.YtnkndaapamenmaaGreat.P
set_option linter.unusedVariables false
set_option linter.unusedSimpArgs false
namespace Go.Proofs.YtnkndaapamenmaaGreat.Q
open Go.RowKit Go.Proofs.YtnkndaapamenmaaGreat.P Go.Proofs.YtnkndaapamenmaaGreatW.PrintWords CC
def mk (c : List Int) (P : Nat) : List Bool := (List.range P).map fun (i : Nat) => decide ((i : Int) ∈ c)
theorem mk_length (c : List Int) (P : Nat) : (mk c P).length = P := by simp [mk]
theorem mk_rd (c : List Int) {P n : Nat} (h : n < P) : rdOf false (mk c P) (n : Int) = decide ((n : Int) ∈ c) := by
  simp [rdOf, mk, List.getD_eq_getElem?_getD, h]
theorem mk_set (c : List Int) (P : Nat) (x : Int) (h0 : 0 ≤ x) : (mk c P).set x.toNat true = mk (c ++ [x]) P := by
  apply List.ext_getElem (by simp [mk])
  intro j h1 h2
  simp only [mk, List.getElem_set, List.getElem_map, List.getElem_range]
  by_cases h : x.toNat = j
  · rw [if_pos h]
    have : (j : Int) = x := by omega
    simp [this]
  · rw [if_neg h]
    have : ¬ (j : Int) = x := by omega
    simp [this]
theorem mk_nil (P : Nat) : List.replicate P false = mk [] P := by
  rw [eq_comm, List.eq_replicate_iff]
  simp [mk]
theorem marks_l {c : List Int} {P : Nat} (hc : ∀ x ∈ c, 0 ≤ x ∧ x < P) (hl : c.length ≤ 1048576) : ∀ (m n : Nat), n + m = c.length →
    Ev (fun k => impl_marks.l0 k (mk (c.take n) P) c (c.length : Int) (n : Int)) (mk c P)
  | 0, n, hm => by
    refine Ev.step (fun k => by simp only [impl_marks.l0]; exact rfl) ?_
    refine Ev.iff_neg (by omega) ?_
    rw [List.take_of_length_le (by omega)]
    exact Ev.now _
  | m + 1, n, hm => by
    have hn : n < c.length := by omega
    have hx : 0 ≤ rd c (n : Int) ∧ rd c (n : Int) < P := by
      have : rd c (n : Int) = c[n] := by simp [rd, List.getD_eq_getElem?_getD, hn]
      rw [this]
      exact hc _ (List.getElem_mem hn)
    refine Ev.step (fun k => by simp only [impl_marks.l0]; exact rfl) ?_
    refine Ev.iff_pos (by omega) ?_
    refine Ev.iff_pos (by omega) ?_
    refine Ev.iff_pos (by omega) ?_
    refine Ev.iff_pos hx.1 ?_
    refine Ev.iff_pos (by rw [mk_length]; exact hx.2) ?_
    rw [wrap_nat (by unfold maxLen; omega), mk_set _ _ _ hx.1, ← take_rd c hn]
    exact marks_l hc hl m (n + 1) (by omega)
theorem marks_ev {s c : List Int} (hs : isSp s = true) (hc : isC s c = true) : Ev (fun k => impl_marks.f k s c) (mk c (NW s)) := by
  unfold impl_marks.f
  have hp := isSp_prd hs
  have hN := NW_eq hs
  refine Ev.bind (count_sp hs) ?_
  refine Ev.iff_pos (by omega) ?_
  refine Ev.iff_pos (by omega) ?_
  have := marks_l (c := c) (P := NW s) (fun x hx => by have := (isW_iff s x).1 (isC_words hc x hx); omega) (by have := isC_len hs hc; omega) c.length 0 (by omega)
  rw [List.take_zero, ← mk_nil] at this
  exact this
theorem rd_mem2 {l : List Int} {n : Nat} (h : n < l.length) : rd l (n : Int) ∈ l := by
  have : rd l (n : Int) = l[n] := by simp [rd, List.getD_eq_getElem?_getD, h]
  rw [this]
  exact List.getElem_mem h
theorem pw_gap {l : List Int} (h : l.Pairwise (· < ·)) {i : Nat} : ∀ (k : Nat) (hk : i + k < l.length), l[i]'(by omega) + k ≤ l[i + k]
  | 0, hk => by simp
  | k + 1, hk => by
    have ih := pw_gap h (i := i) k (by omega)
    have := List.pairwise_iff_getElem.1 h (i + k) (i + k + 1) (by omega) hk (by omega)
    have e : l[i + (k + 1)] = l[i + k + 1] := rfl
    rw [e]
    omega
theorem asc_upTo {l : List Int} (h : l.Pairwise (· < ·)) (hb : ∀ x ∈ l, 0 ≤ x ∧ x < l.length) : l = upTo l.length := by
  apply List.ext_getElem
  · rw [upTo_length]
  · intro j h1 h2
    have a := pw_gap h (i := 0) j (by omega)
    have b := pw_gap h (i := j) (l.length - 1 - j) (by omega)
    have c := hb (l[0]'(by omega)) (List.getElem_mem _)
    have d := hb (l[j + (l.length - 1 - j)]'(by omega)) (List.getElem_mem _)
    simp only [Nat.zero_add] at a
    have : (upTo l.length)[j] = (j : Int) := by simp [upTo]
    rw [this]
    omega
theorem pw_lt_of {l : List Int} (h : l.Pairwise (· ≤ ·)) (hn : l.Nodup) : l.Pairwise (· < ·) := by
  have h2 := List.Pairwise.and h hn
  exact h2.imp (fun h => by have h1 := h.1; have h3 := h.2; omega)
theorem msort_perm (l : List Int) : (msort l).Perm l := List.mergeSort_perm l _
theorem ordQ_of {p : List Int} (hb : ∀ x ∈ p, 0 ≤ x ∧ x < p.length) (hn : p.Nodup) : msort p = upTo p.length := by
  have h1 : (msort p).Nodup := (msort_perm p).nodup_iff.2 hn
  have := asc_upTo (pw_lt_of (msort_pw p) h1) (fun x hx => by
    rw [msort_mem] at hx
    rw [msort_length]
    exact hb x hx)
  rw [msort_length] at this
  exact this
theorem rd_app_left {a b : List Int} {n : Nat} (h : n < a.length) : rd (a ++ b) (n : Int) = rd a (n : Int) := by
  rw [rd_nat, rd_nat, List.getD_eq_getElem?_getD, List.getElem?_append_left h, List.getD_eq_getElem?_getD]
theorem putN_pad {p : List Int} {L : Nat} (hp : ∀ j : Nat, j < p.length → 0 ≤ rd p (j : Int) ∧ rd p (j : Int) < L) (e z : List Int) (he : e.length = L) (hpl : p.length ≤ L) (k : Nat) : ∀ n, n ≤ p.length → putN (L + k) (e ++ z) p n = putN L e p n ++ List.replicate k 0
  | 0, _ => by simp [putN]
  | n + 1, h => by
    have hb := hp n (by omega)
    rw [putN, putN, putN_pad hp e z he hpl k n (by omega), rd_app_left (by omega), List.set_append_left _ _ (by rw [putN_length]; omega)]
theorem plW_wd {s p : List Int} (hs : isSp s = true) (h : ordQ p s.length = true) (x : Int) : plW s p x = wd (ospL s p) (putN p.length (dg s x) p p.length) := by
  obtain ⟨hl, _, _, _⟩ := ordQ_facts h
  have hl8 := isSp_len hs
  have hd := dg_length s x
  unfold plW wd
  have e8 : 8 = p.length + (8 - p.length) := by omega
  rw [dig8_eq hl8, show putN 8 = putN (p.length + (8 - p.length)) from by rw [← e8], putN_pad (ordQ_rd h) (dg s x) _ (by omega) (Nat.le_refl _) (8 - p.length) p.length (Nat.le_refl _), hor_pad (by rw [putN_length, ospL_len])]
theorem specPl_l2 {s p c : List Int} (hs : isSp s = true) (h : ordQ p s.length = true) {m : Nat} (x : Int) {r : List Int × List Int} {x10 : List Int}
    (hnext : Ev (fun j => (spec_l01Word.f j (ospL s p) (putN p.length (dg s x) p p.length)).bind fun t => (spec_l01Put.f j x10 t).bind fun t2 => spec_l03Places.l1 j c p t2 (c.length : Int) (wrap64 ((m : Int) + 1)) s (ospL s p)) r) : ∀ (k n : Nat), n + k = p.length →
    Ev (fun j => spec_l03Places.l2 j c p x10 (dg s x) (putN p.length (dg s x) p n) (c.length : Int) (m : Int) (p.length : Int) (n : Int) s (ospL s p)) r
  | 0, n, hm => by
    obtain rfl : n = p.length := by omega
    refine Ev.step (fun k => by simp only [spec_l03Places.l2]; exact rfl) ?_
    refine Ev.iff_neg (by omega) ?_
    exact hnext
  | k + 1, n, hm => by
    obtain ⟨hl, _, _, _⟩ := ordQ_facts h
    have ih := specPl_l2 hs h x hnext k (n + 1) (by omega)
    have hb := ordQ_rd h n (by omega)
    have hd := dg_length s x
    have hl8 := isSp_len hs
    refine Ev.step (fun k => by simp only [spec_l03Places.l2]; exact rfl) ?_
    refine Ev.iff_pos (by omega) (Ev.iff_pos (by omega) (Ev.iff_pos (by omega) (Ev.iff_pos (by omega) (Ev.iff_pos hb.1 (Ev.iff_pos (by rw [putN_length]; exact hb.2) ?_)))))
    rw [wrap_nat (by unfold maxLen; omega)]
    exact ih
theorem specPl_l1 {s p c : List Int} (hs : isSp s = true) (h : ordQ p s.length = true) (hc : isC s c = true) : ∀ (k m : Nat), m + k = c.length →
    Ev (fun j => spec_l03Places.l1 j c p (ordL ((c.take m).map (plW s p))) (c.length : Int) (m : Int) s (ospL s p)) (ospL s p, ordL (c.map (plW s p)))
  | 0, m, hm => by
    refine Ev.step (fun k => by simp only [spec_l03Places.l1]; exact rfl) ?_
    refine Ev.iff_neg (by omega) ?_
    rw [List.take_of_length_le (by omega)]
    exact Ev.now _
  | k + 1, m, hm => by
    obtain ⟨hl, _, _, _⟩ := ordQ_facts h
    have hlt : m < c.length := by omega
    have hcl := isC_len hs hc
    have hl8 := isSp_len hs
    have ih := specPl_l1 hs h hc k (m + 1) (by omega)
    rw [take_rd8 hlt, List.map_append] at ih
    have hol := ordL_len ((c.take m).map (plW s p))
    have hl2 : (c.take m).length ≤ m := List.length_take_le _ _
    rw [List.length_map] at hol
    refine Ev.step (fun k => by simp only [spec_l03Places.l1]; exact rfl) ?_
    refine Ev.iff_pos (by omega) (Ev.iff_pos (by omega) (Ev.iff_pos (by omega) ?_))
    refine Ev.bind (l01Digits_ev hs (isC_rd hc hlt)) ?_
    refine Ev.iff_pos (by omega) (Ev.iff_pos (by omega) ?_)
    rw [Int.toNat_natCast]
    generalize hx : rd c (m : Int) = x at *
    have hdi := inR_dg (isSp_all hs) x
    have hd := dg_length s x
    have hox := ospL_isSp hs h
    refine specPl_l2 hs h x ?_ p.length 0 (by omega)
    refine Ev.bind (l01Word_ev (isSp_all hox) (isSp_len hox) (by rw [putN_length, ospL_len]) (putN_inR hs h hdi (by omega) (Nat.le_refl _))) ?_
    refine Ev.bind (l01Put_ev (ordL_pw _) (by omega) _) ?_
    rw [wrap_nat (by unfold maxLen; omega), ordL_put, ← plW_wd hs h]
    exact ih
theorem specPl_l0 {s p c : List Int} (hs : isSp s = true) (h : ordQ p s.length = true) (hc : isC s c = true) : ∀ (k m : Nat), m + k = p.length →
    Ev (fun j => spec_l03Places.l0 j c p (p.length : Int) (m : Int) s (putN p.length s p m)) (ospL s p, ordL (c.map (plW s p)))
  | 0, m, hm => by
    obtain rfl : m = p.length := by omega
    refine Ev.step (fun k => by simp only [spec_l03Places.l0]; exact rfl) ?_
    refine Ev.iff_neg (by omega) ?_
    have := specPl_l1 hs h hc c.length 0 (by omega)
    rw [List.take_zero, List.map_nil, ordL_asc List.Pairwise.nil] at this
    exact this
  | k + 1, m, hm => by
    obtain ⟨hl, _, _, _⟩ := ordQ_facts h
    have ih := specPl_l0 hs h hc k (m + 1) (by omega)
    have hb := ordQ_rd h m (by omega)
    have hl8 := isSp_len hs
    refine Ev.step (fun k => by simp only [spec_l03Places.l0]; exact rfl) ?_
    refine Ev.iff_pos (by omega) (Ev.iff_pos (by omega) (Ev.iff_pos (by omega) (Ev.iff_pos (by omega) (Ev.iff_pos hb.1 (Ev.iff_pos (by rw [putN_length]; exact hb.2) ?_)))))
    rw [wrap_nat (by unfold maxLen; omega)]
    exact ih
theorem specPl_ev {s p c : List Int} (hs : isSp s = true) (h : ordQ p s.length = true) (hc : isC s c = true) : Ev (fun j => spec_l03Places.f j s c p) (ospL s p, ordL (c.map (plW s p))) := by
  obtain ⟨hl, _, _, _⟩ := ordQ_facts h
  have hl8 := isSp_len hs
  unfold spec_l03Places.f
  refine Ev.iff_pos (by omega) (Ev.iff_pos (by omega) ?_)
  rw [Int.toNat_natCast]
  exact specPl_l0 hs h hc p.length 0 (by omega)
def shW (s : List Int) (y x : Int) : Int := hor 0 s (sum8 s (dig8 s x) (dig8 s y))
theorem shW_eq {s : List Int} (hs : isSp s = true) (y x : Int) : shW s y x = sumW s x y := hor_sum8 hs x y
theorem shifted_l {s c : List Int} (hs : isSp s = true) (hc : isC s c = true) {w : Int} (hw : isW s w = true) : ∀ (m n : Nat), n + m = c.length →
    Ev (fun k => spec_l01Shifted.l0 k c w (ordL ((c.take n).map (shW s w))) (c.length : Int) (n : Int) s) (ordL (c.map (shW s w)))
  | 0, n, hm => by
    refine Ev.step (fun k => by simp only [spec_l01Shifted.l0]; exact rfl) ?_
    refine Ev.iff_neg (by omega) ?_
    rw [List.take_of_length_le (by omega)]
    exact Ev.now _
  | m + 1, n, hm => by
    have hn : n < c.length := by omega
    have hl := isC_len hs hc
    have ih := shifted_l hs hc hw m (n + 1) (by omega)
    rw [take_rd8 hn, List.map_append] at ih
    have hol := ordL_len ((c.take n).map (shW s w))
    have hl2 : (c.take n).length ≤ n := List.length_take_le _ _
    rw [List.length_map] at hol
    refine Ev.step (fun k => by simp only [spec_l01Shifted.l0]; exact rfl) ?_
    refine Ev.iff_pos (by omega) (Ev.iff_pos (by omega) (Ev.iff_pos (by omega) ?_))
    refine Ev.bind (l01Sum_ev hs (isC_words hc _ (rd_mem2 hn)) hw) ?_
    refine Ev.bind (l01Put_ev (ordL_pw _) (by omega) _) ?_
    rw [wrap_nat (by unfold maxLen; omega), ordL_put, ← shW_eq hs]
    exact ih
theorem l01Shifted_ev {s c : List Int} (hs : isSp s = true) (hc : isC s c = true) {w : Int} (hw : isW s w = true) : Ev (fun k => spec_l01Shifted.f k s c w) (ordL (c.map (shW s w))) := by
  unfold spec_l01Shifted.f
  have := shifted_l hs hc hw c.length 0 (by omega)
  rw [List.take_zero, List.map_nil, ordL_asc List.Pairwise.nil] at this
  exact this
end Go.Proofs.YtnkndaapamenmaaGreat.Q
set_option linter.unusedVariables false
set_option linter.unusedSimpArgs false
namespace Go.Proofs.YtnkndaapamenmaaGreat.P
open Q (mk mk_length mk_rd NW NW_eq NW_le)
open Go.RowKit Go.Proofs.YtnkndaapamenmaaGreatW.PrintWords Go.Proofs.YtnkndaapamenmaaGreatW.PrintLast Go.Proofs.YtnkndaapamenmaaGreatW.PrintMore CC
set_option maxHeartbeats 1000000 in
set_option maxRecDepth 100000 in
theorem common1_calls (M : List Bool) (P g cap b ga : Nat) (x : Int) (w : World) (hM : Kd.R Kd.bool 4 w b (fun _ => True) (.slice (some ⟨g, 0, none⟩) P cap) M) (h0 : 0 ≤ x) (h1 : x < P) (hP : P ≤ 1024) (ka : w.cell? ⟨ga, 0, none⟩ = some (.slice (some ⟨g, 0, none⟩) P cap)) :
    Calls Tryz.prog 40 #[.int .i64 x, .pointer (some ⟨ga, 0, none⟩)] w
      fun e w' => e = .returned (.bool (!rdOf false M x)) ∧ Below w.heap.size w w' := by
  have hc := (Kd.R_celln false hM x h0 h1).1
  obtain ⟨n, rfl⟩ := Int.eq_ofNat_of_zero_le h0
  rw [Int.toNat_natCast] at hc
  generalize rdOf false M (n : Int) = v at *
  clear hM
  go_enter Tryz.func40, Tryz.ntmps40
  go_wp2
  go_ret
  exact ⟨rfl, Below.refl _ _⟩
def commonR (s C D : List Int) : List Int × Int := if rTwo s C D = 0 then (C.filter (fun x => decide (x ∈ D)), 0) else ([], rTwo s C D)
theorem filter_mk {s C D : List Int} (hs : isSp s = true) (hC : isC s C = true) : (C.filter fun x => !(!rdOf false (mk D (NW s)) x)) = C.filter fun x => decide (x ∈ D) := by
  apply List.filter_congr
  intro x hx
  have hw := (isW_iff s x).1 (Q.isC_words hC x hx)
  obtain ⟨n, rfl⟩ := Int.eq_ofNat_of_zero_le hw.1
  rw [mk_rd D (show n < NW s by have := NW_eq hs; omega), Bool.not_not]
set_option maxHeartbeats 3000000 in
set_option maxRecDepth 100000 in
theorem common_calls (A : Option Addr) (c : Nat) (s : List Int) (A1 : Option Addr) (c1 : Nat) (C : List Int) (A2 : Option Addr) (c2 : Nat) (D : List Int) (w : World) (hr : Kd.C (Kd.int .i64) w A s.length s) (hc : s.length ≤ c) (hr1 : Kd.C (Kd.int .i64) w A1 C.length C) (hc1 : C.length ≤ c1) (hCl : C.length ≤ 1048576) (hr2 : Kd.C (Kd.int .i64) w A2 D.length D) (hc2 : D.length ≤ c2) (hDl : D.length ≤ 1048576) :
    Calls Tryz.prog 14 #[.agg #[.slice A s.length c], .slice A1 C.length c1, .slice A2 D.length c2] w
      fun e w' => ∃ v, e = .returned (.tuple #[v, .int .i64 (commonR s C D).2]) ∧ Kd.R (Kd.int .i64) 2 w' w.heap.size (fun _ => True) v (commonR s C D).1 ∧ Below w.heap.size w w' := by
  have huS := Tryz.underlying26
  have HR := Aside0.mk hr
  have HR1 := Aside0.mk hr1
  have HR2 := Aside0.mk hr2
  obtain ⟨kb, hbc⟩ := (bothCode_ev s hCl hDl).rounds
  have HBC := Aside0.mk hbc
  clear hr hr1 hr2 hbc
  go_enter Tryz.func14, Tryz.ntmps14
  go_wp2_with fail
  have hcell : (w.alloc (.cells #[.slice A s.length c] 26)).heap[w.heap.size]? = some (.cells #[.slice A s.length c] 26 (0, 0)) := blk_new _ _
  have hB : Below w.heap.size w (w.alloc (.cells #[.slice A s.length c] 26)) := (Below.refl _ _).alloc (Nat.le_refl _) _
  refine (impl_bothCode.calls kb A c s A1 c1 C A2 c2 D (rTwo s C D) _ (Kd.C_below HR.out hB) hc (Kd.C_below HR1.out hB) hc1 (Kd.C_below HR2.out hB) hc2 HBC.out).mono ?_
  rintro e w0 ⟨rfl, hb⟩
  have K1 := Aside0.mk (blk_below hcell hb)
  have B1 := Aside0.mk (below_then hB hB.size hb)
  clear hcell hB hb
  by_cases hz : rTwo s C D = 0
  · have HZ : Aside0 (commonR s C D = (C.filter (fun x => decide (x ∈ D)), 0)) := ⟨by unfold commonR; rw [if_pos hz]⟩
    obtain ⟨hs, hC, hD⟩ := rTwo_zero hz
    have HS := Aside0.mk hs
    have HF : Aside0 ((C.filter fun x => !(!rdOf false (mk D (NW s)) x)) = C.filter fun x => decide (x ∈ D)) := ⟨filter_mk hs hC⟩
    have hCw : ∀ x ∈ C, 0 ≤ x ∧ x < (NW s : Int) := fun x hx => by have := (isW_iff s x).1 (Q.isC_words hC x hx); rw [NW_eq hs]; exact this
    have HCW := Aside0.mk hCw
    have hN := NW_le hs
    have hN1 : 1 ≤ NW s := by have := NW_eq hs; have := isSp_prd1 hs; omega
    obtain ⟨km, hkm⟩ := (Q.marks_ev hs hD).rounds
    have HM := Aside0.mk hkm
    have hml := mk_length D (NW s)
    rw [hz]
    clear hs hC hD hCw hz HBC hkm
    generalize NW s = P at *
    generalize mk D P = M at *
    have hcz : w0.cell? ⟨w.heap.size, 0, none⟩ = some (.slice A s.length c) := blk_cell K1.out 0
    go_wp2_with fail
    refine (impl_marks.calls km A c s A2 c2 D M _ (Kd.C_below HR.out B1.out) hc (Kd.C_below HR2.out B1.out) hc2 HM.out).mono ?_
    rintro e w1 ⟨v1, rfl, hR, hb⟩
    obtain ⟨g, cap, e1, hb1, hl1, _⟩ := Kd.R_form hR (by omega)
    rw [hml] at e1
    subst e1
    have B2 := Aside0.mk (below_then B1.out B1.out.size hb)
    have R1 := Aside0.mk (Kd.R_alloc hR (.cells #[.slice (some ⟨g, 0, none⟩) P cap] 54))
    clear hR hb hcz hb1 hl1
    go_wp2_with fail
    have K9 := Aside0.mk (blk_new w1 (.cells #[.slice (some ⟨g, 0, none⟩) P cap] 54))
    have B3 := Aside0.mk (below_alloc B2.out (.cells #[.slice (some ⟨g, 0, none⟩) P cap] 54))
    refine (clone_calls A1 c1 C _ (Kd.C_below HR1.out B3.out) hc1 hCl).mono ?_
    rintro e w2 ⟨v2, rfl, hR, hb⟩
    obtain ⟨A3, c3, rfl⟩ := Kd.R_slice hR
    have R2 := Aside0.mk (Kd.R_elder R1.out hR hb)
    have K10 := Aside0.mk (blk_below K9.out hb)
    have HO := Aside0.mk (own_weaken (Kd.own_of_R hR) B3.out.size)
    have HBS := Aside0.mk (Kd.R_base hR)
    have B4 := Aside0.mk (below_then B3.out B3.out.size hb)
    have hb1 : w.heap.size ≤ w1.heap.size := B2.out.size
    clear hR hb
    go_wp2_with fail
    refine («CodesInCommon$1».delete_calls (some ⟨w1.heap.size, 0, none⟩) (fun x => !rdOf false M x) w.heap.size A3 c3 C w2 HO.out hCl ?hf).mono ?_
    case hf =>
      intro x W hx hg
      have hR3 := Kd.R_grown R2.out hg (fun k hk => hk.2)
      have hcell := blk_grown K10.out hg (fun e => by have := HBS.out _ e.symm; simp at this; omega)
      exact common1_calls M P g cap _ w1.heap.size x W (Kd.R_mono hR3 (fun _ _ => trivial)) (HCW.out x hx).1 (HCW.out x hx).2 hN (blk_cell hcell 0)
    rintro e w3 ⟨v3, rfl, hR, hg⟩
    have R3 := Aside0.mk hR
    have B5 := Aside0.mk (pw_below_grown B4.out _ B4.out.size hg (fun k hk => by have := HBS.out k hk; simp at this; omega))
    clear hR hg
    go_wp2
    go_ret2
    rw [HZ.out]
    refine ⟨_, rfl, ?_, B5.out⟩
    have := R3.out
    rw [HF.out] at this
    exact this
  · have HZ : Aside0 (commonR s C D = ([], rTwo s C D)) := ⟨by unfold commonR; rw [if_neg hz]⟩
    clear HBC
    generalize rTwo s C D = z at *
    go_wp2
    go_ret2
    rw [HZ.out]
    exact ⟨_, rfl, Kd.R_nil _ _ _ _ _, B1.out⟩
def impl_CodesInCommon.f (l0_0 l1 l2 : List Int) : Option (List Int × Int) := if l1.length ≤ 1048576 ∧ l2.length ≤ 1048576 then some (commonR l0_0 l1 l2) else none
theorem impl_CodesInCommon.calls (A0_0 : Option Addr) (c0_0 : Nat) (l0_0 : List Int) (A1 : Option Addr) (c1 : Nat) (l1 : List Int) (A2 : Option Addr) (c2 : Nat) (l2 : List Int) (r1 : List Int) (r2 : Int) (w : World) (hr0_0 : Kd.C (Kd.int .i64) w A0_0 l0_0.length l0_0) (hc0_0 : l0_0.length ≤ c0_0) (hr1 : Kd.C (Kd.int .i64) w A1 l1.length l1) (hc1 : l1.length ≤ c1) (hr2 : Kd.C (Kd.int .i64) w A2 l2.length l2) (hc2 : l2.length ≤ c2) (h : impl_CodesInCommon.f l0_0 l1 l2 = some (r1, r2)) :
    Calls Tryz.prog 14 #[.agg #[.slice A0_0 l0_0.length c0_0], .slice A1 l1.length c1, .slice A2 l2.length c2] w fun e w' => ∃ v0_ : Value, e = .returned (.tuple #[v0_, .int .i64 r2]) ∧ Kd.R (Kd.int .i64) 2 w' w.heap.size (fun _ => True) v0_ r1 ∧ Below w.heap.size w w' := by
  unfold impl_CodesInCommon.f at h
  split at h
  · rename_i hl
    have h2 := Option.some.inj h
    have e1 : (commonR l0_0 l1 l2).1 = r1 := by rw [h2]
    have e2 : (commonR l0_0 l1 l2).2 = r2 := by rw [h2]
    subst e1 e2
    exact common_calls A0_0 c0_0 l0_0 A1 c1 l1 A2 c2 l2 w hr0_0 hc0_0 hr1 hc1 hl.1 hr2 hc2 hl.2
  · cases h
end Go.Proofs.YtnkndaapamenmaaGreat.P
