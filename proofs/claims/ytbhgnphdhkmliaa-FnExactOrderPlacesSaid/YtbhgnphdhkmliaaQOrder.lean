/- Orders: what the reference's l03Order answers. -/
import Derived.Test.YtbhgnphdhkmliaaQPut
import Derived.Test.YtbhgnphdhkmliaaQGiven
import Derived.Test.YtbhgnphdhkmliaaHIsOrder
import Derived.Test.YtbhgnphdhkmliaaFspecl03Order
set_option linter.unusedVariables false
set_option linter.unusedSimpArgs false
namespace Go.Proofs.Ytbhgnphdhkmliaa.Q
open Go.RowKit Go.Proofs.Ytbhgnphdhkmliaa.P Go.Proofs.YtbhgnphdhkmliaaW.PrintWords CC

theorem rd_mem2 {l : List Int} {n : Nat} (h : n < l.length) : rd l (n : Int) ∈ l := by
  have : rd l (n : Int) = l[n] := by simp [rd, List.getD_eq_getElem?_getD, h]
  rw [this]
  exact List.getElem_mem h
theorem pw_gap {l : List Int} (h : l.Pairwise (· < ·)) {i : Nat} : ∀ (k : Nat) (hk : i + k < l.length), l[i]'(by omega) + k ≤ l[i + k]
  | 0, hk => by simp
  | k + 1, hk => by
    have ih := pw_gap h (i := i) k (by omega)
    have := List.pairwise_iff_getElem.1 h (i + k) (i + k + 1) (by omega) hk (by omega)
    have e : l[i + (k + 1)] = l[i + k + 1] := rfl
    rw [e]
    omega
theorem asc_upTo {l : List Int} (h : l.Pairwise (· < ·)) (hb : ∀ x ∈ l, 0 ≤ x ∧ x < l.length) : l = upTo l.length := by
  apply List.ext_getElem
  · rw [upTo_length]
  · intro j h1 h2
    have a := pw_gap h (i := 0) j (by omega)
    have b := pw_gap h (i := j) (l.length - 1 - j) (by omega)
    have c := hb (l[0]'(by omega)) (List.getElem_mem _)
    have d := hb (l[j + (l.length - 1 - j)]'(by omega)) (List.getElem_mem _)
    simp only [Nat.zero_add] at a
    have : (upTo l.length)[j] = (j : Int) := by simp [upTo]
    rw [this]
    omega
theorem pw_lt_of {l : List Int} (h : l.Pairwise (· ≤ ·)) (hn : l.Nodup) : l.Pairwise (· < ·) := by
  have h2 := List.Pairwise.and h hn
  exact h2.imp (fun h => by have h1 := h.1; have h3 := h.2; omega)
theorem msort_perm (l : List Int) : (msort l).Perm l := List.mergeSort_perm l _
theorem ordQ_of {p : List Int} (hb : ∀ x ∈ p, 0 ≤ x ∧ x < p.length) (hn : p.Nodup) : msort p = upTo p.length := by
  have h1 : (msort p).Nodup := (msort_perm p).nodup_iff.2 hn
  have := asc_upTo (pw_lt_of (msort_pw p) h1) (fun x hx => by
    rw [msort_mem] at hx
    rw [msort_length]
    exact hb x hx)
  rw [msort_length] at this
  exact this
theorem ordQ_inv {p : List Int} {n : Int} (h : ordQ p n = true) : (∀ x ∈ p, 0 ≤ x ∧ x < n) ∧ p.Nodup := by
  unfold ordQ at h
  rw [Bool.and_eq_true, decide_eq_true_eq, decide_eq_true_eq] at h
  constructor
  · intro x hx
    have : x ∈ msort p := (msort_mem p x).2 hx
    rw [h.1] at this
    simp only [upTo, List.mem_map, List.mem_range] at this
    obtain ⟨i, hi, e⟩ := this
    omega
  · have h1 : (msort p).Nodup := by
      rw [h.1]
      unfold upTo
      rw [List.nodup_iff_pairwise_ne, List.pairwise_map]
      exact (List.nodup_range).imp (fun h e => h (by omega))
    exact (msort_perm p).nodup_iff.1 h1
def mkO (c : List Int) (P : Nat) : List Bool := (List.range P).map fun (i : Nat) => decide ((i : Int) ∈ c)
theorem mkO_length (c : List Int) (P : Nat) : (mkO c P).length = P := by simp [mkO]
theorem mkO_rd (c : List Int) {P n : Nat} (h : n < P) : rdOf false (mkO c P) (n : Int) = decide ((n : Int) ∈ c) := by
  simp [rdOf, mkO, List.getD_eq_getElem?_getD, h]
theorem mkO_set (c : List Int) (P : Nat) (x : Int) (h0 : 0 ≤ x) : (mkO c P).set x.toNat true = mkO (c ++ [x]) P := by
  apply List.ext_getElem (by simp [mkO])
  intro j h1 h2
  simp only [mkO, List.getElem_set, List.getElem_map, List.getElem_range]
  by_cases h : x.toNat = j
  · rw [if_pos h]
    have : (j : Int) = x := by omega
    simp [this]
  · rw [if_neg h]
    have : ¬ (j : Int) = x := by omega
    simp [this]
theorem mkO_nil (P : Nat) : List.replicate P false = mkO [] P := by
  rw [eq_comm, List.eq_replicate_iff]
  simp [mkO]
theorem l03Order_l {p : List Int} {N : Nat} (hN : N ≤ 8) (hl : p.length ≤ 1048576) : ∀ (k m : Nat), m + k = p.length → (∀ x ∈ p.take m, 0 ≤ x ∧ x < (N : Int)) → (p.take m).Nodup →
    Ev (fun j => spec_l03Order.l0 j p (N : Int) (mkO (p.take m) N) (m : Int)) (ordQ p (N : Int))
  | 0, m, hm, hb, hd => by
    rw [List.take_of_length_le (by omega)] at hb hd
    refine Ev.step (fun k => by simp only [spec_l03Order.l0]; exact rfl) ?_
    refine Ev.iff_neg (by omega) ?_
    have e : ordQ p (N : Int) = ((p.length : Int) == (N : Int)) := by
      unfold ordQ
      by_cases h : (p.length : Int) = (N : Int)
      · rw [ordQ_of (fun x hx => by have := hb x hx; omega) hd]
        simp [h]
      · have h2 : ((p.length : Int) == (N : Int)) = false := by simpa using h
        rw [h2, decide_eq_false h, Bool.and_false]
    rw [e]
    exact Ev.now _
  | k + 1, m, hm, hb, hd => by
    have hn : m < p.length := by omega
    have ht := take_rd8 hn
    refine Ev.step (fun k => by simp only [spec_l03Order.l0]; exact rfl) ?_
    have e1 : wrap64 ((N : Int) - 1) = (N : Int) - 1 := wrap_id (by omega) (by omega)
    refine Ev.iff_pos (by omega) (Ev.iff_pos (by omega) ?_)
    rw [e1, wrap_nat (by unfold maxLen; omega)]
    refine Ev.bindc (l01In_eq _ _ _) ?_
    by_cases h : 0 ≤ rd p (m : Int) ∧ rd p (m : Int) ≤ (N : Int) - 1
    · refine Ev.iff_pos (by rw [decide_eq_true h]) (Ev.iff_pos h.1 (Ev.iff_pos (by rw [mkO_length]; omega) ?_))
      have hrd : rdOf false (mkO (p.take m) N) (rd p (m : Int)) = decide (rd p (m : Int) ∈ p.take m) := by
        obtain ⟨y, hy⟩ := Int.eq_ofNat_of_zero_le h.1
        rw [hy]
        exact mkO_rd _ (by omega)
      rw [hrd]
      by_cases hmem : rd p (m : Int) ∈ p.take m
      · refine Ev.iff_pos (by simpa using hmem) ?_
        have hf : ordQ p (N : Int) = false := by
          rw [← Bool.not_eq_true]
          intro ho
          have hnd := (ordQ_inv ho).2
          have : (p.take (m + 1)).Nodup := hnd.sublist (List.take_sublist _ _)
          rw [ht, List.nodup_append] at this
          exact this.2.2 _ hmem _ (by simp) rfl
        rw [hf]
        exact Ev.now _
      · refine Ev.iff_neg (by simpa using hmem) ?_
        rw [mkO_set _ _ _ h.1, ← ht]
        refine l03Order_l hN hl k (m + 1) (by omega) (fun x hx => ?_) ?_
        · rw [ht, List.mem_append, List.mem_singleton] at hx
          rcases hx with hx | rfl
          · exact hb x hx
          · omega
        · rw [ht, List.nodup_append]
          refine ⟨hd, by simp, fun a ha b hbb e => ?_⟩
          rw [List.mem_singleton] at hbb
          subst hbb
          subst e
          exact hmem ha
    · refine Ev.iff_neg (by rw [decide_eq_false h]; simp) ?_
      have hf : ordQ p (N : Int) = false := by
        rw [← Bool.not_eq_true]
        intro ho
        have := (ordQ_inv ho).1 _ (rd_mem2 hn)
        omega
      rw [hf]
      exact Ev.now _
theorem l03Order_ev {p : List Int} {n : Int} (h0 : 0 ≤ n) (h1 : n ≤ 8) (hl : p.length ≤ 1048576) : Ev (fun k => spec_l03Order.f k p n) (ordQ p n) := by
  obtain ⟨N, rfl⟩ := Int.eq_ofNat_of_zero_le h0
  unfold spec_l03Order.f
  refine Ev.iff_pos h0 (Ev.iff_pos (by omega) ?_)
  have := l03Order_l (p := p) (N := N) (by omega) hl p.length 0 (by omega) (by simp) (by simp)
  rw [Int.toNat_natCast, mkO_nil]
  simpa using this
end Go.Proofs.Ytbhgnphdhkmliaa.Q
