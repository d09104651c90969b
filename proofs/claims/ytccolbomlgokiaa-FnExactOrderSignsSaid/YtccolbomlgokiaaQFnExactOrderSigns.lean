/- The plain law of OrderSigns: the program's and the reference's OrderSigns answer alike. -/
import Derived.Test.YtccolbomlgokiaaQBase
import Derived.Test.YtccolbomlgokiaaAsc
import Derived.Test.YtccolbomlgokiaaFspecl01Put
import Derived.Test.YtccolbomlgokiaaQWord0
import Derived.Test.YtccolbomlgokiaaHDig
import Derived.Test.YtccolbomlgokiaaFspecl01Word
import Derived.Test.YtccolbomlgokiaaFspecl01Digits
import Derived.Test.YtccolbomlgokiaaQGiven
import Derived.Test.YtccolbomlgokiaaHOrder
import Derived.Test.YtccolbomlgokiaaFspecOrderSigns
import Derived.Test.YtccolbomlgokiaaFspecl03Order
import Derived.Test.YtccolbomlgokiaaFspecl03Place
import Derived.Test.YtccolbomlgokiaaFlawsFnExactOrderSigns
set_option linter.unusedVariables false
set_option linter.unusedSimpArgs false
namespace Go.Proofs.Ytccolbomlgokiaa.Q
open Go.RowKit Go.Proofs.Ytccolbomlgokiaa.P Go.Proofs.YtccolbomlgokiaaW.PrintWords CC

theorem l01Word_l (s d : List Int) (hs : s.all sizeOk = true) (hl : s.length ≤ 8) (hd : d.length = s.length) : ∀ (m n : Nat) (a : Int), n + m = s.length → 0 ≤ a → a + 1 ≤ 4 ^ n → inR (s.drop n) (d.drop n) = true →
    Ev (fun k => spec_l01Word.l0 k d a (n : Int) s) (hor a (s.drop n) (d.drop n))
  | 0, n, a, hm, h0, h1, hr => by
    refine Ev.step (f := fun _ => some a) (fun k => ?_) ?_
    · simp only [spec_l01Word.l0]
      rw [if_neg (by omega)]
    · rw [drop_all (by omega)]
      exact Ev.now a
  | m + 1, n, a, hm, h0, h1, hr => by
    have hn : n < s.length := by omega
    have hn2 : n < d.length := by omega
    rw [drop_cons s hn, drop_cons d hn2] at hr ⊢
    simp only [inR, Bool.and_eq_true, decide_eq_true_eq] at hr
    obtain ⟨e, b0, b1⟩ := hor_step (n := n) (by omega) (all_rd hs hn) h0 h1 hr.1.1 hr.1.2
    refine Ev.step (f := fun k => spec_l01Word.l0 k d (a * rd s (n : Int) + rd d (n : Int)) ((n + 1 : Nat) : Int) s) (fun k => ?_) ?_
    · simp only [spec_l01Word.l0]
      rw [if_pos (by omega), if_pos (by omega), if_pos (by omega), e, wrap_nat (by unfold maxLen; omega)]
    · exact l01Word_l s d hs hl hd m (n + 1) _ (by omega) b0 b1 hr.2

theorem l01Word_ev {s d : List Int} (hs : s.all sizeOk = true) (hl : s.length ≤ 8) (hd : d.length = s.length) (hr : inR s d = true) : Ev (fun k => spec_l01Word.f k s d) (wd s d) := by
  unfold spec_l01Word.f wd
  simpa using l01Word_l s d hs hl hd s.length 0 0 (by omega) (by omega) (by simp) (by simpa using hr)

theorem l01Digits_l {s : List Int} (hs : s.all sizeOk = true) (hl : s.length ≤ 8) : ∀ (n : Nat) (u : Int) (ar : List Int), n ≤ s.length → ar.length = s.length → 0 ≤ u → u ≤ 1024 →
    Ev (fun k => spec_l01Digits.l0 k u ar ((n : Int) - 1) s) (dloop s n u ar)
  | 0, u, ar, _, _, _, _ => by
    refine Ev.step (f := fun k => some ar) (fun k => ?_) (Ev.now _)
    simp only [spec_l01Digits.l0]
    rw [if_neg (by omega)]
  | n + 1, u, ar, hn, ha, u0, u1 => by
    have hq := all_rd hs (show n < s.length by omega)
    obtain ⟨b0, b1, b2, b3⟩ := div_bounds u0 u1 hq
    have e : ((n + 1 : Nat) : Int) - 1 = (n : Int) := by omega
    rw [e]
    refine Ev.step (fun k => by simp only [spec_l01Digits.l0]; exact rfl) ?_
    refine Ev.iff_pos (by omega) (Ev.iff_pos (by omega) (Ev.iff_pos (by omega) (Ev.iff_neg (by omega) (Ev.iff_pos (by omega) ?_))))
    rw [b2, b3, pred_nat n (by omega), Int.toNat_natCast]
    exact l01Digits_l hs hl n _ _ (by omega) (by simpa using ha) b0 b1

theorem l01Digits_ev {s : List Int} (hs : isSp s = true) {w : Int} (hw : isW s w = true) : Ev (fun k => spec_l01Digits.f k s w) (dg s w) := by
  have hl := isSp_len hs
  obtain ⟨w0, w1⟩ := isW_b hs hw
  unfold spec_l01Digits.f
  refine Ev.iff_pos (by omega) (Ev.iff_pos (by omega) ?_)
  have e : wrap64 ((s.length : Int) - 1) = (s.length : Int) - 1 := wrap_id (by omega) (by omega)
  rw [e]
  have := l01Digits_l (isSp_all hs) hl s.length w (List.replicate ((s.length : Int)).toNat 0) (Nat.le_refl _) (by simp) w0 w1
  rw [dloop_eq s s.length w _ (Nat.le_refl _) (by simp)] at this
  simpa [dg] using this

/-- A list told place by place. -/
def genL (g : Nat → Int) (n : Nat) : List Int := (List.range n).map g
theorem genL_length (g : Nat → Int) (n : Nat) : (genL g n).length = n := by simp [genL]
theorem genL_succ (g : Nat → Int) (n : Nat) : genL g (n + 1) = genL g n ++ [g n] := by simp [genL, List.range_succ]
theorem genL_rd (g : Nat → Int) {n k : Nat} (h : k < n) : rd (genL g n) (k : Int) = g k := by simp [rd, genL, List.getD_eq_getElem?_getD, h]
/-- One more place of a list is told anew. -/
theorem genL_set {g : Nat → Int} {n : Nat} {d : List Int} (h : n < d.length) : (genL g n ++ d.drop n).set n (g n) = genL g (n + 1) ++ d.drop (n + 1) := by
  rw [List.set_append_right _ _ (by rw [genL_length]; exact Nat.le_refl _), genL_length, Nat.sub_self, genL_succ, List.append_assoc]
  congr 1
  rw [List.drop_eq_getElem_cons h]
  rfl
theorem genL_old {g : Nat → Int} {n : Nat} {d : List Int} (h : n < d.length) : rd (genL g n ++ d.drop n) (n : Int) = rd d (n : Int) := by
  rw [rd_nat, rd_nat, List.getD_eq_getElem?_getD, List.getElem?_append_right (by rw [genL_length]; exact Nat.le_refl _), genL_length, Nat.sub_self, List.getElem?_drop]
  simp [List.getD_eq_getElem?_getD]
theorem genL_congr {g h : Nat → Int} {n : Nat} (e : ∀ k, k < n → g k = h k) : genL g n = genL h n := by
  unfold genL
  apply List.map_congr_left
  intro k hk
  exact e k (List.mem_range.1 hk)
theorem genL_inR {s : List Int} {g : Nat → Int} (h : ∀ k, k < s.length → 0 ≤ g k ∧ g k < rd s (k : Int)) : inR s (genL g s.length) = true := by
  refine inR_of _ _ fun k h1 h2 => ?_
  rw [genL_rd g h1]
  exact h k h1
theorem ordL_of {R l : List Int} (hR : R.Pairwise (· < ·)) (hm : ∀ y, y ∈ R ↔ y ∈ l) : R = ordL l := asc_ext hR (ordL_pw l) (fun y => by rw [hm, ordL_mem])
theorem ordL_put (L : List Int) (x : Int) : ordL (ordL L ++ [x]) = ordL (L ++ [x]) := ordL_of (ordL_pw _) (fun y => by rw [ordL_mem, List.mem_append, List.mem_append, ordL_mem])
theorem ordL_asc {l : List Int} (h : l.Pairwise (· < ·)) : ordL l = l := (ordL_of h (fun _ => Iff.rfl)).symm
theorem asc_pw : ∀ {l : List Int}, asc l = true → l.Pairwise (· < ·)
  | [], _ => List.Pairwise.nil
  | [a], _ => by simp
  | a :: b :: t, h => by
    simp only [asc, Bool.and_eq_true, decide_eq_true_eq] at h
    have ih := asc_pw h.2
    rw [List.pairwise_cons]
    refine ⟨fun y hy => ?_, ih⟩
    rcases List.mem_cons.1 hy with rfl | hy
    · exact h.1
    · have := (List.pairwise_cons.1 ih).1 y hy
      omega
theorem l01Own_eq (l : List Int) (hl : l.length ≤ 1048576) : spec_l01Own.f l = some l := by
  unfold spec_l01Own.f
  simp only [Option.bind_some, List.length_nil, List.nil_append]
  rw [if_pos (by omega)]
theorem mem_take_drop {l : List Int} (n : Nat) (y : Int) : y ∈ l.take n ∨ y ∈ l.drop n ↔ y ∈ l := by
  rw [← List.mem_append, List.take_append_drop]
theorem put_pw {l : List Int} (h : l.Pairwise (· < ·)) {x : Int} {n : Nat} (h1 : ∀ y ∈ l.take n, y < x) (h2 : ∀ y ∈ l.drop n, x < y) : (l.take n ++ [x] ++ l.drop n).Pairwise (· < ·) := by
  rw [← List.take_append_drop n l, List.pairwise_append] at h
  rw [List.append_assoc, List.pairwise_append]
  refine ⟨h.1, ?_, fun a ha b hb => ?_⟩
  · rw [List.singleton_append, List.pairwise_cons]
    exact ⟨h2, h.2.1⟩
  · rcases List.mem_append.1 hb with hb | hb
    · rw [List.mem_singleton] at hb
      subst hb
      exact h1 a ha
    · exact h.2.2 a ha b hb
theorem put_eq {l : List Int} (h : l.Pairwise (· < ·)) {x : Int} {n : Nat} (h1 : ∀ y ∈ l.take n, y < x) (h2 : ∀ y ∈ l.drop n, x < y) : l.take n ++ [x] ++ l.drop n = ordL (l ++ [x]) :=
  ordL_of (put_pw h h1 h2) (fun y => by
    simp only [List.mem_append]
    have := mem_take_drop (l := l) n y
    constructor
    · rintro ((h | h) | h)
      · exact .inl (this.1 (.inl h))
      · exact .inr h
      · exact .inl (this.1 (.inr h))
    · rintro (h | h)
      · rcases this.2 h with h | h
        · exact .inl (.inl h)
        · exact .inr h
      · exact .inl (.inr h))
theorem l01Put_l {l : List Int} (h : l.Pairwise (· < ·)) (hl : l.length ≤ 1048576) (x : Int) : ∀ n, n ≤ l.length → (∀ y ∈ l.drop n, x < y) → Ev (fun k => spec_l01Put.l0 k l x (n : Int)) (ordL (l ++ [x]))
  | 0, hn, hd => by
    refine Ev.step (fun k => by simp only [spec_l01Put.l0]; exact rfl) ?_
    refine Ev.iff_neg (by omega) (Ev.iff_pos (by omega) (Ev.iff_pos (by omega) ?_))
    refine Ev.bindc (l01Own_eq _ (by simp)) ?_
    refine Ev.iff_pos (by simp) ?_
    refine Ev.bindc rfl (Ev.bindc rfl ?_)
    refine Ev.iff_pos (by simp; omega) ?_
    have := put_eq h (x := x) (n := 0) (by simp) hd
    rw [← this]
    exact Ev.now _
  | n + 1, hn, hd => by
    have e1 : wrap64 (((n + 1 : Nat) : Int) - 1) = (n : Int) := by rw [wrap_id (by omega) (by omega)]; omega
    have hdc := drop_cons l (show n < l.length by omega)
    have htk := take_rd8 (d := l) (show n < l.length by omega)
    refine Ev.step (fun k => by simp only [spec_l01Put.l0]; exact rfl) ?_
    rw [e1]
    refine Ev.iff_pos (by omega) (Ev.iff_pos (by omega) (Ev.iff_pos (by omega) ?_))
    by_cases h1 : rd l (n : Int) > x
    · refine Ev.iff_pos h1 ?_
      refine l01Put_l h hl x n (by omega) (fun y hy => ?_)
      rw [hdc] at hy
      rcases List.mem_cons.1 hy with rfl | hy
      · exact h1
      · exact hd y hy
    · refine Ev.iff_neg h1 ?_
      by_cases h2 : rd l (n : Int) = x
      · refine Ev.iff_pos h2 ?_
        have hm : x ∈ l := by
          rw [← mem_take_drop n, hdc, h2]
          simp
        have : ordL (l ++ [x]) = l := (ordL_of h (fun y => by
          rw [List.mem_append, List.mem_singleton]
          constructor
          · exact .inl
          · rintro (h | rfl)
            · exact h
            · exact hm)).symm
        rw [this]
        exact Ev.now _
      · refine Ev.iff_neg h2 (Ev.iff_pos (by omega) (Ev.iff_pos (by omega) ?_))
        have htl : (l.take (n + 1)).length ≤ n + 1 := List.length_take_le _ _
        rw [Int.toNat_natCast]
        refine Ev.bindc (l01Own_eq _ (by omega)) ?_
        refine Ev.iff_pos (by omega) ?_
        refine Ev.bindc rfl (Ev.bindc rfl ?_)
        refine Ev.iff_pos (by rw [List.length_append, List.length_drop, List.length_singleton]; omega) ?_
        have hp : ∀ y ∈ l.take (n + 1), y < x := fun y hy => by
          have hpw := h
          rw [← List.take_append_drop (n + 1) l, List.pairwise_append, htk, List.pairwise_append] at hpw
          rw [htk, List.mem_append, List.mem_singleton] at hy
          rcases hy with hy | rfl
          · have := hpw.1.2.2 y hy (rd l (n : Int)) (by simp)
            omega
          · omega
        rw [← put_eq h hp hd]
        exact Ev.now _
theorem l01Put_ev {l : List Int} (h : l.Pairwise (· < ·)) (hl : l.length ≤ 1048576) (x : Int) : Ev (fun k => spec_l01Put.f k l x) (ordL (l ++ [x])) := by
  unfold spec_l01Put.f
  exact l01Put_l h hl x l.length (Nat.le_refl _) (by simp)

theorem rd_mem2 {l : List Int} {n : Nat} (h : n < l.length) : rd l (n : Int) ∈ l := by
  have : rd l (n : Int) = l[n] := by simp [rd, List.getD_eq_getElem?_getD, h]
  rw [this]
  exact List.getElem_mem h
theorem pw_gap {l : List Int} (h : l.Pairwise (· < ·)) {i : Nat} : ∀ (k : Nat) (hk : i + k < l.length), l[i]'(by omega) + k ≤ l[i + k]
  | 0, hk => by simp
  | k + 1, hk => by
    have ih := pw_gap h (i := i) k (by omega)
    have := List.pairwise_iff_getElem.1 h (i + k) (i + k + 1) (by omega) hk (by omega)
    have e : l[i + (k + 1)] = l[i + k + 1] := rfl
    rw [e]
    omega
theorem asc_upTo {l : List Int} (h : l.Pairwise (· < ·)) (hb : ∀ x ∈ l, 0 ≤ x ∧ x < l.length) : l = upTo l.length := by
  apply List.ext_getElem
  · rw [upTo_length]
  · intro j h1 h2
    have a := pw_gap h (i := 0) j (by omega)
    have b := pw_gap h (i := j) (l.length - 1 - j) (by omega)
    have c := hb (l[0]'(by omega)) (List.getElem_mem _)
    have d := hb (l[j + (l.length - 1 - j)]'(by omega)) (List.getElem_mem _)
    simp only [Nat.zero_add] at a
    have : (upTo l.length)[j] = (j : Int) := by simp [upTo]
    rw [this]
    omega
theorem pw_lt_of {l : List Int} (h : l.Pairwise (· ≤ ·)) (hn : l.Nodup) : l.Pairwise (· < ·) := by
  have h2 := List.Pairwise.and h hn
  exact h2.imp (fun h => by have h1 := h.1; have h3 := h.2; omega)
theorem msort_perm (l : List Int) : (msort l).Perm l := List.mergeSort_perm l _
theorem ordQ_of {p : List Int} (hb : ∀ x ∈ p, 0 ≤ x ∧ x < p.length) (hn : p.Nodup) : msort p = upTo p.length := by
  have h1 : (msort p).Nodup := (msort_perm p).nodup_iff.2 hn
  have := asc_upTo (pw_lt_of (msort_pw p) h1) (fun x hx => by
    rw [msort_mem] at hx
    rw [msort_length]
    exact hb x hx)
  rw [msort_length] at this
  exact this
theorem ordQ_inv {p : List Int} {n : Int} (h : ordQ p n = true) : (∀ x ∈ p, 0 ≤ x ∧ x < n) ∧ p.Nodup := by
  unfold ordQ at h
  rw [Bool.and_eq_true, decide_eq_true_eq, decide_eq_true_eq] at h
  constructor
  · intro x hx
    have : x ∈ msort p := (msort_mem p x).2 hx
    rw [h.1] at this
    simp only [upTo, List.mem_map, List.mem_range] at this
    obtain ⟨i, hi, e⟩ := this
    omega
  · have h1 : (msort p).Nodup := by
      rw [h.1]
      unfold upTo
      rw [List.nodup_iff_pairwise_ne, List.pairwise_map]
      exact (List.nodup_range).imp (fun h e => h (by omega))
    exact (msort_perm p).nodup_iff.1 h1
def mkO (c : List Int) (P : Nat) : List Bool := (List.range P).map fun (i : Nat) => decide ((i : Int) ∈ c)
theorem mkO_length (c : List Int) (P : Nat) : (mkO c P).length = P := by simp [mkO]
theorem mkO_rd (c : List Int) {P n : Nat} (h : n < P) : rdOf false (mkO c P) (n : Int) = decide ((n : Int) ∈ c) := by
  simp [rdOf, mkO, List.getD_eq_getElem?_getD, h]
theorem mkO_set (c : List Int) (P : Nat) (x : Int) (h0 : 0 ≤ x) : (mkO c P).set x.toNat true = mkO (c ++ [x]) P := by
  apply List.ext_getElem (by simp [mkO])
  intro j h1 h2
  simp only [mkO, List.getElem_set, List.getElem_map, List.getElem_range]
  by_cases h : x.toNat = j
  · rw [if_pos h]
    have : (j : Int) = x := by omega
    simp [this]
  · rw [if_neg h]
    have : ¬ (j : Int) = x := by omega
    simp [this]
theorem mkO_nil (P : Nat) : List.replicate P false = mkO [] P := by
  rw [eq_comm, List.eq_replicate_iff]
  simp [mkO]
theorem l03Order_l {p : List Int} {N : Nat} (hN : N ≤ 4) (hl : p.length ≤ 1048576) : ∀ (k m : Nat), m + k = p.length → (∀ x ∈ p.take m, 0 ≤ x ∧ x < (N : Int)) → (p.take m).Nodup →
    Ev (fun j => spec_l03Order.l0 j p (N : Int) (mkO (p.take m) N) (m : Int)) (ordQ p (N : Int))
  | 0, m, hm, hb, hd => by
    rw [List.take_of_length_le (by omega)] at hb hd
    refine Ev.step (fun k => by simp only [spec_l03Order.l0]; exact rfl) ?_
    refine Ev.iff_neg (by omega) ?_
    have e : ordQ p (N : Int) = ((p.length : Int) == (N : Int)) := by
      unfold ordQ
      by_cases h : (p.length : Int) = (N : Int)
      · rw [ordQ_of (fun x hx => by have := hb x hx; omega) hd]
        simp [h]
      · have h2 : ((p.length : Int) == (N : Int)) = false := by simpa using h
        rw [h2, decide_eq_false h, Bool.and_false]
    rw [e]
    exact Ev.now _
  | k + 1, m, hm, hb, hd => by
    have hn : m < p.length := by omega
    have ht := take_rd8 hn
    refine Ev.step (fun k => by simp only [spec_l03Order.l0]; exact rfl) ?_
    have e1 : wrap64 ((N : Int) - 1) = (N : Int) - 1 := wrap_id (by omega) (by omega)
    refine Ev.iff_pos (by omega) (Ev.iff_pos (by omega) ?_)
    rw [e1, wrap_nat (by unfold maxLen; omega)]
    refine Ev.bindc (l01In_eq _ _ _) ?_
    by_cases h : 0 ≤ rd p (m : Int) ∧ rd p (m : Int) ≤ (N : Int) - 1
    · refine Ev.iff_pos (by rw [decide_eq_true h]) (Ev.iff_pos h.1 (Ev.iff_pos (by rw [mkO_length]; omega) ?_))
      have hrd : rdOf false (mkO (p.take m) N) (rd p (m : Int)) = decide (rd p (m : Int) ∈ p.take m) := by
        obtain ⟨y, hy⟩ := Int.eq_ofNat_of_zero_le h.1
        rw [hy]
        exact mkO_rd _ (by omega)
      rw [hrd]
      by_cases hmem : rd p (m : Int) ∈ p.take m
      · refine Ev.iff_pos (by simpa using hmem) ?_
        have hf : ordQ p (N : Int) = false := by
          rw [← Bool.not_eq_true]
          intro ho
          have hnd := (ordQ_inv ho).2
          have : (p.take (m + 1)).Nodup := hnd.sublist (List.take_sublist _ _)
          rw [ht, List.nodup_append] at this
          exact this.2.2 _ hmem _ (by simp) rfl
        rw [hf]
        exact Ev.now _
      · refine Ev.iff_neg (by simpa using hmem) ?_
        rw [mkO_set _ _ _ h.1, ← ht]
        refine l03Order_l hN hl k (m + 1) (by omega) (fun x hx => ?_) ?_
        · rw [ht, List.mem_append, List.mem_singleton] at hx
          rcases hx with hx | rfl
          · exact hb x hx
          · omega
        · rw [ht, List.nodup_append]
          refine ⟨hd, by simp, fun a ha b hbb e => ?_⟩
          rw [List.mem_singleton] at hbb
          subst hbb
          subst e
          exact hmem ha
    · refine Ev.iff_neg (by rw [decide_eq_false h]; simp) ?_
      have hf : ordQ p (N : Int) = false := by
        rw [← Bool.not_eq_true]
        intro ho
        have := (ordQ_inv ho).1 _ (rd_mem2 hn)
        omega
      rw [hf]
      exact Ev.now _
theorem l03Order_ev {p : List Int} {n : Int} (h0 : 0 ≤ n) (h1 : n ≤ 4) (hl : p.length ≤ 1048576) : Ev (fun k => spec_l03Order.f k p n) (ordQ p n) := by
  obtain ⟨N, rfl⟩ := Int.eq_ofNat_of_zero_le h0
  unfold spec_l03Order.f
  refine Ev.iff_pos h0 (Ev.iff_pos (by omega) ?_)
  have := l03Order_l (p := p) (N := N) (by omega) hl p.length 0 (by omega) (by simp) (by simp)
  rw [Int.toNat_natCast, mkO_nil]
  simpa using this
theorem sgW_wd {s : List Int} (hs : isSp s = true) {n : Nat} (hn : n < s.length) (p : List Int) (x : Int) : sgW s n p x = wd s ((dg s x).set n (rd p (rd (dg s x) (n : Int)))) := by
  have hl := isSp_len hs
  have hd := dg_length s x
  have e1 : rd (dig8 s x) (n : Int) = rd (dg s x) (n : Int) := by
    rw [dig8_eq hl, rd_nat, rd_nat, List.getD_eq_getElem?_getD, List.getElem?_append_left (by omega), List.getD_eq_getElem?_getD]
  unfold sgW wd
  rw [e1, dig8_eq hl, List.set_append_left _ _ (by omega), hor_pad (by rw [List.length_set]; exact hd)]
theorem specOrder_l {s c p : List Int} (hs : isSp s = true) (hc : isC s c = true) {n : Nat} (hn : n < s.length) (hpl : (p.length : Int) = rd s (n : Int)) (hp : ∀ j : Nat, j < p.length → 0 ≤ rd p (j : Int) ∧ rd p (j : Int) < p.length) : ∀ (k m : Nat), m + k = c.length →
    Ev (fun j => spec_OrderSigns.l0 j c (n : Int) p (ordL ((c.take m).map (sgW s n p))) (c.length : Int) (m : Int) s) (ordL (c.map (sgW s n p)), 0)
  | 0, m, hm => by
    refine Ev.step (fun k => by simp only [spec_OrderSigns.l0]; exact rfl) ?_
    refine Ev.iff_neg (by omega) ?_
    rw [List.take_of_length_le (by omega)]
    exact Ev.now _
  | k + 1, m, hm => by
    have hlt : m < c.length := by omega
    have hl := isC_len hs hc
    have ih := specOrder_l hs hc hn hpl hp k (m + 1) (by omega)
    rw [take_rd8 hlt, List.map_append] at ih
    have hol := ordL_len ((c.take m).map (sgW s n p))
    have hl2 : (c.take m).length ≤ m := List.length_take_le _ _
    rw [List.length_map] at hol
    have hdl := dg_length s (rd c (m : Int))
    have hdi := inR_dg (isSp_all hs) (rd c (m : Int))
    have hy := inR_rd s (dg s (rd c (m : Int))) n hdi hn (by omega)
    refine Ev.step (fun k => by simp only [spec_OrderSigns.l0]; exact rfl) ?_
    refine Ev.iff_pos (by omega) (Ev.iff_pos (by omega) (Ev.iff_pos (by omega) ?_))
    refine Ev.bind (l01Digits_ev hs (isC_rd hc hlt)) ?_
    refine Ev.iff_pos (by omega) (Ev.iff_pos (by omega) (Ev.iff_pos hy.1 (Ev.iff_pos (by omega) ?_)))
    rw [Int.toNat_natCast]
    obtain ⟨y, hye⟩ := Int.eq_ofNat_of_zero_le hy.1
    have hv := hp y (by omega)
    rw [← hye] at hv
    refine Ev.bind (l01Word_ev (isSp_all hs) (isSp_len hs) (by rw [List.length_set]; exact hdl) (set_inRo hdi hn hv.1 (by rw [← hpl]; exact hv.2))) ?_
    refine Ev.bind (l01Put_ev (ordL_pw _) (by omega) _) ?_
    rw [wrap_nat (by unfold maxLen; omega), ordL_put, ← sgW_wd hs hn]
    exact ih
theorem l03Place_ev (s : List Int) {c : List Int} (hcl : c.length ≤ 1048576) (i : Int) (hsl : isSp s = true → s.length ≤ 8) : Ev (fun k => spec_l03Place.f k s c i) (if rCode s c [] = 0 then if 0 ≤ i ∧ i < s.length then 0 else 2 else rCode s c []) := by
  unfold spec_l03Place.f
  refine Ev.bind (l01Given_ev s hcl) ?_
  by_cases h : rCode s c [] = 0
  · have hs := (rCode_zero h).1
    have hl := isSp_len hs
    refine Ev.iff_pos h ?_
    have e1 : wrap64 ((s.length : Int) - 1) = (s.length : Int) - 1 := wrap_id (by omega) (by omega)
    rw [e1]
    refine Ev.bindc (l01In_eq _ _ _) ?_
    rw [if_pos h, h]
    by_cases hp : 0 ≤ i ∧ i < s.length
    · refine Ev.iff_pos (by rw [decide_eq_true (by omega)]) ?_
      rw [if_pos hp]
      exact Ev.now _
    · refine Ev.iff_neg (by rw [decide_eq_false (by omega)]; simp) ?_
      rw [if_neg hp]
      exact Ev.now _
  · refine Ev.iff_neg h ?_
    rw [if_neg h]
    exact Ev.now _
theorem specOrderSigns_ev (s : List Int) {c p : List Int} (hcl : c.length ≤ 1048576) (hpl : p.length ≤ 1048576) (i : Int) : Ev (fun k => spec_OrderSigns.f k s c i p) (orderR s c i p) := by
  unfold spec_OrderSigns.f orderR
  refine Ev.bind (l03Place_ev s hcl i isSp_len) ?_
  by_cases h : rCode s c [] = 0
  · obtain ⟨hs, hc, _⟩ := rCode_zero h
    rw [if_pos h, if_pos h]
    by_cases hi : 0 ≤ i ∧ i < s.length
    · rw [if_pos hi]
      refine Ev.iff_pos rfl (Ev.iff_pos hi.1 (Ev.iff_pos hi.2 ?_))
      obtain ⟨n, rfl⟩ := Int.eq_ofNat_of_zero_le hi.1
      have hn : n < s.length := by omega
      have hq := all_rd (isSp_all hs) hn
      refine Ev.bind (l03Order_ev (by omega) (by omega) hpl) ?_
      by_cases ho : ordQ p (rd s (n : Int)) = true
      · rw [if_pos ⟨hi, ho⟩, ho]
        obtain ⟨o1, o2⟩ := ordQ_true ho
        refine Ev.step (fun k => by simp only [spec_OrderSigns.j0]; exact rfl) ?_
        refine Ev.iff_neg (by simp) ?_
        refine Ev.step (fun k => by simp only [spec_OrderSigns.j1]; exact rfl) ?_
        refine Ev.iff_pos (by first | rfl | trivial) ?_
        have := specOrder_l hs hc hn o1 o2 c.length 0 (by omega)
        rw [List.take_zero, List.map_nil, ordL_asc List.Pairwise.nil] at this
        rw [Int.toNat_natCast]
        exact this
      · rw [if_neg (fun z => ho z.2)]
        rw [Bool.not_eq_true] at ho
        rw [ho]
        refine Ev.step (fun k => by simp only [spec_OrderSigns.j0]; exact rfl) ?_
        refine Ev.iff_pos (by simp) ?_
        refine Ev.step (fun k => by simp only [spec_OrderSigns.j1]; exact rfl) ?_
        refine Ev.iff_neg (by simp) ?_
        exact Ev.now _
    · rw [if_neg hi, if_neg (fun z => hi z.1)]
      refine Ev.iff_neg (by decide) ?_
      refine Ev.step (fun k => by simp only [spec_OrderSigns.j0]; exact rfl) ?_
      refine Ev.iff_neg (by simp) ?_
      refine Ev.step (fun k => by simp only [spec_OrderSigns.j1]; exact rfl) ?_
      refine Ev.iff_neg (by simp) ?_
      exact Ev.now _
  · rw [if_neg h, if_neg h]
    refine Ev.iff_neg h ?_
    refine Ev.step (fun k => by simp only [spec_OrderSigns.j0]; exact rfl) ?_
    refine Ev.iff_neg (by simp) ?_
    refine Ev.step (fun k => by simp only [spec_OrderSigns.j1]; exact rfl) ?_
    refine Ev.iff_neg h ?_
    exact Ev.now _
theorem orderR_len (s : List Int) {c : List Int} (hcl : c.length ≤ 1048576) (i : Int) (p : List Int) : (orderR s c i p).1.length ≤ 1048576 := by
  unfold orderR
  by_cases h : rCode s c [] = 0
  · rw [if_pos h]
    split
    · have := ordL_len (c.map (sgW s i.toNat p))
      rw [List.length_map] at this
      show (ordL _).length ≤ 1048576
      omega
    · simp
  · rw [if_neg h]
    simp
theorem implOrderSigns_eq (s : List Int) {c p : List Int} (hcl : c.length ≤ 1048576) (hpl : p.length ≤ 1048576) (i : Int) : impl_OrderSigns.f s c i p = some (orderR s c i p) := by
  unfold impl_OrderSigns.f
  rw [if_pos ⟨hcl, hpl⟩]
theorem FnExactOrderSigns (l0_0 : List Int) (m0 : l0_0.length ≤ maxLen) (w0 : ∀ x ∈ l0_0, (Lit.int .i64 x).wf = true) (l1 : List Int) (m1 : l1.length ≤ maxLen) (b1 : l1.length * 8 ≤ 140737488351232) (w1 : ∀ x ∈ l1, (Lit.int .i64 x).wf = true) (a2 : Int) (w2 : (Lit.int .i64 a2).wf = true) (l3 : List Int) (m3 : l3.length ≤ maxLen) (b3 : l3.length * 8 ≤ 140737488351232) (w3 : ∀ x ∈ l3, (Lit.int .i64 x).wf = true) : ∃ k, laws_FnExactOrderSigns.f k l0_0 l1 a2 l3 = some true := by
  refine Ev.rounds (r := true) ?_
  unfold laws_FnExactOrderSigns.f
  by_cases c1 : (l1.length : Int) > 1048576
  · exact Ev.iff_pos c1 (Ev.now _)
  refine Ev.iff_neg c1 ?_
  have k1 : l1.length ≤ 1048576 := by omega
  have km1 : l1.length < maxLen := by unfold maxLen; omega
  by_cases c3 : (l3.length : Int) > 1048576
  · exact Ev.iff_pos c3 (Ev.now _)
  refine Ev.iff_neg c3 ?_
  have k3 : l3.length ≤ 1048576 := by omega
  have km3 : l3.length < maxLen := by unfold maxLen; omega
  refine Ev.bindc (szSpace_eq _ _ m0 (by omega) (by omega)) ?_
  by_cases h0 : (1048576 : Int) < (l0_0.length : Int)
  · exact Ev.iff_pos (by rw [if_pos h0]; omega) (Ev.now _)
  rw [if_neg h0]
  refine Ev.iff_neg (by omega) ?_
  have hl0 : l0_0.length ≤ 1048576 := by omega
  have hm0 : l0_0.length < maxLen := by unfold maxLen; omega
  have hr0 := orderR_len l0_0 k1 a2 l3
  repeat' first
    | exact Ev.now _
    | refine Ev.bind (toInt64S_ev _ k1) ?_
    | refine Ev.bind (toInt64S_ev _ k3) ?_
    | refine Ev.bind (toSpace_ev _ hl0) ?_
    | refine Ev.bind (specOrderSigns_ev _ k1 k3 _) ?_
    | refine Ev.bind (Ev.const (implOrderSigns_eq _ k1 k3 _)) ?_
    | (refine Ev.bind (eqSpace_ev _ _ ?_) ?_; (· (first | omega | (unfold maxLen; omega) | (simp only [iota_length]; omega) | (simp only [iota_length]; unfold maxLen; omega))))
    | (refine Ev.bind (eqInt64S_ev _ _ ?_) ?_; (· (first | omega | (unfold maxLen; omega) | (simp only [iota_length]; omega) | (simp only [iota_length]; unfold maxLen; omega))))
    | (refine Ev.bind (markSpace_ev _ _ ?_ ?_ ?_) ?_; (· (first | omega | (unfold maxLen; omega) | (simp only [iota_length]; omega) | (simp only [iota_length]; unfold maxLen; omega))); (· (first | omega | (unfold maxLen; omega) | (simp only [iota_length]; omega) | (simp only [iota_length]; unfold maxLen; omega))); (· (first | omega | (unfold maxLen; omega) | (simp only [iota_length]; omega) | (simp only [iota_length]; unfold maxLen; omega))))
    | (refine Ev.bind (markInt64S_ev _ _ ?_ ?_ ?_) ?_; (· (first | omega | (unfold maxLen; omega) | (simp only [iota_length]; omega) | (simp only [iota_length]; unfold maxLen; omega))); (· (first | omega | (unfold maxLen; omega) | (simp only [iota_length]; omega) | (simp only [iota_length]; unfold maxLen; omega))); (· (first | omega | (unfold maxLen; omega) | (simp only [iota_length]; omega) | (simp only [iota_length]; unfold maxLen; omega))))
    | (refine Ev.bind (heldInt64S_ev _ _ ?_ ?_) ?_; (· (first | omega | (unfold maxLen; omega) | (simp only [iota_length]; omega) | (simp only [iota_length]; unfold maxLen; omega))); (· (first | omega | (unfold maxLen; omega) | (simp only [iota_length]; omega) | (simp only [iota_length]; unfold maxLen; omega))))
    | (refine Ev.iff_pos ?_ ?_; (· (first | (simp; done) | omega)))
    | (refine Ev.iff_neg ?_ ?_; (· (first | (simp; done) | omega)))
    | refine Ev.step (show ∀ k, laws_FnExactOrderSigns.j0 (k + 1) _ _ _ _ _ _ _ _ _ _ _ _ = _ from fun k => by rw [laws_FnExactOrderSigns.j0]) ?_
    | refine Ev.step (show ∀ k, laws_FnExactOrderSigns.j1 (k + 1) _ _ _ _ _ _ _ _ = _ from fun k => by rw [laws_FnExactOrderSigns.j1]) ?_
    | refine Ev.step (show ∀ k, laws_FnExactOrderSigns.j2 (k + 1) _ _ _ = _ from fun k => by rw [laws_FnExactOrderSigns.j2]) ?_
end Go.Proofs.Ytccolbomlgokiaa.Q
