/- What the law FnExactLeastForm needs, part 10: words, walks of functions (each says that a call returns what the plain Lean function beside it says), plain lemmas. -/
import Derived.Test.YtemjamfcepoefaaKFnExactLeastFormI
import Derived.OpenShut
set_option linter.unusedVariables false
namespace Go.Proofs.Ytemjamfcepoefaa.Q
open Go.RowKit Go.Proofs.Ytemjamfcepoefaa.P Go.Proofs.YtemjamfcepoefaaW.PrintWords CC
theorem Ev.iff_pos {α : Type} {c : Prop} [Decidable c] {A B : Nat → Option α} {r : α} (h : c) (k : Ev A r) : Ev (fun n => if c then A n else B n) r := by
  simpa [h] using k
theorem Ev.iff_neg {α : Type} {c : Prop} [Decidable c] {A B : Nat → Option α} {r : α} (h : ¬ c) (k : Ev B r) : Ev (fun n => if c then A n else B n) r := by
  simpa [h] using k
theorem Ev.const {α : Type} {a : Option α} {r : α} (h : a = some r) : Ev (fun _ => a) r := ⟨0, fun _ _ => h⟩
theorem Ev.bindc {α β : Type} {g : Option α} {f : Nat → α → Option β} {a : α} {r : β} (h : g = some a) (k : Ev (fun n => f n a) r) : Ev (fun n => g.bind (f n)) r := by
  simpa [h] using k
theorem wrap_nat {n : Nat} (h : n < maxLen) : wrap64 ((n : Int) + 1) = ((n + 1 : Nat) : Int) := by
  unfold maxLen at h
  unfold wrap64
  omega
theorem rd_nat (s : List Int) (n : Nat) : rd s (n : Int) = s.getD n 0 := by simp [rd]
theorem drop_cons (s : List Int) {n : Nat} (h : n < s.length) : s.drop n = rd s (n : Int) :: s.drop (n + 1) := by
  rw [List.drop_eq_getElem_cons h, rd_nat]
  simp [List.getD_eq_getElem?_getD, h]
theorem drop_all {s : List Int} {n : Nat} (h : s.length ≤ n) : s.drop n = [] := List.drop_eq_nil_of_le h
theorem szInt64S_eq (l : List Int) (a : Int) (hl : l.length ≤ maxLen) (h0 : 0 ≤ a) (h1 : a ≤ 1048576) : laws_szInt64S.f l a = some (if a < l.length then -1 else a - l.length) := by
  unfold maxLen at hl
  unfold laws_szInt64S.f
  have e : wrap64 (a - (l.length : Int)) = a - l.length := wrap_id (by omega) (by omega)
  rw [e]
  by_cases h : a < (l.length : Int)
  · rw [if_pos (by omega), if_pos h]
  · rw [if_neg (by omega), if_neg h]
theorem szSpace_eq (l : List Int) (a : Int) (hl : l.length ≤ maxLen) (h0 : 0 ≤ a) (h1 : a ≤ 1048576) : laws_szSpace.f l a = some (if a < l.length then -1 else a - l.length) := by
  unfold laws_szSpace.f
  rw [szInt64S_eq l a hl h0 h1]
  simp only [Option.bind_some]
  by_cases h : a < (l.length : Int)
  · simp [h]
  · rw [if_neg h, if_neg (by omega)]
theorem toInt64S_l (l : List Int) (hl : l.length < maxLen) : ∀ (d n : Nat) (x : List Int), n + d = l.length → x.length = l.length → x.take n = l.take n → Ev (fun k => laws_toInt64S.l0 k l x (n : Int)) l
  | 0, n, x, hd, hx, ht => by
    refine Ev.step (f := fun _ => some l) (fun k => ?_) (Ev.now l)
    have e : x = l := by
      have h1 : x.take n = x := List.take_of_length_le (by omega)
      have h2 : l.take n = l := List.take_of_length_le (by omega)
      rw [← h1, ht, h2]
    simp only [laws_toInt64S.l0]
    rw [if_neg (by omega), e]
  | d + 1, n, x, hd, hx, ht => by
    have hn : n < l.length := by omega
    refine Ev.step (f := fun k => laws_toInt64S.l0 k l (x.set n (rd l (n : Int))) ((n + 1 : Nat) : Int)) (fun k => ?_) (toInt64S_l l hl d (n + 1) _ (by omega) (by simpa using hx) ?_)
    · simp only [laws_toInt64S.l0]
      rw [if_pos (by omega), if_pos (by omega), if_pos (by omega), wrap_nat (by omega), Int.toNat_natCast]
    · rw [List.take_add_one, List.take_add_one]
      have h1 : (x.set n (rd l (n : Int))).take n = x.take n := by rw [List.take_set_of_le (Nat.le_refl n)]
      rw [h1, ht, List.getElem?_set_self (by omega), rd_nat]
      simp [List.getD_eq_getElem?_getD, hn]
theorem toInt64S_ev (l : List Int) (hl : l.length ≤ 1048576) : Ev (fun k => laws_toInt64S.f k l) l := by
  unfold laws_toInt64S.f
  refine Ev.iff_pos (by omega) (Ev.iff_pos (by omega) ?_)
  exact toInt64S_l l (by unfold maxLen; omega) l.length 0 _ (by omega) (by simp) (by simp)
theorem toSpace_ev (l : List Int) (hl : l.length ≤ 1048576) : Ev (fun k => laws_toSpace.f k l) l := by
  unfold laws_toSpace.f
  exact Ev.bind (toInt64S_ev l hl) (Ev.now l)
theorem eqInt64S_l (a b : List Int) (hl : a.length < maxLen) (hab : a.length = b.length) : ∀ (d n : Nat), n + d = a.length → Ev (fun k => laws_eqInt64S.l0 k a b (n : Int)) (decide (a.drop n = b.drop n))
  | 0, n, hd => by
    refine Ev.step (f := fun _ => some true) (fun k => ?_) ?_
    · simp only [laws_eqInt64S.l0]
      rw [if_neg (by omega)]
    · rw [drop_all (show a.length ≤ n by omega), drop_all (show b.length ≤ n by omega)]
      exact Ev.now true
  | d + 1, n, hd => by
    have hn : n < a.length := by omega
    have hn2 : n < b.length := by omega
    by_cases he : rd a (n : Int) = rd b (n : Int)
    · refine Ev.step (f := fun k => laws_eqInt64S.l0 k a b ((n + 1 : Nat) : Int)) (fun k => ?_) ?_
      · simp only [laws_eqInt64S.l0]
        rw [if_pos (by omega), if_pos (by omega), if_pos (by omega), if_pos he, wrap_nat (by omega)]
      · have := eqInt64S_l a b hl hab d (n + 1) (by omega)
        rw [drop_cons a hn, drop_cons b hn2, he]
        simpa using this
    · refine Ev.step (f := fun _ => some false) (fun k => ?_) ?_
      · simp only [laws_eqInt64S.l0]
        rw [if_pos (by omega), if_pos (by omega), if_pos (by omega), if_neg he]
      · rw [drop_cons a hn, drop_cons b hn2]
        simp only [List.cons.injEq, he, false_and, decide_false]
        exact Ev.now false
theorem eqInt64S_ev (a b : List Int) (hl : a.length < maxLen) : Ev (fun k => laws_eqInt64S.f k a b) (decide (a = b)) := by
  unfold laws_eqInt64S.f
  by_cases h : a.length = b.length
  · refine Ev.iff_pos (by omega) ?_
    simpa using eqInt64S_l a b hl h a.length 0 (by omega)
  · refine Ev.iff_neg (by omega) ?_
    have : a ≠ b := fun e => h (by rw [e])
    simp only [this, decide_false]
    exact Ev.now false
theorem eqSpace_ev (a b : List Int) (hl : a.length < maxLen) : Ev (fun k => laws_eqSpace.f k a b) (decide (a = b)) := by
  unfold laws_eqSpace.f
  refine Ev.bind (eqInt64S_ev a b hl) ?_
  by_cases h : a = b
  · simp only [h, decide_true, if_true]
    exact Ev.now true
  · simp only [h, decide_false]
    exact Ev.now false
def iota (m : Int) : Nat → List Int
  | 0 => []
  | n + 1 => m :: iota (m + 1) n
theorem iota_length : ∀ (n : Nat) (m : Int), (iota m n).length = n
  | 0, _ => rfl
  | n + 1, m => by simp [iota, iota_length n (m + 1)]
theorem markInt64S_l (L : Nat) (hL : L ≤ 4503599627370496) : ∀ (d n : Nat) (x : List Int) (m : Int), n + d = L → x.length = L → 0 ≤ m → m + d ≤ 4503599627370496 → Ev (fun k => laws_markInt64S.l0 k x m (n : Int)) (m + d, x.take n ++ iota m d)
  | 0, n, x, m, hd, hx, h0, h1 => by
    refine Ev.step (f := fun _ => some (m, x)) (fun k => ?_) ?_
    · simp only [laws_markInt64S.l0]
      rw [if_neg (by omega)]
    · rw [List.take_of_length_le (by omega)]
      simpa [iota] using Ev.now (m, x)
  | d + 1, n, x, m, hd, hx, h0, h1 => by
    refine Ev.step (f := fun k => laws_markInt64S.l0 k (x.set n m) (m + 1) ((n + 1 : Nat) : Int)) (fun k => ?_) ?_
    · simp only [laws_markInt64S.l0]
      rw [if_pos (by omega), if_pos (by omega), wrap_nat (by unfold maxLen; omega), Int.toNat_natCast, wrap_id (by omega) (by omega)]
    · have := markInt64S_l L hL d (n + 1) (x.set n m) (m + 1) (by omega) (by simpa using hx) (by omega) (by omega)
      rw [List.take_add_one, List.take_set_of_le (Nat.le_refl n), List.getElem?_set_self (by omega)] at this
      have e : m + ((d + 1 : Nat) : Int) = m + 1 + d := by omega
      rw [e]
      simpa [iota] using this
theorem markInt64S_ev (l : List Int) (m : Int) (hl : l.length ≤ 2251799813685248) (h0 : 0 ≤ m) (h1 : m ≤ 2251799813685248) : Ev (fun k => laws_markInt64S.f k l m) (m + l.length, iota m l.length) := by
  unfold laws_markInt64S.f
  simpa using markInt64S_l l.length (by omega) l.length 0 l m (by omega) rfl h0 (by omega)
theorem markSpace_ev (l : List Int) (m : Int) (hl : l.length ≤ 2251799813685248) (h0 : 0 ≤ m) (h1 : m ≤ 2251799813685248) : Ev (fun k => laws_markSpace.f k l m) (m + l.length, iota m l.length) := by
  unfold laws_markSpace.f
  exact Ev.bind (markInt64S_ev l m hl h0 h1) (Ev.now _)
theorem rd_iota : ∀ (L : Nat) (m : Int) (n : Nat), n < L → rd (iota m L) (n : Int) = m + n
  | 0, _, _, h => by omega
  | L + 1, m, 0, _ => by simp [rd, iota]
  | L + 1, m, n + 1, h => by
    have := rd_iota L (m + 1) n (by omega)
    rw [rd_nat] at this ⊢
    simp only [iota, List.getD_cons_succ]
    rw [this]
    omega
theorem heldInt64S_l (L : Nat) (m : Int) (h0 : 0 ≤ m) (h1 : m + L ≤ 4503599627370496) : ∀ (d n : Nat), n + d = L → Ev (fun k => laws_heldInt64S.l0 k (iota m L) (m + n) (n : Int)) (m + L)
  | 0, n, hd => by
    have : n = L := by omega
    subst this
    refine Ev.step (f := fun _ => some (m + n)) (fun k => ?_) (Ev.now _)
    simp only [laws_heldInt64S.l0]
    rw [if_neg (by rw [iota_length]; omega)]
  | d + 1, n, hd => by
    refine Ev.step (f := fun k => laws_heldInt64S.l0 k (iota m L) (m + ((n + 1 : Nat) : Int)) ((n + 1 : Nat) : Int)) (fun k => ?_) (heldInt64S_l L m h0 h1 d (n + 1) (by omega))
    simp only [laws_heldInt64S.l0]
    rw [if_pos (by rw [iota_length]; omega), if_pos (by omega), if_pos (rd_iota L m n (by omega)), wrap_nat (by unfold maxLen; omega), wrap_id (by omega) (by omega)]
    congr 1
    omega
theorem heldInt64S_ev (L : Nat) (m : Int) (h0 : 0 ≤ m) (h1 : m + L ≤ 4503599627370496) : Ev (fun k => laws_heldInt64S.f k (iota m L) m) (m + L) := by
  unfold laws_heldInt64S.f
  simpa using heldInt64S_l L m h0 h1 L 0 (by omega)
theorem l01In_eq (a b c : Int) : spec_l01In.f a b c = some (decide (b ≤ a ∧ a ≤ c)) := by
  unfold spec_l01In.f
  by_cases h : a ≥ b
  · rw [if_pos h]
    simp [show b ≤ a from h]
  · rw [if_neg h]
    simp
    omega
theorem l01N_l (s : List Int) (hs : s.length < maxLen) : ∀ (d n : Nat) (x : Int), n + d = s.length → Ev (fun k => spec_l01N.l0 k x (n : Int) s) (prw x (s.drop n))
  | 0, n, x, hd => by
    refine Ev.step (f := fun _ => some x) (fun k => ?_) ?_
    · simp only [spec_l01N.l0]
      rw [if_neg (by omega)]
    · rw [drop_all (by omega)]
      exact Ev.now x
  | d + 1, n, x, hd => by
    refine Ev.step (f := fun k => spec_l01N.l0 k (wrap64 (x * rd s (n : Int))) ((n + 1 : Nat) : Int) s) (fun k => ?_) ?_
    · simp only [spec_l01N.l0]
      rw [if_pos (by omega), if_pos (by omega), wrap_nat (by omega)]
    · have := l01N_l s hs d (n + 1) (wrap64 (x * rd s (n : Int))) (by omega)
      rw [drop_cons s (by omega)]
      exact this
theorem l01N_ev (s : List Int) (hs : s.length < maxLen) : Ev (fun k => spec_l01N.f k s) (prw 1 s) := by
  unfold spec_l01N.f
  simpa using l01N_l s hs s.length 0 1 (by omega)
theorem l01N_sp {s : List Int} (h : isSp s = true) : Ev (fun k => spec_l01N.f k s) (prd s) := by
  have := l01N_ev s (by have := isSp_len h; unfold maxLen; omega)
  rwa [prw_one (isSp_len h) (isSp_all h)] at this
theorem l01Is_l (s : List Int) (hs : s.length ≤ 8) : ∀ (d n : Nat), n + d = s.length → (s.take n).all sizeOk = true → Ev (fun k => spec_l01Is.l0 k (n : Int) s) (s.all sizeOk && decide (prd s ≤ 1024))
  | 0, n, hd, ht => by
    rw [List.take_of_length_le (by omega)] at ht
    refine Ev.step (f := fun k => (spec_l01N.f k s).bind fun t109 => (some (decide (t109 ≤ 1024)))) (fun k => ?_) ?_
    · simp only [spec_l01Is.l0]
      rw [if_neg (by omega)]
    · have := l01N_ev s (by unfold maxLen; omega)
      rw [prw_one hs ht] at this
      refine Ev.bind this ?_
      rw [ht, Bool.true_and]
      exact Ev.now _
  | d + 1, n, hd, ht => by
    have hn : n < s.length := by omega
    have hal : s.all sizeOk = ((s.take n).all sizeOk && (sizeOk (rd s (n : Int)) && (s.drop (n + 1)).all sizeOk)) := by
      conv => lhs; rw [← List.take_append_drop n s, List.all_append, drop_cons s hn, List.all_cons]
    by_cases hq : sizeOk (rd s (n : Int)) = true
    · refine Ev.step (f := fun k => spec_l01Is.l0 k ((n + 1 : Nat) : Int) s) (fun k => ?_) (l01Is_l s hs d (n + 1) (by omega) ?_)
      · have hq' := (sizeOk_iff _).1 hq
        simp only [spec_l01Is.l0]
        rw [if_pos (by omega), if_pos (by omega), l01In_eq, Option.bind_some, wrap_nat (by unfold maxLen; omega), if_pos (by simp; omega)]
      · rw [List.take_add_one, List.all_append, ht]
        rw [rd_nat] at hq
        simp only [List.getD_eq_getElem?_getD, List.getElem?_eq_getElem hn, Option.getD_some] at hq
        simp [List.getElem?_eq_getElem hn, hq]
    · refine Ev.step (f := fun _ => some false) (fun k => ?_) ?_
      · have hq' : ¬ (rd s (n : Int) = 2 ∨ rd s (n : Int) = 3 ∨ rd s (n : Int) = 4) := fun z => hq ((sizeOk_iff _).2 z)
        simp only [spec_l01Is.l0]
        rw [if_pos (by omega), if_pos (by omega), l01In_eq, Option.bind_some, if_neg (by simp; omega)]
      · rw [hal, ht]
        simp only [Bool.not_eq_true] at hq
        rw [hq]
        exact Ev.now false
theorem l01Is_ev (s : List Int) : Ev (fun k => spec_l01Is.f k s) (isSp s) := by
  unfold spec_l01Is.f
  refine Ev.bindc (l01In_eq _ _ _) ?_
  by_cases h : 1 ≤ s.length ∧ s.length ≤ 8
  · refine Ev.iff_pos (by simp; omega) ?_
    have := l01Is_l s h.2 s.length 0 (by omega) (by simp)
    unfold isSp
    simpa [h.1, h.2] using this
  · refine Ev.iff_neg (by simp; omega) ?_
    have : isSp s = false := by
      unfold isSp
      rcases Nat.lt_or_ge s.length 1 with h1 | h1
      · have : ¬ 1 ≤ s.length := by omega
        simp [this]
      · have : ¬ s.length ≤ 8 := by omega
        simp [this]
    rw [this]
    exact Ev.now false
theorem isSpace_l (s : List Int) (hs : s.length ≤ 8) : ∀ (d n : Nat) (x : Int), n + d = s.length → (s.take n).all sizeOk = true → 0 ≤ x → x ≤ 4 ^ n → Ev (fun k => impl_IsSpace.l0 k x s (s.length : Int) (n : Int)) ((s.drop n).all sizeOk && decide (x * prd (s.drop n) ≤ 1024))
  | 0, n, x, hd, ht, h0, hx => by
    refine Ev.step (f := fun _ => some (decide (x ≤ 1024))) (fun k => ?_) ?_
    · simp only [impl_IsSpace.l0]
      rw [if_neg (by omega)]
    · rw [drop_all (by omega)]
      simpa [prd] using Ev.now (decide (x ≤ 1024))
  | d + 1, n, x, hd, ht, h0, hx => by
    have hn : n < s.length := by omega
    rw [drop_cons s hn]
    by_cases hq : sizeOk (rd s (n : Int)) = true
    · have hq' := (sizeOk_iff _).1 hq
      have hb := pow48 (m := n + 1) (by omega)
      have hx2 : x * rd s (n : Int) ≤ 4 ^ (n + 1) := by
        rw [Int.pow_succ]
        rcases hq' with e | e | e <;> rw [e] <;> omega
      have hx0 : 0 ≤ x * rd s (n : Int) := by rcases hq' with e | e | e <;> rw [e] <;> omega
      refine Ev.step (f := fun k => impl_IsSpace.l0 k (x * rd s (n : Int)) s (s.length : Int) ((n + 1 : Nat) : Int)) (fun k => ?_) ?_
      · simp only [impl_IsSpace.l0]
        rw [if_pos (by omega), if_pos (by omega), if_pos (by omega), if_neg (by omega), if_neg (by omega), wrap_nat (by unfold maxLen; omega), wrap_id (by omega) (by omega)]
      · have := isSpace_l s hs d (n + 1) (x * rd s (n : Int)) (by omega) ?_ hx0 hx2
        · have e : ((rd s (n : Int) :: s.drop (n + 1)).all sizeOk && decide (x * prd (rd s (n : Int) :: s.drop (n + 1)) ≤ 1024)) = ((s.drop (n + 1)).all sizeOk && decide (x * rd s (n : Int) * prd (s.drop (n + 1)) ≤ 1024)) := by rw [List.all_cons, hq, Bool.true_and, prd, ← Int.mul_assoc]
          rw [e]
          exact this
        · rw [List.take_add_one, List.all_append, ht]
          rw [rd_nat] at hq
          simp only [List.getD_eq_getElem?_getD, List.getElem?_eq_getElem hn, Option.getD_some] at hq
          simp [List.getElem?_eq_getElem hn, hq]
    · have hq' : ¬ (rd s (n : Int) = 2 ∨ rd s (n : Int) = 3 ∨ rd s (n : Int) = 4) := fun z => hq ((sizeOk_iff _).2 z)
      simp only [Bool.not_eq_true] at hq
      refine Ev.step (f := fun _ => some false) (fun k => ?_) ?_
      · simp only [impl_IsSpace.l0]
        rw [if_pos (by omega), if_pos (by omega), if_pos (by omega)]
        by_cases h2 : rd s (n : Int) < 2
        · rw [if_pos h2]
        · rw [if_neg h2, if_pos (by omega)]
      · simp only [List.all_cons, hq, Bool.false_and]
        exact Ev.now false
theorem isSpace_ev (s : List Int) : Ev (fun k => impl_IsSpace.f k s) (isSp s) := by
  unfold impl_IsSpace.f
  by_cases h1 : s.length < 1
  · refine Ev.iff_pos (by omega) ?_
    refine Ev.step (f := fun _ => some false) (fun k => by simp [impl_IsSpace.j0]) ?_
    have : isSp s = false := by
      have : ¬ 1 ≤ s.length := by omega
      simp [isSp, this]
    rw [this]
    exact Ev.now false
  · refine Ev.iff_neg (by omega) ?_
    by_cases h2 : s.length ≤ 8
    · refine Ev.step (f := fun k => impl_IsSpace.l0 k 1 s (s.length : Int) ((0 : Nat) : Int)) (fun k => ?_) ?_
      · simp only [impl_IsSpace.j0]
        rw [if_neg (by simp; omega)]
        rfl
      · have := isSpace_l s h2 s.length 0 1 (by omega) (by simp) (by omega) (by simp)
        have e1 : 1 ≤ s.length := by omega
        simpa [isSp, e1, h2] using this
    · refine Ev.step (f := fun _ => some false) (fun k => ?_) ?_
      · simp only [impl_IsSpace.j0]
        rw [if_pos (by simp; omega)]
      · have : isSp s = false := by simp [isSp, h2]
        rw [this]
        exact Ev.now false
theorem count_l (s : List Int) (hs : s.length < maxLen) : ∀ (d n : Nat) (x : Int), n + d = s.length → Ev (fun k => impl_count.l0 k x s (s.length : Int) (n : Int)) (prw x (s.drop n))
  | 0, n, x, hd => by
    refine Ev.step (f := fun _ => some x) (fun k => ?_) ?_
    · simp only [impl_count.l0]
      rw [if_neg (by omega)]
    · rw [drop_all (by omega)]
      exact Ev.now x
  | d + 1, n, x, hd => by
    refine Ev.step (f := fun k => impl_count.l0 k (wrap64 (x * rd s (n : Int))) s (s.length : Int) ((n + 1 : Nat) : Int)) (fun k => ?_) ?_
    · simp only [impl_count.l0]
      rw [if_pos (by omega), if_pos (by omega), if_pos (by omega), wrap_nat (by omega)]
    · have := count_l s hs d (n + 1) (wrap64 (x * rd s (n : Int))) (by omega)
      rw [drop_cons s (by omega)]
      exact this
theorem count_sp {s : List Int} (h : isSp s = true) : Ev (fun k => impl_count.f k s) (prd s) := by
  unfold impl_count.f
  have := count_l s (by have := isSp_len h; unfold maxLen; omega) s.length 0 1 (by omega)
  rw [List.drop_zero, prw_one (isSp_len h) (isSp_all h)] at this
  exact this
end Go.Proofs.Ytemjamfcepoefaa.Q
set_option linter.unusedVariables false
set_option linter.unusedSimpArgs false
namespace Go.Proofs.Ytemjamfcepoefaa.P
open Go.RowKit Go.Proofs.YtemjamfcepoefaaW.PrintWords Go.Proofs.YtemjamfcepoefaaW.PrintLast Go.Proofs.YtemjamfcepoefaaW.PrintMore CC
def upTo (k : Nat) : List Int := (List.range k).map fun (i : Nat) => (i : Int)
theorem upTo_length (k : Nat) : (upTo k).length = k := by simp [upTo]
def ordQ (p : List Int) (n : Int) : Bool := decide (msort p = upTo p.length) && decide ((p.length : Int) = n)
def putN (N : Nat) (e p : List Int) : Nat → List Int
  | 0 => List.replicate N 0
  | n + 1 => (putN N e p n).set (rd p (n : Int)).toNat (rd e (n : Int))
theorem putN_length (N : Nat) (e p : List Int) : ∀ n, (putN N e p n).length = N
  | 0 => by simp [putN]
  | n + 1 => by rw [putN, List.length_set, putN_length N e p n]
theorem ordD_putN (e p : List Int) : ∀ n, ordD e p n = putN 8 e p n
  | 0 => rfl
  | n + 1 => by rw [ordD, putN, ordD_putN e p n]
def ospL (s p : List Int) : List Int := putN p.length s p p.length
theorem rd_getElem {l : List Int} {n : Nat} (h : n < l.length) : rd l (n : Int) = l[n] := by simp [rd, List.getD_eq_getElem?_getD, h]
theorem rd_set_ne9 (L : List Int) {k y : Nat} (h : k ≠ y) (v : Int) : rd (L.set k v) (y : Int) = rd L (y : Int) := by simp only [rd, Int.toNat_natCast, List.getD_eq_getElem?_getD, List.getElem?_set_ne h]
theorem putN_rd {p : List Int} (hn : p.Nodup) (hp : ∀ x ∈ p, 0 ≤ x) (N : Nat) (e : List Int) : ∀ (n : Nat), n ≤ p.length → ∀ j : Nat, j < n → rd p (j : Int) < N → rd (putN N e p n) (rd p (j : Int)) = rd e (j : Int)
  | 0, _, j, hj, _ => by omega
  | n + 1, hl, j, hj, hN => by
    have hm : ∀ k : Nat, k < p.length → 0 ≤ rd p (k : Int) := fun k hk => hp _ (by rw [rd_getElem hk]; exact List.getElem_mem _)
    have hj0 := hm j (by omega)
    obtain ⟨y, hy⟩ := Int.eq_ofNat_of_zero_le hj0
    rw [putN, hy]
    by_cases e1 : j = n
    · subst e1
      rw [hy, Int.toNat_natCast]
      have hlen : y < (putN N e p j).length := by rw [putN_length]; omega
      simp [rd, List.getD_eq_getElem?_getD, hlen]
    · have ih := putN_rd hn hp N e n (by omega) j (by omega) hN
      rw [hy] at ih
      have hne : (rd p (n : Int)).toNat ≠ y := by
        intro h
        have hn0 := hm n (by omega)
        have h2 : rd p (n : Int) = rd p (j : Int) := by omega
        rw [rd_getElem (show n < p.length by omega), rd_getElem (show j < p.length by omega)] at h2
        exact e1 ((List.getElem_inj hn).1 h2).symm
      rw [← ih, rd_set_ne9 _ hne]
theorem msort_perm9 (l : List Int) : (msort l).Perm l := List.mergeSort_perm l _
theorem ordQ_facts {p : List Int} {n : Int} (h : ordQ p n = true) : (p.length : Int) = n ∧ p.Nodup ∧ (∀ x ∈ p, 0 ≤ x ∧ x < p.length) ∧ (upTo p.length).Perm p := by
  unfold ordQ at h
  rw [Bool.and_eq_true, decide_eq_true_eq, decide_eq_true_eq] at h
  have hp : (upTo p.length).Perm p := by rw [← h.1]; exact msort_perm9 p
  refine ⟨h.2, ?_, fun x hx => ?_, hp⟩
  · refine (hp.nodup_iff).1 ?_
    unfold upTo
    rw [List.nodup_iff_pairwise_ne, List.pairwise_map]
    exact (List.nodup_range).imp (fun h e => h (by omega))
  · have := (hp.mem_iff).2 hx
    simp only [upTo, List.mem_map, List.mem_range] at this
    obtain ⟨i, hi, e⟩ := this
    omega
theorem ordQ_rd {p : List Int} {n : Int} (h : ordQ p n = true) : ∀ j : Nat, j < p.length → 0 ≤ rd p (j : Int) ∧ rd p (j : Int) < p.length := fun j hj => by
  rw [rd_getElem hj]
  exact (ordQ_facts h).2.2.1 _ (List.getElem_mem _)
theorem ordQ_onto {p : List Int} {n : Int} (h : ordQ p n = true) {k : Nat} (hk : k < p.length) : ∃ j : Nat, j < p.length ∧ rd p (j : Int) = k := by
  have : (k : Int) ∈ p := (ordQ_facts h).2.2.2.mem_iff.1 (by simp only [upTo, List.mem_map, List.mem_range]; exact ⟨k, hk, rfl⟩)
  obtain ⟨j, hj, e⟩ := List.getElem_of_mem this
  exact ⟨j, hj, by rw [rd_getElem hj, e]⟩
theorem prd_perm {a b : List Int} (h : a.Perm b) : prd a = prd b := by
  induction h with
  | nil => rfl
  | cons x _ ih => simp only [prd, ih]
  | swap x y l => simp only [prd]; rw [← Int.mul_assoc, ← Int.mul_assoc, Int.mul_comm x y]
  | trans _ _ h1 h2 => exact h1.trans h2
theorem ospL_perm {s p : List Int} (h : ordQ p s.length = true) : (ospL s p).Perm s := by
  obtain ⟨hl, hn, hb, hp⟩ := ordQ_facts h
  have hl2 : p.length = s.length := by omega
  have e1 : s = p.map (fun k => rd (ospL s p) k) := by
    apply List.ext_getElem (by simp [hl2])
    intro j h1 h2
    rw [List.getElem_map]
    have hj : j < p.length := by simpa using h2
    have := putN_rd hn (fun x hx => (hb x hx).1) p.length s p.length (Nat.le_refl _) j hj (ordQ_rd h j hj).2
    rw [rd_getElem hj, rd_getElem h1] at this
    exact this.symm
  have e2 : ospL s p = (upTo p.length).map (fun k => rd (ospL s p) k) := by
    apply List.ext_getElem (by unfold ospL; rw [putN_length]; simp [upTo])
    intro j h1 h2
    rw [List.getElem_map]
    have : (upTo p.length)[j]'(by simpa using h2) = (j : Int) := by simp [upTo]
    rw [this, rd_getElem h1]
  have h3 := hp.map (fun k => rd (ospL s p) k)
  rw [← e1, ← e2] at h3
  exact h3
theorem ospL_len (s p : List Int) : (ospL s p).length = p.length := by unfold ospL; rw [putN_length]
theorem ospL_isSp {s p : List Int} (hs : isSp s = true) (h : ordQ p s.length = true) : isSp (ospL s p) = true := by
  have hp := ospL_perm h
  have h0 := (isSp_iff s).1 hs
  refine (isSp_iff _).2 ⟨by rw [hp.length_eq]; exact h0.1, by rw [hp.length_eq]; exact h0.2.1, ?_, by rw [prd_perm hp]; exact h0.2.2.2⟩
  rw [List.all_eq_true]
  intro x hx
  exact List.all_eq_true.1 h0.2.2.1 x (hp.mem_iff.1 hx)
theorem ospL_rd {s p : List Int} (h : ordQ p s.length = true) {j : Nat} (hj : j < p.length) : rd (ospL s p) (rd p (j : Int)) = rd s (j : Int) := by
  obtain ⟨hl, hn, hb, hp⟩ := ordQ_facts h
  exact putN_rd hn (fun x hx => (hb x hx).1) p.length s p.length (Nat.le_refl _) j hj (ordQ_rd h j hj).2
theorem putN_inR {s p e : List Int} (hs : isSp s = true) (h : ordQ p s.length = true) (hi : inR s e = true) (he : s.length ≤ e.length) {N : Nat} (hN : p.length ≤ N) : inR (ospL s p) (putN N e p p.length) = true := by
  obtain ⟨hl, hn, hb, hp⟩ := ordQ_facts h
  have hl2 : p.length = s.length := by omega
  refine inR_of _ _ fun k hk _ => ?_
  rw [ospL_len] at hk
  obtain ⟨j, hj, ej⟩ := ordQ_onto h hk
  have h1 := putN_rd hn (fun x hx => (hb x hx).1) N e p.length (Nat.le_refl _) j hj (by have := (ordQ_rd h j hj).2; omega)
  have h2 := ospL_rd h hj
  rw [ej] at h1 h2
  rw [h1, h2]
  exact inR_rd s e j hi (by omega) (by omega)
def plW (s p : List Int) (x : Int) : Int := hor 0 (ospL s p) (putN 8 (dig8 s x) p p.length)
end Go.Proofs.Ytemjamfcepoefaa.P
set_option linter.unusedVariables false
set_option linter.unusedSimpArgs false
namespace Go.Proofs.Ytemjamfcepoefaa.Q
open Go.RowKit Go.Proofs.Ytemjamfcepoefaa.P Go.Proofs.YtemjamfcepoefaaW.PrintWords CC
theorem ordL_of {R l : List Int} (hR : R.Pairwise (· < ·)) (hm : ∀ y, y ∈ R ↔ y ∈ l) : R = ordL l := asc_ext hR (ordL_pw l) (fun y => by rw [hm, ordL_mem])
theorem ordL_put (L : List Int) (x : Int) : ordL (ordL L ++ [x]) = ordL (L ++ [x]) := ordL_of (ordL_pw _) (fun y => by rw [ordL_mem, List.mem_append, List.mem_append, ordL_mem])
theorem ordL_asc {l : List Int} (h : l.Pairwise (· < ·)) : ordL l = l := (ordL_of h (fun _ => Iff.rfl)).symm
theorem asc_pw : ∀ {l : List Int}, asc l = true → l.Pairwise (· < ·)
  | [], _ => List.Pairwise.nil
  | [a], _ => by simp
  | a :: b :: t, h => by
    simp only [asc, Bool.and_eq_true, decide_eq_true_eq] at h
    have ih := asc_pw h.2
    rw [List.pairwise_cons]
    refine ⟨fun y hy => ?_, ih⟩
    rcases List.mem_cons.1 hy with rfl | hy
    · exact h.1
    · have := (List.pairwise_cons.1 ih).1 y hy
      omega
theorem l01Own_eq (l : List Int) (hl : l.length ≤ 1048576) : spec_l01Own.f l = some l := by
  unfold spec_l01Own.f
  simp only [Option.bind_some, List.length_nil, List.nil_append]
  rw [if_pos (by omega)]
theorem mem_take_drop {l : List Int} (n : Nat) (y : Int) : y ∈ l.take n ∨ y ∈ l.drop n ↔ y ∈ l := by
  rw [← List.mem_append, List.take_append_drop]
theorem put_pw {l : List Int} (h : l.Pairwise (· < ·)) {x : Int} {n : Nat} (h1 : ∀ y ∈ l.take n, y < x) (h2 : ∀ y ∈ l.drop n, x < y) : (l.take n ++ [x] ++ l.drop n).Pairwise (· < ·) := by
  rw [← List.take_append_drop n l, List.pairwise_append] at h
  rw [List.append_assoc, List.pairwise_append]
  refine ⟨h.1, ?_, fun a ha b hb => ?_⟩
  · rw [List.singleton_append, List.pairwise_cons]
    exact ⟨h2, h.2.1⟩
  · rcases List.mem_append.1 hb with hb | hb
    · rw [List.mem_singleton] at hb
      subst hb
      exact h1 a ha
    · exact h.2.2 a ha b hb
theorem put_eq {l : List Int} (h : l.Pairwise (· < ·)) {x : Int} {n : Nat} (h1 : ∀ y ∈ l.take n, y < x) (h2 : ∀ y ∈ l.drop n, x < y) : l.take n ++ [x] ++ l.drop n = ordL (l ++ [x]) :=
  ordL_of (put_pw h h1 h2) (fun y => by
    simp only [List.mem_append]
    have := mem_take_drop (l := l) n y
    constructor
    · rintro ((h | h) | h)
      · exact .inl (this.1 (.inl h))
      · exact .inr h
      · exact .inl (this.1 (.inr h))
    · rintro (h | h)
      · rcases this.2 h with h | h
        · exact .inl (.inl h)
        · exact .inr h
      · exact .inl (.inr h))
theorem l01Put_l {l : List Int} (h : l.Pairwise (· < ·)) (hl : l.length ≤ 1048576) (x : Int) : ∀ n, n ≤ l.length → (∀ y ∈ l.drop n, x < y) → Ev (fun k => spec_l01Put.l0 k l x (n : Int)) (ordL (l ++ [x]))
  | 0, hn, hd => by
    refine Ev.step (fun k => by simp only [spec_l01Put.l0]; exact rfl) ?_
    refine Ev.iff_neg (by omega) (Ev.iff_pos (by omega) (Ev.iff_pos (by omega) ?_))
    refine Ev.bindc (l01Own_eq _ (by simp)) ?_
    refine Ev.iff_pos (by simp) ?_
    refine Ev.bindc rfl (Ev.bindc rfl ?_)
    refine Ev.iff_pos (by simp; omega) ?_
    have := put_eq h (x := x) (n := 0) (by simp) hd
    rw [← this]
    exact Ev.now _
  | n + 1, hn, hd => by
    have e1 : wrap64 (((n + 1 : Nat) : Int) - 1) = (n : Int) := by rw [wrap_id (by omega) (by omega)]; omega
    have hdc := drop_cons l (show n < l.length by omega)
    have htk := take_rd8 (d := l) (show n < l.length by omega)
    refine Ev.step (fun k => by simp only [spec_l01Put.l0]; exact rfl) ?_
    rw [e1]
    refine Ev.iff_pos (by omega) (Ev.iff_pos (by omega) (Ev.iff_pos (by omega) ?_))
    by_cases h1 : rd l (n : Int) > x
    · refine Ev.iff_pos h1 ?_
      refine l01Put_l h hl x n (by omega) (fun y hy => ?_)
      rw [hdc] at hy
      rcases List.mem_cons.1 hy with rfl | hy
      · exact h1
      · exact hd y hy
    · refine Ev.iff_neg h1 ?_
      by_cases h2 : rd l (n : Int) = x
      · refine Ev.iff_pos h2 ?_
        have hm : x ∈ l := by
          rw [← mem_take_drop n, hdc, h2]
          simp
        have : ordL (l ++ [x]) = l := (ordL_of h (fun y => by
          rw [List.mem_append, List.mem_singleton]
          constructor
          · exact .inl
          · rintro (h | rfl)
            · exact h
            · exact hm)).symm
        rw [this]
        exact Ev.now _
      · refine Ev.iff_neg h2 (Ev.iff_pos (by omega) (Ev.iff_pos (by omega) ?_))
        have htl : (l.take (n + 1)).length ≤ n + 1 := List.length_take_le _ _
        rw [Int.toNat_natCast]
        refine Ev.bindc (l01Own_eq _ (by omega)) ?_
        refine Ev.iff_pos (by omega) ?_
        refine Ev.bindc rfl (Ev.bindc rfl ?_)
        refine Ev.iff_pos (by rw [List.length_append, List.length_drop, List.length_singleton]; omega) ?_
        have hp : ∀ y ∈ l.take (n + 1), y < x := fun y hy => by
          have hpw := h
          rw [← List.take_append_drop (n + 1) l, List.pairwise_append, htk, List.pairwise_append] at hpw
          rw [htk, List.mem_append, List.mem_singleton] at hy
          rcases hy with hy | rfl
          · have := hpw.1.2.2 y hy (rd l (n : Int)) (by simp)
            omega
          · omega
        rw [← put_eq h hp hd]
        exact Ev.now _
theorem l01Put_ev {l : List Int} (h : l.Pairwise (· < ·)) (hl : l.length ≤ 1048576) (x : Int) : Ev (fun k => spec_l01Put.f k l x) (ordL (l ++ [x])) := by
  unfold spec_l01Put.f
  exact l01Put_l h hl x l.length (Nat.le_refl _) (by simp)
theorem isW_in {s : List Int} (h : isSp s = true) (x : Int) : spec_l01In.f x 0 (wrap64 (prd s - 1)) = some (isW s x) := by
  have h1 := isSp_prd h
  have h2 := isSp_prd1 h
  rw [l01In_eq, wrap_id (by omega) (by omega)]
  unfold isW
  congr 1
  rw [← Bool.decide_and]
  exact decide_eq_decide.2 (by omega)
theorem areWords_l {s c : List Int} (hc : c.length ≤ 1048576) : ∀ (m n : Nat), n + m = c.length →
    Ev (fun k => impl_areWords.l0 k (prd s) c (c.length : Int) (n : Int)) ((c.drop n).all (isW s))
  | 0, n, hm => by
    rw [drop_all (by omega)]
    refine Ev.step (f := fun k => some true) (fun k => ?_) (Ev.now _)
    simp only [impl_areWords.l0]
    rw [if_neg (by omega)]
  | m + 1, n, hm => by
    have hn : n < c.length := by omega
    rw [drop_cons c hn, List.all_cons]
    by_cases h0 : rd c (n : Int) < 0
    · have : isW s (rd c (n : Int)) = false := by simp [isW]; omega
      rw [this, Bool.false_and]
      refine Ev.step (f := fun k => some false) (fun k => ?_) (Ev.now _)
      simp only [impl_areWords.l0]
      rw [if_pos (by omega), if_pos (by omega), if_pos (by omega), if_pos h0]
    by_cases h1 : rd c (n : Int) ≥ prd s
    · have : isW s (rd c (n : Int)) = false := by simp [isW]; omega
      rw [this, Bool.false_and]
      refine Ev.step (f := fun k => some false) (fun k => ?_) (Ev.now _)
      simp only [impl_areWords.l0]
      rw [if_pos (by omega), if_pos (by omega), if_pos (by omega), if_neg h0, if_pos h1]
    · have : isW s (rd c (n : Int)) = true := by simp [isW]; omega
      rw [this, Bool.true_and]
      refine Ev.step (f := fun k => impl_areWords.l0 k (prd s) c (c.length : Int) ((n + 1 : Nat) : Int)) (fun k => ?_) (areWords_l hc m (n + 1) (by omega))
      simp only [impl_areWords.l0]
      rw [if_pos (by omega), if_pos (by omega), if_pos (by omega), if_neg h0, if_neg h1, wrap_nat (by unfold maxLen; omega)]
theorem areWords_ev {s c : List Int} (hs : isSp s = true) (hc : c.length ≤ 1048576) : Ev (fun k => impl_areWords.f k s c) (c.all (isW s)) := by
  unfold impl_areWords.f
  refine Ev.bind (count_sp hs) ?_
  simpa using areWords_l (s := s) hc c.length 0 (by omega)
def rWords (s c : List Int) : Int := if isSp s then if c.all (isW s) then 0 else 2 else 1
theorem rWords_zero {s c : List Int} (h : rWords s c = 0) : isSp s = true ∧ ∀ x ∈ c, isW s x = true := by
  unfold rWords at h
  split at h
  · rename_i hs
    split at h
    · rename_i hc
      exact ⟨hs, List.all_eq_true.1 hc⟩
    · cases h
  · cases h
theorem wordCode_ev (s : List Int) {c : List Int} (hc : c.length ≤ 1048576) : Ev (fun k => impl_wordCode.f k s c) (rWords s c) := by
  unfold impl_wordCode.f rWords
  refine Ev.bind (isSpace_ev s) ?_
  by_cases h : isSp s = true
  · simp only [h, if_true]
    refine Ev.bind (areWords_ev h hc) ?_
    by_cases h2 : c.all (isW s) = true
    · simp only [h2, if_true]
      exact Ev.now _
    · simp only [h2, if_false]
      exact Ev.now _
  · simp only [h, if_false]
    exact Ev.now _
theorem all_rd {s : List Int} (h : s.all sizeOk = true) {n : Nat} (hn : n < s.length) : rd s (n : Int) = 2 ∨ rd s (n : Int) = 3 ∨ rd s (n : Int) = 4 := by
  rw [← sizeOk_iff, rd_nat]
  simp only [List.getD_eq_getElem?_getD, List.getElem?_eq_getElem hn, Option.getD_some]
  exact List.all_eq_true.1 h _ (List.getElem_mem hn)
theorem hor_step {a q x : Int} {n : Nat} (hn : n + 1 ≤ 8) (hq : q = 2 ∨ q = 3 ∨ q = 4) (h0 : 0 ≤ a) (h1 : a + 1 ≤ 4 ^ n) (x0 : 0 ≤ x) (x1 : x < q) :
    wrap64 (wrap64 (a * q) + x) = a * q + x ∧ 0 ≤ a * q + x ∧ a * q + x + 1 ≤ 4 ^ (n + 1) := by
  have hb := pow48 hn
  rw [Int.pow_succ] at hb ⊢
  rcases hq with rfl | rfl | rfl
  all_goals
    rw [wrap_id (x := a * _) (by omega) (by omega), wrap_id (by omega) (by omega)]
    omega
theorem tmod_pos {x q : Int} (h : 0 ≤ x) : Int.tmod x q = x % q := Int.tmod_eq_emod_of_nonneg h
theorem tdiv_pos {x q : Int} (h : 0 ≤ x) (hq : 0 ≤ q) : Int.tdiv x q = x / q := Int.tdiv_eq_ediv_of_nonneg h
theorem div_bounds {x q : Int} (h0 : 0 ≤ x) (h1 : x ≤ 1024) (hq : q = 2 ∨ q = 3 ∨ q = 4) : 0 ≤ x / q ∧ x / q ≤ 1024 ∧ wrap64 (Int.tdiv x q) = x / q ∧ Int.tmod x q = x % q := by
  have h2 : 0 ≤ x / q ∧ x / q ≤ 1024 := by rcases hq with rfl | rfl | rfl <;> omega
  refine ⟨h2.1, h2.2, ?_, tmod_pos h0⟩
  rw [tdiv_pos h0 (by omega), wrap_id (by omega) (by omega)]
theorem pred_nat (n : Nat) (h : n ≤ 100) : wrap64 (((n : Nat) : Int) - 1) = (n : Int) - 1 := wrap_id (by omega) (by omega)
theorem isW_b {s : List Int} (hs : isSp s = true) {x : Int} (h : isW s x = true) : 0 ≤ x ∧ x ≤ 1024 := by
  have h1 := (isW_iff s x).1 h
  have h2 := isSp_prd hs
  omega
theorem prev_nat {n : Nat} (h : n < maxLen) : wrap64 (((n + 1 : Nat) : Int) - 1) = (n : Int) := by
  unfold maxLen at h
  unfold wrap64
  omega
theorem l01Code_l {s c : List Int} (hs : isSp s = true) (hc : c.length ≤ 1048576) : ∀ (m n : Nat), n + 1 + m = c.length →
    Ev (fun k => spec_l01Code.l0 k c ((n + 1 : Nat) : Int) s) ((c.drop (n + 1)).all (isW s) && asc (c.drop n))
  | 0, n, hm => by
    rw [drop_cons c (show n < c.length by omega), drop_all (s := c) (n := n + 1) (by omega)]
    refine Ev.step (f := fun k => some true) (fun k => ?_) (by simpa [asc] using Ev.now _)
    simp only [spec_l01Code.l0]
    rw [if_neg (by omega)]
  | m + 1, n, hm => by
    have hn : n < c.length := by omega
    have hn2 : n + 1 < c.length := by omega
    rw [drop_cons c hn, drop_cons c hn2, List.all_cons]
    refine Ev.step (fun k => by simp only [spec_l01Code.l0]; exact rfl) ?_
    refine Ev.iff_pos (by omega) (Ev.iff_pos (by omega) (Ev.bind (l01N_sp hs) (Ev.bindc (isW_in hs _) ?_)))
    cases h : isW s (rd c ((n + 1 : Nat) : Int)) with
    | false => simpa using Ev.now _
    | true =>
      rw [asc, Bool.true_and]
      refine Ev.iff_pos rfl (Ev.iff_pos (by omega) ?_)
      rw [prev_nat (by unfold maxLen; omega)]
      refine Ev.iff_pos (by omega) (Ev.iff_pos (by omega) ?_)
      by_cases hlt : rd c (n : Int) < rd c ((n + 1 : Nat) : Int)
      · refine Ev.iff_neg (by omega) ?_
        rw [wrap_nat (by unfold maxLen; omega)]
        have := l01Code_l hs hc m (n + 1) (by omega)
        rw [drop_cons c hn2] at this
        rw [decide_eq_true hlt, Bool.true_and]
        exact this
      · refine Ev.iff_pos (by omega) ?_
        rw [decide_eq_false hlt, Bool.false_and, Bool.and_false]
        exact Ev.now _
theorem l01Code_ev {s c : List Int} (hs : isSp s = true) (hc : c.length ≤ 1048576) : Ev (fun k => spec_l01Code.f k s c) (isC s c) := by
  unfold spec_l01Code.f isC
  cases c with
  | nil =>
    refine Ev.step (f := fun k => some true) (fun k => ?_) (Ev.now _)
    simp only [spec_l01Code.l0]
    rw [if_neg (by simp)]
  | cons a t =>
    refine Ev.step (fun k => by simp only [spec_l01Code.l0]; exact rfl) ?_
    refine Ev.iff_pos (by simp only [List.length_cons]; omega) (Ev.iff_pos (by omega) (Ev.bind (l01N_sp hs) (Ev.bindc (isW_in hs _) ?_)))
    have e : rd (a :: t) 0 = a := by simp [rd]
    rw [e, List.all_cons]
    cases h : isW s a with
    | false => simpa using Ev.now _
    | true =>
      refine Ev.iff_pos rfl (Ev.iff_neg (by omega) ?_)
      have := l01Code_l hs hc t.length 0 (by simp only [List.length_cons]; omega)
      rw [show wrap64 (0 + 1) = ((0 + 1 : Nat) : Int) from by simp [wrap64], Bool.true_and]
      simpa using this
theorem isCode_l {c : List Int} (hc : c.length ≤ 1048576) : ∀ (m n : Nat), n + 1 + m = c.length →
    Ev (fun k => impl_isCode.l0 k c ((n + 1 : Nat) : Int)) (asc (c.drop n))
  | 0, n, hm => by
    rw [drop_cons c (show n < c.length by omega), drop_all (s := c) (n := n + 1) (by omega)]
    refine Ev.step (f := fun k => some true) (fun k => ?_) (by simpa [asc] using Ev.now _)
    simp only [impl_isCode.l0]
    rw [if_neg (by omega)]
  | m + 1, n, hm => by
    have hn : n < c.length := by omega
    have hn2 : n + 1 < c.length := by omega
    rw [drop_cons c hn, drop_cons c hn2]
    refine Ev.step (fun k => by simp only [impl_isCode.l0]; exact rfl) ?_
    refine Ev.iff_pos (by omega) (Ev.iff_pos (by omega) ?_)
    rw [prev_nat (by unfold maxLen; omega)]
    refine Ev.iff_pos (by omega) (Ev.iff_pos (by omega) ?_)
    rw [asc]
    by_cases hlt : rd c (n : Int) < rd c ((n + 1 : Nat) : Int)
    · refine Ev.iff_neg (by omega) ?_
      rw [wrap_nat (by unfold maxLen; omega)]
      have := isCode_l hc m (n + 1) (by omega)
      rw [drop_cons c hn2] at this
      rw [decide_eq_true hlt, Bool.true_and]
      exact this
    · refine Ev.iff_pos (by omega) ?_
      rw [decide_eq_false hlt, Bool.false_and]
      exact Ev.now _
theorem isCode_ev {s c : List Int} (hs : isSp s = true) (hc : c.length ≤ 1048576) : Ev (fun k => impl_isCode.f k s c) (isC s c) := by
  unfold impl_isCode.f
  refine Ev.bind (count_sp hs) ?_
  by_cases hlen : (c.length : Int) > prd s
  · have : isC s c = false := by
      cases h : isC s c with
      | false => rfl
      | true =>
        have := isC_length hs h
        omega
    rw [this]
    refine Ev.iff_pos hlen ?_
    refine Ev.step (f := fun k => some false) (fun k => ?_) (Ev.now _)
    simp [impl_isCode.j0]
  · refine Ev.iff_neg hlen (Ev.bind (areWords_ev hs hc) ?_)
    unfold isC
    cases h : c.all (isW s) with
    | false =>
      refine Ev.step (f := fun k => some false) (fun k => ?_) (Ev.now _)
      simp [impl_isCode.j0]
    | true =>
      refine Ev.step (f := fun k => impl_isCode.l0 k c 1) (fun k => ?_) ?_
      · simp [impl_isCode.j0]
      · rw [Bool.true_and]
        cases c with
        | nil =>
          refine Ev.step (f := fun k => some true) (fun k => ?_) (Ev.now _)
          simp [impl_isCode.l0]
        | cons a t =>
          have := isCode_l hc t.length 0 (by simp only [List.length_cons]; omega)
          simpa using this
theorem l01Word_l (s d : List Int) (hs : s.all sizeOk = true) (hl : s.length ≤ 8) (hd : d.length = s.length) : ∀ (m n : Nat) (a : Int), n + m = s.length → 0 ≤ a → a + 1 ≤ 4 ^ n → inR (s.drop n) (d.drop n) = true →
    Ev (fun k => spec_l01Word.l0 k d a (n : Int) s) (hor a (s.drop n) (d.drop n))
  | 0, n, a, hm, h0, h1, hr => by
    refine Ev.step (f := fun _ => some a) (fun k => ?_) ?_
    · simp only [spec_l01Word.l0]
      rw [if_neg (by omega)]
    · rw [drop_all (by omega)]
      exact Ev.now a
  | m + 1, n, a, hm, h0, h1, hr => by
    have hn : n < s.length := by omega
    have hn2 : n < d.length := by omega
    rw [drop_cons s hn, drop_cons d hn2] at hr ⊢
    simp only [inR, Bool.and_eq_true, decide_eq_true_eq] at hr
    obtain ⟨e, b0, b1⟩ := hor_step (n := n) (by omega) (all_rd hs hn) h0 h1 hr.1.1 hr.1.2
    refine Ev.step (f := fun k => spec_l01Word.l0 k d (a * rd s (n : Int) + rd d (n : Int)) ((n + 1 : Nat) : Int) s) (fun k => ?_) ?_
    · simp only [spec_l01Word.l0]
      rw [if_pos (by omega), if_pos (by omega), if_pos (by omega), e, wrap_nat (by unfold maxLen; omega)]
    · exact l01Word_l s d hs hl hd m (n + 1) _ (by omega) b0 b1 hr.2
theorem l01Word_ev {s d : List Int} (hs : s.all sizeOk = true) (hl : s.length ≤ 8) (hd : d.length = s.length) (hr : inR s d = true) : Ev (fun k => spec_l01Word.f k s d) (wd s d) := by
  unfold spec_l01Word.f wd
  simpa using l01Word_l s d hs hl hd s.length 0 0 (by omega) (by omega) (by simp) (by simpa using hr)
def rCode (s c ws : List Int) : Int := if rWords s ws = 0 then if isC s c then 0 else 2 else rWords s ws
theorem rCode_zero {s c ws : List Int} (h : rCode s c ws = 0) : isSp s = true ∧ isC s c = true ∧ ∀ x ∈ ws, isW s x = true := by
  unfold rCode at h
  split at h
  · rename_i hw
    obtain ⟨h1, h2⟩ := rWords_zero hw
    split at h
    · rename_i hc
      exact ⟨h1, hc, h2⟩
    · cases h
  · rename_i hw
    exact absurd h hw
theorem rWords_nil (s : List Int) : rWords s [] = if isSp s then 0 else 1 := by
  unfold rWords
  by_cases h : isSp s = true <;> simp [h]
theorem isC_len {s c : List Int} (hs : isSp s = true) (h : isC s c = true) : c.length ≤ 1024 := by
  have := isC_length hs h
  have := isSp_prd hs
  omega
theorem isC_words {s c : List Int} (h : isC s c = true) : ∀ x ∈ c, isW s x = true := by
  simp only [isC, Bool.and_eq_true, List.all_eq_true] at h
  exact h.1
theorem isC_asc {s c : List Int} (h : isC s c = true) : asc c = true := by
  simp only [isC, Bool.and_eq_true] at h
  exact h.2
theorem isC_rd {s c : List Int} (h : isC s c = true) {n : Nat} (hn : n < c.length) : isW s (rd c (n : Int)) = true := by
  have : rd c (n : Int) = c[n] := by simp [rd, List.getD_eq_getElem?_getD, hn]
  rw [this]
  exact isC_words h _ (List.getElem_mem hn)
theorem codeCode_ev (s : List Int) {c ws : List Int} (hc : c.length ≤ 1048576) (hw : ws.length ≤ 1048576) : Ev (fun k => impl_codeCode.f k s c ws) (rCode s c ws) := by
  unfold impl_codeCode.f rCode
  refine Ev.bind (wordCode_ev s hw) ?_
  by_cases h : rWords s ws = 0
  · obtain ⟨hs, _⟩ := rWords_zero h
    simp only [if_pos h]
    refine Ev.bind (isCode_ev hs hc) ?_
    cases isC s c with
    | true => exact Ev.iff_pos rfl (Ev.now _)
    | false => exact Ev.iff_neg (by simp) (Ev.now _)
  · simp only [if_neg h]
    exact Ev.now _
theorem l01Given_ev (s : List Int) {c : List Int} (hc : c.length ≤ 1048576) : Ev (fun k => spec_l01Given.f k s c) (rCode s c []) := by
  unfold spec_l01Given.f rCode
  rw [rWords_nil]
  refine Ev.bind (l01Is_ev s) ?_
  by_cases hs : isSp s = true
  · simp only [hs, if_true]
    refine Ev.bind (l01Code_ev hs hc) ?_
    cases isC s c with
    | true => exact Ev.iff_pos rfl (Ev.now _)
    | false => exact Ev.iff_neg (by simp) (Ev.now _)
  · simp only [hs]
    exact Ev.now _
def selL (p : Int → Bool) (n : Nat) : List Int := ((List.range n).filter fun (i : Nat) => p (i : Int)).map fun (i : Nat) => (i : Int)
theorem selL_succ (p : Int → Bool) (n : Nat) : selL p (n + 1) = selL p n ++ if p (n : Int) then [(n : Int)] else [] := by
  unfold selL
  rw [List.range_succ, List.filter_append, List.map_append]
  congr 1
  by_cases h : p (n : Int) = true <;> simp [h]
theorem selL_len (p : Int → Bool) (n : Nat) : (selL p n).length ≤ n := by
  unfold selL
  have := List.length_filter_le (fun (i : Nat) => p (i : Int)) (List.range n)
  simpa using this
theorem mem_selL {p : Int → Bool} {n : Nat} {x : Int} : x ∈ selL p n ↔ 0 ≤ x ∧ x < n ∧ p x = true := by
  unfold selL
  simp only [List.mem_map, List.mem_filter, List.mem_range]
  constructor
  · rintro ⟨i, ⟨h1, h2⟩, rfl⟩
    exact ⟨by omega, by omega, h2⟩
  · rintro ⟨h1, h2, h3⟩
    obtain ⟨m, rfl⟩ := Int.eq_ofNat_of_zero_le h1
    exact ⟨m, ⟨by omega, h3⟩, rfl⟩
theorem l01Digits_l {s : List Int} (hs : s.all sizeOk = true) (hl : s.length ≤ 8) : ∀ (n : Nat) (u : Int) (ar : List Int), n ≤ s.length → ar.length = s.length → 0 ≤ u → u ≤ 1024 →
    Ev (fun k => spec_l01Digits.l0 k u ar ((n : Int) - 1) s) (dloop s n u ar)
  | 0, u, ar, _, _, _, _ => by
    refine Ev.step (f := fun k => some ar) (fun k => ?_) (Ev.now _)
    simp only [spec_l01Digits.l0]
    rw [if_neg (by omega)]
  | n + 1, u, ar, hn, ha, u0, u1 => by
    have hq := all_rd hs (show n < s.length by omega)
    obtain ⟨b0, b1, b2, b3⟩ := div_bounds u0 u1 hq
    have e : ((n + 1 : Nat) : Int) - 1 = (n : Int) := by omega
    rw [e]
    refine Ev.step (fun k => by simp only [spec_l01Digits.l0]; exact rfl) ?_
    refine Ev.iff_pos (by omega) (Ev.iff_pos (by omega) (Ev.iff_pos (by omega) (Ev.iff_neg (by omega) (Ev.iff_pos (by omega) ?_))))
    rw [b2, b3, pred_nat n (by omega), Int.toNat_natCast]
    exact l01Digits_l hs hl n _ _ (by omega) (by simpa using ha) b0 b1
theorem l01Digits_ev {s : List Int} (hs : isSp s = true) {w : Int} (hw : isW s w = true) : Ev (fun k => spec_l01Digits.f k s w) (dg s w) := by
  have hl := isSp_len hs
  obtain ⟨w0, w1⟩ := isW_b hs hw
  unfold spec_l01Digits.f
  refine Ev.iff_pos (by omega) (Ev.iff_pos (by omega) ?_)
  have e : wrap64 ((s.length : Int) - 1) = (s.length : Int) - 1 := wrap_id (by omega) (by omega)
  rw [e]
  have := l01Digits_l (isSp_all hs) hl s.length w (List.replicate ((s.length : Int)).toNat 0) (Nat.le_refl _) (by simp) w0 w1
  rw [dloop_eq s s.length w _ (Nat.le_refl _) (by simp)] at this
  simpa [dg] using this
def genL (g : Nat → Int) (n : Nat) : List Int := (List.range n).map g
theorem genL_length (g : Nat → Int) (n : Nat) : (genL g n).length = n := by simp [genL]
theorem genL_succ (g : Nat → Int) (n : Nat) : genL g (n + 1) = genL g n ++ [g n] := by simp [genL, List.range_succ]
theorem genL_rd (g : Nat → Int) {n k : Nat} (h : k < n) : rd (genL g n) (k : Int) = g k := by simp [rd, genL, List.getD_eq_getElem?_getD, h]
theorem genL_set {g : Nat → Int} {n : Nat} {d : List Int} (h : n < d.length) : (genL g n ++ d.drop n).set n (g n) = genL g (n + 1) ++ d.drop (n + 1) := by
  rw [List.set_append_right _ _ (by rw [genL_length]; exact Nat.le_refl _), genL_length, Nat.sub_self, genL_succ, List.append_assoc]
  congr 1
  rw [List.drop_eq_getElem_cons h]
  rfl
theorem genL_old {g : Nat → Int} {n : Nat} {d : List Int} (h : n < d.length) : rd (genL g n ++ d.drop n) (n : Int) = rd d (n : Int) := by
  rw [rd_nat, rd_nat, List.getD_eq_getElem?_getD, List.getElem?_append_right (by rw [genL_length]; exact Nat.le_refl _), genL_length, Nat.sub_self, List.getElem?_drop]
  simp [List.getD_eq_getElem?_getD]
theorem genL_congr {g h : Nat → Int} {n : Nat} (e : ∀ k, k < n → g k = h k) : genL g n = genL h n := by
  unfold genL
  apply List.map_congr_left
  intro k hk
  exact e k (List.mem_range.1 hk)
theorem genL_inR {s : List Int} {g : Nat → Int} (h : ∀ k, k < s.length → 0 ≤ g k ∧ g k < rd s (k : Int)) : inR s (genL g s.length) = true := by
  refine inR_of _ _ fun k h1 h2 => ?_
  rw [genL_rd g h1]
  exact h k h1
theorem upd8_gen (g : Nat → Int) {n : Nat} (hn : n ≤ 8) : upd8 g n = genL g n ++ List.replicate (8 - n) 0 := by
  apply List.ext_getElem?
  intro k
  by_cases h8 : k < 8
  · by_cases hk : k < n
    · rw [List.getElem?_append_left (by rw [genL_length]; exact hk)]
      simp [upd8, genL, h8, hk]
    · rw [List.getElem?_append_right (by rw [genL_length]; omega), genL_length, List.getElem?_replicate, if_pos (by omega)]
      simp [upd8, h8, hk]
  · rw [List.getElem?_eq_none (by rw [upd8_length]; omega), List.getElem?_eq_none (by simp [genL_length]; omega)]
def sumL (s a b : List Int) : List Int := genL (fun k => (rd a (k : Int) + rd b (k : Int)) % rd s (k : Int)) s.length
def sumW (s : List Int) (u w : Int) : Int := wd s (sumL s (dg s u) (dg s w))
theorem sumL_inR {s : List Int} (hs : s.all sizeOk = true) (a b : List Int) : inR s (sumL s a b) = true := by
  refine genL_inR fun k hk => ?_
  have hq := all_rd hs hk
  exact ⟨Int.emod_nonneg _ (by omega), Int.emod_lt_of_pos _ (by omega)⟩
theorem sumL_length (s a b : List Int) : (sumL s a b).length = s.length := genL_length _ _
theorem rd_dig8 {s : List Int} (hl : s.length ≤ 8) (x : Int) {k : Nat} (hk : k < s.length) : rd (dig8 s x) (k : Int) = rd (dg s x) (k : Int) := by
  rw [dig8_eq hl, rd_nat, rd_nat, List.getD_eq_getElem?_getD, List.getElem?_append_left (by rw [dg_length]; exact hk), List.getD_eq_getElem?_getD]
theorem hor_sum8 {s : List Int} (hs : isSp s = true) (u w : Int) : hor 0 s (sum8 s (dig8 s u) (dig8 s w)) = sumW s u w := by
  unfold sum8 sumW sumL wd
  rw [upd8_gen _ (isSp_len hs), hor_pad (genL_length _ _)]
  congr 1
  apply genL_congr
  intro k hk
  rw [rd_dig8 (isSp_len hs) u hk, rd_dig8 (isSp_len hs) w hk]
theorem sumW_isW {s : List Int} (hs : isSp s = true) (u w : Int) : isW s (sumW s u w) = true :=
  wd_word (isSp_all hs) (sumL_length _ _ _).symm (sumL_inR (isSp_all hs) _ _)
theorem l01Sum_l {s a b : List Int} (hs : s.all sizeOk = true) (hl : s.length ≤ 8) (ha : a.length = s.length) (hb : b.length = s.length) (hr : inR s a = true) (hr2 : inR s b = true) : ∀ (m n : Nat), n + m = s.length →
    Ev (fun k => spec_l01Sum.l0 k (genL (fun k => (rd a (k : Int) + rd b (k : Int)) % rd s (k : Int)) n ++ a.drop n) b (a.length : Int) (n : Int) s) (wd s (sumL s a b))
  | 0, n, hm => by
    obtain rfl : n = s.length := by omega
    refine Ev.step (fun k => by simp only [spec_l01Sum.l0]; exact rfl) (Ev.iff_neg (by omega) ?_)
    rw [List.drop_eq_nil_of_le (by omega), List.append_nil]
    exact Ev.bind (l01Word_ev hs hl (sumL_length s a b) (sumL_inR hs a b)) (Ev.now _)
  | m + 1, n, hm => by
    have hn : n < s.length := by omega
    have hq := all_rd hs hn
    obtain ⟨r0, r1⟩ := inR_rd s a n hr hn (by omega)
    obtain ⟨r2, r3⟩ := inR_rd s b n hr2 hn (by omega)
    refine Ev.step (fun k => by simp only [spec_l01Sum.l0]; exact rfl) ?_
    have hlen : (genL (fun k => (rd a (k : Int) + rd b (k : Int)) % rd s (k : Int)) n ++ a.drop n).length = s.length := by
      simp [genL_length]
      omega
    rw [genL_old (by omega)]
    refine Ev.iff_pos (by omega) (Ev.iff_pos (by omega) (Ev.iff_pos (by omega) (Ev.iff_pos (by omega) (Ev.iff_pos (by omega) (Ev.iff_neg (by omega) ?_)))))
    rw [wrap_id (x := rd a (n : Int) + rd b (n : Int)) (by omega) (by omega), tmod_pos (by omega), wrap_nat (by unfold maxLen; omega), Int.toNat_natCast]
    have := genL_set (g := fun k => (rd a (k : Int) + rd b (k : Int)) % rd s (k : Int)) (n := n) (d := a) (by omega)
    rw [this]
    exact l01Sum_l hs hl ha hb hr hr2 m (n + 1) (by omega)
theorem l01Sum_ev {s : List Int} (hs : isSp s = true) {u w : Int} (hu : isW s u = true) (hw : isW s w = true) : Ev (fun k => spec_l01Sum.f k s u w) (sumW s u w) := by
  unfold spec_l01Sum.f
  refine Ev.bind (l01Digits_ev hs hu) (Ev.bind (l01Digits_ev hs hw) ?_)
  have := l01Sum_l (isSp_all hs) (isSp_len hs) (dg_length s u) (dg_length s w) (inR_dg (isSp_all hs) u) (inR_dg (isSp_all hs) w) s.length 0 (by omega)
  simpa [genL, sumW] using this
def rF1 (s C : List Int) : Int := if rCode s C [] = 0 then (if prd s > 81 then 3 else 0) else rCode s C []
def rF2 (s C D : List Int) : Int := if rCode s C [] = 0 then rF1 s D else rCode s C []
theorem rF1_zero {s C : List Int} (h : rF1 s C = 0) : rCode s C [] = 0 ∧ prd s ≤ 81 := by
  unfold rF1 at h
  split at h
  · rename_i hc
    split at h
    · omega
    · exact ⟨hc, by omega⟩
  · rename_i hc
    exact absurd h hc
theorem formEnd_ev {s : List Int} (hs : isSp s = true) (L : List (List Int)) : Ev (fun k => impl_formCode.l0 k L (L.length : Int) (L.length : Int) s) (if prd s > 81 then 3 else 0) := by
  refine Ev.step (fun k => by simp only [impl_formCode.l0]; exact rfl) (Ev.iff_neg (by omega) ?_)
  refine Ev.bind (count_sp hs) ?_
  by_cases h : prd s > 81
  · simp only [if_pos h]
    exact Ev.now _
  · simp only [if_neg h]
    exact Ev.now _
theorem formStep_ev {s C : List Int} (hC : C.length ≤ 1048576) (L : List (List Int)) {n : Nat} (hn : n < L.length) (hl : L.length ≤ 10) (he : rd_L1 L (n : Int) = C) {r : Int} (hr : rCode s C [] = 0 → Ev (fun k => impl_formCode.l0 k L (L.length : Int) ((n + 1 : Nat) : Int) s) r) (hr2 : rCode s C [] ≠ 0 → r = rCode s C []) :
    Ev (fun k => impl_formCode.l0 k L (L.length : Int) (n : Int) s) r := by
  refine Ev.step (fun k => by simp only [impl_formCode.l0]; exact rfl) (Ev.iff_pos (by omega) (Ev.iff_pos (by omega) (Ev.iff_pos (by omega) ?_)))
  rw [he]
  refine Ev.bind (codeCode_ev s hC (by simp)) ?_
  by_cases h : rCode s C [] = 0
  · refine Ev.iff_pos h ?_
    rw [wrap_nat (by unfold maxLen; omega)]
    exact hr h
  · refine Ev.iff_neg h ?_
    rw [hr2 h]
    exact Ev.now _
theorem formCode1_ev (s : List Int) {C : List Int} (hC : C.length ≤ 1048576) : Ev (fun k => impl_formCode.f k s [C]) (rF1 s C) := by
  unfold impl_formCode.f
  refine formStep_ev (n := 0) hC [C] (by simp) (by simp) rfl (fun h => ?_) (fun h => by unfold rF1; rw [if_neg h])
  have := formEnd_ev (rCode_zero h).1 [C]
  unfold rF1
  rw [if_pos h]
  exact this
theorem rd_mem2 {l : List Int} {n : Nat} (h : n < l.length) : rd l (n : Int) ∈ l := by
  have : rd l (n : Int) = l[n] := by simp [rd, List.getD_eq_getElem?_getD, h]
  rw [this]
  exact List.getElem_mem h
theorem pw_gap {l : List Int} (h : l.Pairwise (· < ·)) {i : Nat} : ∀ (k : Nat) (hk : i + k < l.length), l[i]'(by omega) + k ≤ l[i + k]
  | 0, hk => by simp
  | k + 1, hk => by
    have ih := pw_gap h (i := i) k (by omega)
    have := List.pairwise_iff_getElem.1 h (i + k) (i + k + 1) (by omega) hk (by omega)
    have e : l[i + (k + 1)] = l[i + k + 1] := rfl
    rw [e]
    omega
theorem asc_upTo {l : List Int} (h : l.Pairwise (· < ·)) (hb : ∀ x ∈ l, 0 ≤ x ∧ x < l.length) : l = upTo l.length := by
  apply List.ext_getElem
  · rw [upTo_length]
  · intro j h1 h2
    have a := pw_gap h (i := 0) j (by omega)
    have b := pw_gap h (i := j) (l.length - 1 - j) (by omega)
    have c := hb (l[0]'(by omega)) (List.getElem_mem _)
    have d := hb (l[j + (l.length - 1 - j)]'(by omega)) (List.getElem_mem _)
    simp only [Nat.zero_add] at a
    have : (upTo l.length)[j] = (j : Int) := by simp [upTo]
    rw [this]
    omega
theorem pw_lt_of {l : List Int} (h : l.Pairwise (· ≤ ·)) (hn : l.Nodup) : l.Pairwise (· < ·) := by
  have h2 := List.Pairwise.and h hn
  exact h2.imp (fun h => by have h1 := h.1; have h3 := h.2; omega)
theorem msort_perm (l : List Int) : (msort l).Perm l := List.mergeSort_perm l _
theorem ordQ_of {p : List Int} (hb : ∀ x ∈ p, 0 ≤ x ∧ x < p.length) (hn : p.Nodup) : msort p = upTo p.length := by
  have h1 : (msort p).Nodup := (msort_perm p).nodup_iff.2 hn
  have := asc_upTo (pw_lt_of (msort_pw p) h1) (fun x hx => by
    rw [msort_mem] at hx
    rw [msort_length]
    exact hb x hx)
  rw [msort_length] at this
  exact this
theorem rd_app_left {a b : List Int} {n : Nat} (h : n < a.length) : rd (a ++ b) (n : Int) = rd a (n : Int) := by
  rw [rd_nat, rd_nat, List.getD_eq_getElem?_getD, List.getElem?_append_left h, List.getD_eq_getElem?_getD]
theorem putN_pad {p : List Int} {L : Nat} (hp : ∀ j : Nat, j < p.length → 0 ≤ rd p (j : Int) ∧ rd p (j : Int) < L) (e z : List Int) (he : e.length = L) (hpl : p.length ≤ L) (k : Nat) : ∀ n, n ≤ p.length → putN (L + k) (e ++ z) p n = putN L e p n ++ List.replicate k 0
  | 0, _ => by simp [putN]
  | n + 1, h => by
    have hb := hp n (by omega)
    rw [putN, putN, putN_pad hp e z he hpl k n (by omega), rd_app_left (by omega), List.set_append_left _ _ (by rw [putN_length]; omega)]
theorem plW_wd {s p : List Int} (hs : isSp s = true) (h : ordQ p s.length = true) (x : Int) : plW s p x = wd (ospL s p) (putN p.length (dg s x) p p.length) := by
  obtain ⟨hl, _, _, _⟩ := ordQ_facts h
  have hl8 := isSp_len hs
  have hd := dg_length s x
  unfold plW wd
  have e8 : 8 = p.length + (8 - p.length) := by omega
  rw [dig8_eq hl8, show putN 8 = putN (p.length + (8 - p.length)) from by rw [← e8], putN_pad (ordQ_rd h) (dg s x) _ (by omega) (Nat.le_refl _) (8 - p.length) p.length (Nat.le_refl _), hor_pad (by rw [putN_length, ospL_len])]
theorem specPl_l2 {s p c : List Int} (hs : isSp s = true) (h : ordQ p s.length = true) {m : Nat} (x : Int) {r : List Int × List Int} {x10 : List Int}
    (hnext : Ev (fun j => (spec_l01Word.f j (ospL s p) (putN p.length (dg s x) p p.length)).bind fun t => (spec_l01Put.f j x10 t).bind fun t2 => spec_l03Places.l1 j c p t2 (c.length : Int) (wrap64 ((m : Int) + 1)) s (ospL s p)) r) : ∀ (k n : Nat), n + k = p.length →
    Ev (fun j => spec_l03Places.l2 j c p x10 (dg s x) (putN p.length (dg s x) p n) (c.length : Int) (m : Int) (p.length : Int) (n : Int) s (ospL s p)) r
  | 0, n, hm => by
    obtain rfl : n = p.length := by omega
    refine Ev.step (fun k => by simp only [spec_l03Places.l2]; exact rfl) ?_
    refine Ev.iff_neg (by omega) ?_
    exact hnext
  | k + 1, n, hm => by
    obtain ⟨hl, _, _, _⟩ := ordQ_facts h
    have ih := specPl_l2 hs h x hnext k (n + 1) (by omega)
    have hb := ordQ_rd h n (by omega)
    have hd := dg_length s x
    have hl8 := isSp_len hs
    refine Ev.step (fun k => by simp only [spec_l03Places.l2]; exact rfl) ?_
    refine Ev.iff_pos (by omega) (Ev.iff_pos (by omega) (Ev.iff_pos (by omega) (Ev.iff_pos (by omega) (Ev.iff_pos hb.1 (Ev.iff_pos (by rw [putN_length]; exact hb.2) ?_)))))
    rw [wrap_nat (by unfold maxLen; omega)]
    exact ih
theorem specPl_l1 {s p c : List Int} (hs : isSp s = true) (h : ordQ p s.length = true) (hc : isC s c = true) : ∀ (k m : Nat), m + k = c.length →
    Ev (fun j => spec_l03Places.l1 j c p (ordL ((c.take m).map (plW s p))) (c.length : Int) (m : Int) s (ospL s p)) (ospL s p, ordL (c.map (plW s p)))
  | 0, m, hm => by
    refine Ev.step (fun k => by simp only [spec_l03Places.l1]; exact rfl) ?_
    refine Ev.iff_neg (by omega) ?_
    rw [List.take_of_length_le (by omega)]
    exact Ev.now _
  | k + 1, m, hm => by
    obtain ⟨hl, _, _, _⟩ := ordQ_facts h
    have hlt : m < c.length := by omega
    have hcl := isC_len hs hc
    have hl8 := isSp_len hs
    have ih := specPl_l1 hs h hc k (m + 1) (by omega)
    rw [take_rd8 hlt, List.map_append] at ih
    have hol := ordL_len ((c.take m).map (plW s p))
    have hl2 : (c.take m).length ≤ m := List.length_take_le _ _
    rw [List.length_map] at hol
    refine Ev.step (fun k => by simp only [spec_l03Places.l1]; exact rfl) ?_
    refine Ev.iff_pos (by omega) (Ev.iff_pos (by omega) (Ev.iff_pos (by omega) ?_))
    refine Ev.bind (l01Digits_ev hs (isC_rd hc hlt)) ?_
    refine Ev.iff_pos (by omega) (Ev.iff_pos (by omega) ?_)
    rw [Int.toNat_natCast]
    generalize hx : rd c (m : Int) = x at *
    have hdi := inR_dg (isSp_all hs) x
    have hd := dg_length s x
    have hox := ospL_isSp hs h
    refine specPl_l2 hs h x ?_ p.length 0 (by omega)
    refine Ev.bind (l01Word_ev (isSp_all hox) (isSp_len hox) (by rw [putN_length, ospL_len]) (putN_inR hs h hdi (by omega) (Nat.le_refl _))) ?_
    refine Ev.bind (l01Put_ev (ordL_pw _) (by omega) _) ?_
    rw [wrap_nat (by unfold maxLen; omega), ordL_put, ← plW_wd hs h]
    exact ih
theorem specPl_l0 {s p c : List Int} (hs : isSp s = true) (h : ordQ p s.length = true) (hc : isC s c = true) : ∀ (k m : Nat), m + k = p.length →
    Ev (fun j => spec_l03Places.l0 j c p (p.length : Int) (m : Int) s (putN p.length s p m)) (ospL s p, ordL (c.map (plW s p)))
  | 0, m, hm => by
    obtain rfl : m = p.length := by omega
    refine Ev.step (fun k => by simp only [spec_l03Places.l0]; exact rfl) ?_
    refine Ev.iff_neg (by omega) ?_
    have := specPl_l1 hs h hc c.length 0 (by omega)
    rw [List.take_zero, List.map_nil, ordL_asc List.Pairwise.nil] at this
    exact this
  | k + 1, m, hm => by
    obtain ⟨hl, _, _, _⟩ := ordQ_facts h
    have ih := specPl_l0 hs h hc k (m + 1) (by omega)
    have hb := ordQ_rd h m (by omega)
    have hl8 := isSp_len hs
    refine Ev.step (fun k => by simp only [spec_l03Places.l0]; exact rfl) ?_
    refine Ev.iff_pos (by omega) (Ev.iff_pos (by omega) (Ev.iff_pos (by omega) (Ev.iff_pos (by omega) (Ev.iff_pos hb.1 (Ev.iff_pos (by rw [putN_length]; exact hb.2) ?_)))))
    rw [wrap_nat (by unfold maxLen; omega)]
    exact ih
theorem specPl_ev {s p c : List Int} (hs : isSp s = true) (h : ordQ p s.length = true) (hc : isC s c = true) : Ev (fun j => spec_l03Places.f j s c p) (ospL s p, ordL (c.map (plW s p))) := by
  obtain ⟨hl, _, _, _⟩ := ordQ_facts h
  have hl8 := isSp_len hs
  unfold spec_l03Places.f
  refine Ev.iff_pos (by omega) (Ev.iff_pos (by omega) ?_)
  rw [Int.toNat_natCast]
  exact specPl_l0 hs h hc p.length 0 (by omega)
def shW (s : List Int) (y x : Int) : Int := hor 0 s (sum8 s (dig8 s x) (dig8 s y))
theorem shW_eq {s : List Int} (hs : isSp s = true) (y x : Int) : shW s y x = sumW s x y := hor_sum8 hs x y
theorem shifted_l {s c : List Int} (hs : isSp s = true) (hc : isC s c = true) {w : Int} (hw : isW s w = true) : ∀ (m n : Nat), n + m = c.length →
    Ev (fun k => spec_l01Shifted.l0 k c w (ordL ((c.take n).map (shW s w))) (c.length : Int) (n : Int) s) (ordL (c.map (shW s w)))
  | 0, n, hm => by
    refine Ev.step (fun k => by simp only [spec_l01Shifted.l0]; exact rfl) ?_
    refine Ev.iff_neg (by omega) ?_
    rw [List.take_of_length_le (by omega)]
    exact Ev.now _
  | m + 1, n, hm => by
    have hn : n < c.length := by omega
    have hl := isC_len hs hc
    have ih := shifted_l hs hc hw m (n + 1) (by omega)
    rw [take_rd8 hn, List.map_append] at ih
    have hol := ordL_len ((c.take n).map (shW s w))
    have hl2 : (c.take n).length ≤ n := List.length_take_le _ _
    rw [List.length_map] at hol
    refine Ev.step (fun k => by simp only [spec_l01Shifted.l0]; exact rfl) ?_
    refine Ev.iff_pos (by omega) (Ev.iff_pos (by omega) (Ev.iff_pos (by omega) ?_))
    refine Ev.bind (l01Sum_ev hs (isC_words hc _ (rd_mem2 hn)) hw) ?_
    refine Ev.bind (l01Put_ev (ordL_pw _) (by omega) _) ?_
    rw [wrap_nat (by unfold maxLen; omega), ordL_put, ← shW_eq hs]
    exact ih
theorem l01Shifted_ev {s c : List Int} (hs : isSp s = true) (hc : isC s c = true) {w : Int} (hw : isW s w = true) : Ev (fun k => spec_l01Shifted.f k s c w) (ordL (c.map (shW s w))) := by
  unfold spec_l01Shifted.f
  have := shifted_l hs hc hw c.length 0 (by omega)
  rw [List.take_zero, List.map_nil, ordL_asc List.Pairwise.nil] at this
  exact this
end Go.Proofs.Ytemjamfcepoefaa.Q
