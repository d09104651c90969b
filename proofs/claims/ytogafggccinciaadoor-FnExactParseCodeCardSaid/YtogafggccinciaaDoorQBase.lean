/- What the small functions of the laws and of the reference answer, in plain Lean: from some number of rounds on they answer what the model says. -/
import Derived.Test.YtogafggccinciaaDoorModel
import Derived.Test.YtogafggccinciaaDoorFBase
import Derived.OpenShut
set_option linter.unusedVariables false
namespace Go.Proofs.YtogafggccinciaaDoor.Q
open Go.RowKit Go.Proofs.YtogafggccinciaaDoor.P Go.Proofs.YtogafggccinciaaDoorW.PrintWords CC

theorem Ev.iff_pos {α : Type} {c : Prop} [Decidable c] {A B : Nat → Option α} {r : α} (h : c) (k : Ev A r) : Ev (fun n => if c then A n else B n) r := by
  simpa [h] using k
theorem Ev.iff_neg {α : Type} {c : Prop} [Decidable c] {A B : Nat → Option α} {r : α} (h : ¬ c) (k : Ev B r) : Ev (fun n => if c then A n else B n) r := by
  simpa [h] using k
/-- A function without rounds. -/
theorem Ev.const {α : Type} {a : Option α} {r : α} (h : a = some r) : Ev (fun _ => a) r := ⟨0, fun _ _ => h⟩
theorem Ev.bindc {α β : Type} {g : Option α} {f : Nat → α → Option β} {a : α} {r : β} (h : g = some a) (k : Ev (fun n => f n a) r) : Ev (fun n => g.bind (f n)) r := by
  simpa [h] using k

theorem wrap_nat {n : Nat} (h : n < maxLen) : wrap64 ((n : Int) + 1) = ((n + 1 : Nat) : Int) := by
  unfold maxLen at h
  unfold wrap64
  omega

theorem rd_nat (s : List Int) (n : Nat) : rd s (n : Int) = s.getD n 0 := by simp [rd]
theorem drop_cons (s : List Int) {n : Nat} (h : n < s.length) : s.drop n = rd s (n : Int) :: s.drop (n + 1) := by
  rw [List.drop_eq_getElem_cons h, rd_nat]
  simp [List.getD_eq_getElem?_getD, h]
theorem drop_all {s : List Int} {n : Nat} (h : s.length ≤ n) : s.drop n = [] := List.drop_eq_nil_of_le h

/-! ### sizes, copies, comparisons -/
theorem szInt64S_eq (l : List Int) (a : Int) (hl : l.length ≤ maxLen) (h0 : 0 ≤ a) (h1 : a ≤ 1048576) : laws_szInt64S.f l a = some (if a < l.length then -1 else a - l.length) := by
  unfold maxLen at hl
  unfold laws_szInt64S.f
  have e : wrap64 (a - (l.length : Int)) = a - l.length := wrap_id (by omega) (by omega)
  rw [e]
  by_cases h : a < (l.length : Int)
  · rw [if_pos (by omega), if_pos h]
  · rw [if_neg (by omega), if_neg h]

theorem szSpace_eq (l : List Int) (a : Int) (hl : l.length ≤ maxLen) (h0 : 0 ≤ a) (h1 : a ≤ 1048576) : laws_szSpace.f l a = some (if a < l.length then -1 else a - l.length) := by
  unfold laws_szSpace.f
  rw [szInt64S_eq l a hl h0 h1]
  simp only [Option.bind_some]
  by_cases h : a < (l.length : Int)
  · simp [h]
  · rw [if_neg h, if_neg (by omega)]

theorem toInt64S_l (l : List Int) (hl : l.length < maxLen) : ∀ (d n : Nat) (x : List Int), n + d = l.length → x.length = l.length → x.take n = l.take n → Ev (fun k => laws_toInt64S.l0 k l x (n : Int)) l
  | 0, n, x, hd, hx, ht => by
    refine Ev.step (f := fun _ => some l) (fun k => ?_) (Ev.now l)
    have e : x = l := by
      have h1 : x.take n = x := List.take_of_length_le (by omega)
      have h2 : l.take n = l := List.take_of_length_le (by omega)
      rw [← h1, ht, h2]
    simp only [laws_toInt64S.l0]
    rw [if_neg (by omega), e]
  | d + 1, n, x, hd, hx, ht => by
    have hn : n < l.length := by omega
    refine Ev.step (f := fun k => laws_toInt64S.l0 k l (x.set n (rd l (n : Int))) ((n + 1 : Nat) : Int)) (fun k => ?_) (toInt64S_l l hl d (n + 1) _ (by omega) (by simpa using hx) ?_)
    · simp only [laws_toInt64S.l0]
      rw [if_pos (by omega), if_pos (by omega), if_pos (by omega), wrap_nat (by omega), Int.toNat_natCast]
    · rw [List.take_add_one, List.take_add_one]
      have h1 : (x.set n (rd l (n : Int))).take n = x.take n := by rw [List.take_set_of_le (Nat.le_refl n)]
      rw [h1, ht, List.getElem?_set_self (by omega), rd_nat]
      simp [List.getD_eq_getElem?_getD, hn]

theorem toInt64S_ev (l : List Int) (hl : l.length ≤ 1048576) : Ev (fun k => laws_toInt64S.f k l) l := by
  unfold laws_toInt64S.f
  refine Ev.iff_pos (by omega) (Ev.iff_pos (by omega) ?_)
  exact toInt64S_l l (by unfold maxLen; omega) l.length 0 _ (by omega) (by simp) (by simp)

theorem toSpace_ev (l : List Int) (hl : l.length ≤ 1048576) : Ev (fun k => laws_toSpace.f k l) l := by
  unfold laws_toSpace.f
  exact Ev.bind (toInt64S_ev l hl) (Ev.now l)

theorem eqInt64S_l (a b : List Int) (hl : a.length < maxLen) (hab : a.length = b.length) : ∀ (d n : Nat), n + d = a.length → Ev (fun k => laws_eqInt64S.l0 k a b (n : Int)) (decide (a.drop n = b.drop n))
  | 0, n, hd => by
    refine Ev.step (f := fun _ => some true) (fun k => ?_) ?_
    · simp only [laws_eqInt64S.l0]
      rw [if_neg (by omega)]
    · rw [drop_all (show a.length ≤ n by omega), drop_all (show b.length ≤ n by omega)]
      exact Ev.now true
  | d + 1, n, hd => by
    have hn : n < a.length := by omega
    have hn2 : n < b.length := by omega
    by_cases he : rd a (n : Int) = rd b (n : Int)
    · refine Ev.step (f := fun k => laws_eqInt64S.l0 k a b ((n + 1 : Nat) : Int)) (fun k => ?_) ?_
      · simp only [laws_eqInt64S.l0]
        rw [if_pos (by omega), if_pos (by omega), if_pos (by omega), if_pos he, wrap_nat (by omega)]
      · have := eqInt64S_l a b hl hab d (n + 1) (by omega)
        rw [drop_cons a hn, drop_cons b hn2, he]
        simpa using this
    · refine Ev.step (f := fun _ => some false) (fun k => ?_) ?_
      · simp only [laws_eqInt64S.l0]
        rw [if_pos (by omega), if_pos (by omega), if_pos (by omega), if_neg he]
      · rw [drop_cons a hn, drop_cons b hn2]
        simp only [List.cons.injEq, he, false_and, decide_false]
        exact Ev.now false

theorem eqInt64S_ev (a b : List Int) (hl : a.length < maxLen) : Ev (fun k => laws_eqInt64S.f k a b) (decide (a = b)) := by
  unfold laws_eqInt64S.f
  by_cases h : a.length = b.length
  · refine Ev.iff_pos (by omega) ?_
    simpa using eqInt64S_l a b hl h a.length 0 (by omega)
  · refine Ev.iff_neg (by omega) ?_
    have : a ≠ b := fun e => h (by rw [e])
    simp only [this, decide_false]
    exact Ev.now false

theorem eqSpace_ev (a b : List Int) (hl : a.length < maxLen) : Ev (fun k => laws_eqSpace.f k a b) (decide (a = b)) := by
  unfold laws_eqSpace.f
  refine Ev.bind (eqInt64S_ev a b hl) ?_
  by_cases h : a = b
  · simp only [h, decide_true, if_true]
    exact Ev.now true
  · simp only [h, decide_false]
    exact Ev.now false

/-! ### marks -/
def iota (m : Int) : Nat → List Int
  | 0 => []
  | n + 1 => m :: iota (m + 1) n
theorem iota_length : ∀ (n : Nat) (m : Int), (iota m n).length = n
  | 0, _ => rfl
  | n + 1, m => by simp [iota, iota_length n (m + 1)]

theorem markInt64S_l (L : Nat) (hL : L ≤ 4503599627370496) : ∀ (d n : Nat) (x : List Int) (m : Int), n + d = L → x.length = L → 0 ≤ m → m + d ≤ 4503599627370496 → Ev (fun k => laws_markInt64S.l0 k x m (n : Int)) (m + d, x.take n ++ iota m d)
  | 0, n, x, m, hd, hx, h0, h1 => by
    refine Ev.step (f := fun _ => some (m, x)) (fun k => ?_) ?_
    · simp only [laws_markInt64S.l0]
      rw [if_neg (by omega)]
    · rw [List.take_of_length_le (by omega)]
      simpa [iota] using Ev.now (m, x)
  | d + 1, n, x, m, hd, hx, h0, h1 => by
    refine Ev.step (f := fun k => laws_markInt64S.l0 k (x.set n m) (m + 1) ((n + 1 : Nat) : Int)) (fun k => ?_) ?_
    · simp only [laws_markInt64S.l0]
      rw [if_pos (by omega), if_pos (by omega), wrap_nat (by unfold maxLen; omega), Int.toNat_natCast, wrap_id (by omega) (by omega)]
    · have := markInt64S_l L hL d (n + 1) (x.set n m) (m + 1) (by omega) (by simpa using hx) (by omega) (by omega)
      rw [List.take_add_one, List.take_set_of_le (Nat.le_refl n), List.getElem?_set_self (by omega)] at this
      have e : m + ((d + 1 : Nat) : Int) = m + 1 + d := by omega
      rw [e]
      simpa [iota] using this

theorem markInt64S_ev (l : List Int) (m : Int) (hl : l.length ≤ 2251799813685248) (h0 : 0 ≤ m) (h1 : m ≤ 2251799813685248) : Ev (fun k => laws_markInt64S.f k l m) (m + l.length, iota m l.length) := by
  unfold laws_markInt64S.f
  simpa using markInt64S_l l.length (by omega) l.length 0 l m (by omega) rfl h0 (by omega)

theorem markSpace_ev (l : List Int) (m : Int) (hl : l.length ≤ 2251799813685248) (h0 : 0 ≤ m) (h1 : m ≤ 2251799813685248) : Ev (fun k => laws_markSpace.f k l m) (m + l.length, iota m l.length) := by
  unfold laws_markSpace.f
  exact Ev.bind (markInt64S_ev l m hl h0 h1) (Ev.now _)

theorem rd_iota : ∀ (L : Nat) (m : Int) (n : Nat), n < L → rd (iota m L) (n : Int) = m + n
  | 0, _, _, h => by omega
  | L + 1, m, 0, _ => by simp [rd, iota]
  | L + 1, m, n + 1, h => by
    have := rd_iota L (m + 1) n (by omega)
    rw [rd_nat] at this ⊢
    simp only [iota, List.getD_cons_succ]
    rw [this]
    omega

theorem heldInt64S_l (L : Nat) (m : Int) (h0 : 0 ≤ m) (h1 : m + L ≤ 4503599627370496) : ∀ (d n : Nat), n + d = L → Ev (fun k => laws_heldInt64S.l0 k (iota m L) (m + n) (n : Int)) (m + L)
  | 0, n, hd => by
    have : n = L := by omega
    subst this
    refine Ev.step (f := fun _ => some (m + n)) (fun k => ?_) (Ev.now _)
    simp only [laws_heldInt64S.l0]
    rw [if_neg (by rw [iota_length]; omega)]
  | d + 1, n, hd => by
    refine Ev.step (f := fun k => laws_heldInt64S.l0 k (iota m L) (m + ((n + 1 : Nat) : Int)) ((n + 1 : Nat) : Int)) (fun k => ?_) (heldInt64S_l L m h0 h1 d (n + 1) (by omega))
    simp only [laws_heldInt64S.l0]
    rw [if_pos (by rw [iota_length]; omega), if_pos (by omega), if_pos (rd_iota L m n (by omega)), wrap_nat (by unfold maxLen; omega), wrap_id (by omega) (by omega)]
    congr 1
    omega

theorem heldInt64S_ev (L : Nat) (m : Int) (h0 : 0 ≤ m) (h1 : m + L ≤ 4503599627370496) : Ev (fun k => laws_heldInt64S.f k (iota m L) m) (m + L) := by
  unfold laws_heldInt64S.f
  simpa using heldInt64S_l L m h0 h1 L 0 (by omega)


/-! ### spaces -/
theorem l01In_eq (a b c : Int) : spec_l01In.f a b c = some (decide (b ≤ a ∧ a ≤ c)) := by
  unfold spec_l01In.f
  by_cases h : a ≥ b
  · rw [if_pos h]
    simp [show b ≤ a from h]
  · rw [if_neg h]
    simp
    omega

theorem l01N_l (s : List Int) (hs : s.length < maxLen) : ∀ (d n : Nat) (x : Int), n + d = s.length → Ev (fun k => spec_l01N.l0 k x (n : Int) s) (prw x (s.drop n))
  | 0, n, x, hd => by
    refine Ev.step (f := fun _ => some x) (fun k => ?_) ?_
    · simp only [spec_l01N.l0]
      rw [if_neg (by omega)]
    · rw [drop_all (by omega)]
      exact Ev.now x
  | d + 1, n, x, hd => by
    refine Ev.step (f := fun k => spec_l01N.l0 k (wrap64 (x * rd s (n : Int))) ((n + 1 : Nat) : Int) s) (fun k => ?_) ?_
    · simp only [spec_l01N.l0]
      rw [if_pos (by omega), if_pos (by omega), wrap_nat (by omega)]
    · have := l01N_l s hs d (n + 1) (wrap64 (x * rd s (n : Int))) (by omega)
      rw [drop_cons s (by omega)]
      exact this

theorem l01N_ev (s : List Int) (hs : s.length < maxLen) : Ev (fun k => spec_l01N.f k s) (prw 1 s) := by
  unfold spec_l01N.f
  simpa using l01N_l s hs s.length 0 1 (by omega)

theorem l01N_sp {s : List Int} (h : isSp s = true) : Ev (fun k => spec_l01N.f k s) (prd s) := by
  have := l01N_ev s (by have := isSp_len h; unfold maxLen; omega)
  rwa [prw_one (isSp_len h) (isSp_all h)] at this

theorem l01Is_l (s : List Int) (hs : s.length ≤ 8) : ∀ (d n : Nat), n + d = s.length → (s.take n).all sizeOk = true → Ev (fun k => spec_l01Is.l0 k (n : Int) s) (s.all sizeOk && decide (prd s ≤ 1024))
  | 0, n, hd, ht => by
    rw [List.take_of_length_le (by omega)] at ht
    refine Ev.step (f := fun k => (spec_l01N.f k s).bind fun t109 => (some (decide (t109 ≤ 1024)))) (fun k => ?_) ?_
    · simp only [spec_l01Is.l0]
      rw [if_neg (by omega)]
    · have := l01N_ev s (by unfold maxLen; omega)
      rw [prw_one hs ht] at this
      refine Ev.bind this ?_
      rw [ht, Bool.true_and]
      exact Ev.now _
  | d + 1, n, hd, ht => by
    have hn : n < s.length := by omega
    have hal : s.all sizeOk = ((s.take n).all sizeOk && (sizeOk (rd s (n : Int)) && (s.drop (n + 1)).all sizeOk)) := by
      conv => lhs; rw [← List.take_append_drop n s, List.all_append, drop_cons s hn, List.all_cons]
    by_cases hq : sizeOk (rd s (n : Int)) = true
    · refine Ev.step (f := fun k => spec_l01Is.l0 k ((n + 1 : Nat) : Int) s) (fun k => ?_) (l01Is_l s hs d (n + 1) (by omega) ?_)
      · have hq' := (sizeOk_iff _).1 hq
        simp only [spec_l01Is.l0]
        rw [if_pos (by omega), if_pos (by omega), l01In_eq, Option.bind_some, wrap_nat (by unfold maxLen; omega), if_pos (by simp; omega)]
      · rw [List.take_add_one, List.all_append, ht]
        rw [rd_nat] at hq
        simp only [List.getD_eq_getElem?_getD, List.getElem?_eq_getElem hn, Option.getD_some] at hq
        simp [List.getElem?_eq_getElem hn, hq]
    · refine Ev.step (f := fun _ => some false) (fun k => ?_) ?_
      · have hq' : ¬ (rd s (n : Int) = 2 ∨ rd s (n : Int) = 3 ∨ rd s (n : Int) = 4) := fun z => hq ((sizeOk_iff _).2 z)
        simp only [spec_l01Is.l0]
        rw [if_pos (by omega), if_pos (by omega), l01In_eq, Option.bind_some, if_neg (by simp; omega)]
      · rw [hal, ht]
        simp only [Bool.not_eq_true] at hq
        rw [hq]
        exact Ev.now false

theorem l01Is_ev (s : List Int) : Ev (fun k => spec_l01Is.f k s) (isSp s) := by
  unfold spec_l01Is.f
  refine Ev.bindc (l01In_eq _ _ _) ?_
  by_cases h : 1 ≤ s.length ∧ s.length ≤ 8
  · refine Ev.iff_pos (by simp; omega) ?_
    have := l01Is_l s h.2 s.length 0 (by omega) (by simp)
    unfold isSp
    simpa [h.1, h.2] using this
  · refine Ev.iff_neg (by simp; omega) ?_
    have : isSp s = false := by
      unfold isSp
      rcases Nat.lt_or_ge s.length 1 with h1 | h1
      · have : ¬ 1 ≤ s.length := by omega
        simp [this]
      · have : ¬ s.length ≤ 8 := by omega
        simp [this]
    rw [this]
    exact Ev.now false

theorem isSpace_l (s : List Int) (hs : s.length ≤ 8) : ∀ (d n : Nat) (x : Int), n + d = s.length → (s.take n).all sizeOk = true → 0 ≤ x → x ≤ 4 ^ n → Ev (fun k => impl_IsSpace.l0 k x s (s.length : Int) (n : Int)) ((s.drop n).all sizeOk && decide (x * prd (s.drop n) ≤ 1024))
  | 0, n, x, hd, ht, h0, hx => by
    refine Ev.step (f := fun _ => some (decide (x ≤ 1024))) (fun k => ?_) ?_
    · simp only [impl_IsSpace.l0]
      rw [if_neg (by omega)]
    · rw [drop_all (by omega)]
      simpa [prd] using Ev.now (decide (x ≤ 1024))
  | d + 1, n, x, hd, ht, h0, hx => by
    have hn : n < s.length := by omega
    rw [drop_cons s hn]
    by_cases hq : sizeOk (rd s (n : Int)) = true
    · have hq' := (sizeOk_iff _).1 hq
      have hb := pow48 (m := n + 1) (by omega)
      have hx2 : x * rd s (n : Int) ≤ 4 ^ (n + 1) := by
        rw [Int.pow_succ]
        rcases hq' with e | e | e <;> rw [e] <;> omega
      have hx0 : 0 ≤ x * rd s (n : Int) := by rcases hq' with e | e | e <;> rw [e] <;> omega
      refine Ev.step (f := fun k => impl_IsSpace.l0 k (x * rd s (n : Int)) s (s.length : Int) ((n + 1 : Nat) : Int)) (fun k => ?_) ?_
      · simp only [impl_IsSpace.l0]
        rw [if_pos (by omega), if_pos (by omega), if_pos (by omega), if_neg (by omega), if_neg (by omega), wrap_nat (by unfold maxLen; omega), wrap_id (by omega) (by omega)]
      · have := isSpace_l s hs d (n + 1) (x * rd s (n : Int)) (by omega) ?_ hx0 hx2
        · have e : ((rd s (n : Int) :: s.drop (n + 1)).all sizeOk && decide (x * prd (rd s (n : Int) :: s.drop (n + 1)) ≤ 1024)) = ((s.drop (n + 1)).all sizeOk && decide (x * rd s (n : Int) * prd (s.drop (n + 1)) ≤ 1024)) := by rw [List.all_cons, hq, Bool.true_and, prd, ← Int.mul_assoc]
          rw [e]
          exact this
        · rw [List.take_add_one, List.all_append, ht]
          rw [rd_nat] at hq
          simp only [List.getD_eq_getElem?_getD, List.getElem?_eq_getElem hn, Option.getD_some] at hq
          simp [List.getElem?_eq_getElem hn, hq]
    · have hq' : ¬ (rd s (n : Int) = 2 ∨ rd s (n : Int) = 3 ∨ rd s (n : Int) = 4) := fun z => hq ((sizeOk_iff _).2 z)
      simp only [Bool.not_eq_true] at hq
      refine Ev.step (f := fun _ => some false) (fun k => ?_) ?_
      · simp only [impl_IsSpace.l0]
        rw [if_pos (by omega), if_pos (by omega), if_pos (by omega)]
        by_cases h2 : rd s (n : Int) < 2
        · rw [if_pos h2]
        · rw [if_neg h2, if_pos (by omega)]
      · simp only [List.all_cons, hq, Bool.false_and]
        exact Ev.now false

theorem isSpace_ev (s : List Int) : Ev (fun k => impl_IsSpace.f k s) (isSp s) := by
  unfold impl_IsSpace.f
  by_cases h1 : s.length < 1
  · refine Ev.iff_pos (by omega) ?_
    refine Ev.step (f := fun _ => some false) (fun k => by simp [impl_IsSpace.j0]) ?_
    have : isSp s = false := by
      have : ¬ 1 ≤ s.length := by omega
      simp [isSp, this]
    rw [this]
    exact Ev.now false
  · refine Ev.iff_neg (by omega) ?_
    by_cases h2 : s.length ≤ 8
    · refine Ev.step (f := fun k => impl_IsSpace.l0 k 1 s (s.length : Int) ((0 : Nat) : Int)) (fun k => ?_) ?_
      · simp only [impl_IsSpace.j0]
        rw [if_neg (by simp; omega)]
        rfl
      · have := isSpace_l s h2 s.length 0 1 (by omega) (by simp) (by omega) (by simp)
        have e1 : 1 ≤ s.length := by omega
        simpa [isSp, e1, h2] using this
    · refine Ev.step (f := fun _ => some false) (fun k => ?_) ?_
      · simp only [impl_IsSpace.j0]
        rw [if_pos (by simp; omega)]
      · have : isSp s = false := by simp [isSp, h2]
        rw [this]
        exact Ev.now false

theorem count_l (s : List Int) (hs : s.length < maxLen) : ∀ (d n : Nat) (x : Int), n + d = s.length → Ev (fun k => impl_count.l0 k x s (s.length : Int) (n : Int)) (prw x (s.drop n))
  | 0, n, x, hd => by
    refine Ev.step (f := fun _ => some x) (fun k => ?_) ?_
    · simp only [impl_count.l0]
      rw [if_neg (by omega)]
    · rw [drop_all (by omega)]
      exact Ev.now x
  | d + 1, n, x, hd => by
    refine Ev.step (f := fun k => impl_count.l0 k (wrap64 (x * rd s (n : Int))) s (s.length : Int) ((n + 1 : Nat) : Int)) (fun k => ?_) ?_
    · simp only [impl_count.l0]
      rw [if_pos (by omega), if_pos (by omega), if_pos (by omega), wrap_nat (by omega)]
    · have := count_l s hs d (n + 1) (wrap64 (x * rd s (n : Int))) (by omega)
      rw [drop_cons s (by omega)]
      exact this

theorem count_sp {s : List Int} (h : isSp s = true) : Ev (fun k => impl_count.f k s) (prd s) := by
  unfold impl_count.f
  have := count_l s (by have := isSp_len h; unfold maxLen; omega) s.length 0 1 (by omega)
  rw [List.drop_zero, prw_one (isSp_len h) (isSp_all h)] at this
  exact this
end Go.Proofs.YtogafggccinciaaDoor.Q
