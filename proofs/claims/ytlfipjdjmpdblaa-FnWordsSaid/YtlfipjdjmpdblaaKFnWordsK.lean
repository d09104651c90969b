/- What the law FnWords needs, part 11: words, walks of functions (each says that a call returns what the plain Lean function beside it says), plain lemmas. -/
import Derived.Test.YtlfipjdjmpdblaaKFnWordsJ
import Derived.OpenShut
set_option linter.unusedVariables false
namespace Go.Proofs.Ytlfipjdjmpdblaa.Q
open Go.RowKit Go.Proofs.Ytlfipjdjmpdblaa.P Go.Proofs.YtlfipjdjmpdblaaW.PrintWords CC
theorem Ev.iff_pos {α : Type} {c : Prop} [Decidable c] {A B : Nat → Option α} {r : α} (h : c) (k : Ev A r) : Ev (fun n => if c then A n else B n) r := by
  simpa [h] using k
theorem Ev.iff_neg {α : Type} {c : Prop} [Decidable c] {A B : Nat → Option α} {r : α} (h : ¬ c) (k : Ev B r) : Ev (fun n => if c then A n else B n) r := by
  simpa [h] using k
theorem Ev.bindc {α β : Type} {g : Option α} {f : Nat → α → Option β} {a : α} {r : β} (h : g = some a) (k : Ev (fun n => f n a) r) : Ev (fun n => g.bind (f n)) r := by
  simpa [h] using k
theorem wrap_nat {n : Nat} (h : n < maxLen) : wrap64 ((n : Int) + 1) = ((n + 1 : Nat) : Int) := by
  unfold maxLen at h
  unfold wrap64
  omega
theorem rd_nat (s : List Int) (n : Nat) : rd s (n : Int) = s.getD n 0 := by simp [rd]
theorem drop_cons (s : List Int) {n : Nat} (h : n < s.length) : s.drop n = rd s (n : Int) :: s.drop (n + 1) := by
  rw [List.drop_eq_getElem_cons h, rd_nat]
  simp [List.getD_eq_getElem?_getD, h]
theorem drop_all {s : List Int} {n : Nat} (h : s.length ≤ n) : s.drop n = [] := List.drop_eq_nil_of_le h
theorem l01In_eq (a b c : Int) : spec_l01In.f a b c = some (decide (b ≤ a ∧ a ≤ c)) := by
  unfold spec_l01In.f
  by_cases h : a ≥ b
  · rw [if_pos h]
    simp [show b ≤ a from h]
  · rw [if_neg h]
    simp
    omega
theorem l01N_l (s : List Int) (hs : s.length < maxLen) : ∀ (d n : Nat) (x : Int), n + d = s.length → Ev (fun k => spec_l01N.l0 k x (n : Int) s) (prw x (s.drop n))
  | 0, n, x, hd => by
    refine Ev.step (f := fun _ => some x) (fun k => ?_) ?_
    · simp only [spec_l01N.l0]
      rw [if_neg (by omega)]
    · rw [drop_all (by omega)]
      exact Ev.now x
  | d + 1, n, x, hd => by
    refine Ev.step (f := fun k => spec_l01N.l0 k (wrap64 (x * rd s (n : Int))) ((n + 1 : Nat) : Int) s) (fun k => ?_) ?_
    · simp only [spec_l01N.l0]
      rw [if_pos (by omega), if_pos (by omega), wrap_nat (by omega)]
    · have := l01N_l s hs d (n + 1) (wrap64 (x * rd s (n : Int))) (by omega)
      rw [drop_cons s (by omega)]
      exact this
theorem l01N_ev (s : List Int) (hs : s.length < maxLen) : Ev (fun k => spec_l01N.f k s) (prw 1 s) := by
  unfold spec_l01N.f
  simpa using l01N_l s hs s.length 0 1 (by omega)
theorem l01N_sp {s : List Int} (h : isSp s = true) : Ev (fun k => spec_l01N.f k s) (prd s) := by
  have := l01N_ev s (by have := isSp_len h; unfold maxLen; omega)
  rwa [prw_one (isSp_len h) (isSp_all h)] at this
theorem l01Is_l (s : List Int) (hs : s.length ≤ 8) : ∀ (d n : Nat), n + d = s.length → (s.take n).all sizeOk = true → Ev (fun k => spec_l01Is.l0 k (n : Int) s) (s.all sizeOk && decide (prd s ≤ 1024))
  | 0, n, hd, ht => by
    rw [List.take_of_length_le (by omega)] at ht
    refine Ev.step (f := fun k => (spec_l01N.f k s).bind fun t109 => (some (decide (t109 ≤ 1024)))) (fun k => ?_) ?_
    · simp only [spec_l01Is.l0]
      rw [if_neg (by omega)]
    · have := l01N_ev s (by unfold maxLen; omega)
      rw [prw_one hs ht] at this
      refine Ev.bind this ?_
      rw [ht, Bool.true_and]
      exact Ev.now _
  | d + 1, n, hd, ht => by
    have hn : n < s.length := by omega
    have hal : s.all sizeOk = ((s.take n).all sizeOk && (sizeOk (rd s (n : Int)) && (s.drop (n + 1)).all sizeOk)) := by
      conv => lhs; rw [← List.take_append_drop n s, List.all_append, drop_cons s hn, List.all_cons]
    by_cases hq : sizeOk (rd s (n : Int)) = true
    · refine Ev.step (f := fun k => spec_l01Is.l0 k ((n + 1 : Nat) : Int) s) (fun k => ?_) (l01Is_l s hs d (n + 1) (by omega) ?_)
      · have hq' := (sizeOk_iff _).1 hq
        simp only [spec_l01Is.l0]
        rw [if_pos (by omega), if_pos (by omega), l01In_eq, Option.bind_some, wrap_nat (by unfold maxLen; omega), if_pos (by simp; omega)]
      · rw [List.take_add_one, List.all_append, ht]
        rw [rd_nat] at hq
        simp only [List.getD_eq_getElem?_getD, List.getElem?_eq_getElem hn, Option.getD_some] at hq
        simp [List.getElem?_eq_getElem hn, hq]
    · refine Ev.step (f := fun _ => some false) (fun k => ?_) ?_
      · have hq' : ¬ (rd s (n : Int) = 2 ∨ rd s (n : Int) = 3 ∨ rd s (n : Int) = 4) := fun z => hq ((sizeOk_iff _).2 z)
        simp only [spec_l01Is.l0]
        rw [if_pos (by omega), if_pos (by omega), l01In_eq, Option.bind_some, if_neg (by simp; omega)]
      · rw [hal, ht]
        simp only [Bool.not_eq_true] at hq
        rw [hq]
        exact Ev.now false
theorem l01Is_ev (s : List Int) : Ev (fun k => spec_l01Is.f k s) (isSp s) := by
  unfold spec_l01Is.f
  refine Ev.bindc (l01In_eq _ _ _) ?_
  by_cases h : 1 ≤ s.length ∧ s.length ≤ 8
  · refine Ev.iff_pos (by simp; omega) ?_
    have := l01Is_l s h.2 s.length 0 (by omega) (by simp)
    unfold isSp
    simpa [h.1, h.2] using this
  · refine Ev.iff_neg (by simp; omega) ?_
    have : isSp s = false := by
      unfold isSp
      rcases Nat.lt_or_ge s.length 1 with h1 | h1
      · have : ¬ 1 ≤ s.length := by omega
        simp [this]
      · have : ¬ s.length ≤ 8 := by omega
        simp [this]
    rw [this]
    exact Ev.now false
theorem isSpace_l (s : List Int) (hs : s.length ≤ 8) : ∀ (d n : Nat) (x : Int), n + d = s.length → (s.take n).all sizeOk = true → 0 ≤ x → x ≤ 4 ^ n → Ev (fun k => impl_IsSpace.l0 k x s (s.length : Int) (n : Int)) ((s.drop n).all sizeOk && decide (x * prd (s.drop n) ≤ 1024))
  | 0, n, x, hd, ht, h0, hx => by
    refine Ev.step (f := fun _ => some (decide (x ≤ 1024))) (fun k => ?_) ?_
    · simp only [impl_IsSpace.l0]
      rw [if_neg (by omega)]
    · rw [drop_all (by omega)]
      simpa [prd] using Ev.now (decide (x ≤ 1024))
  | d + 1, n, x, hd, ht, h0, hx => by
    have hn : n < s.length := by omega
    rw [drop_cons s hn]
    by_cases hq : sizeOk (rd s (n : Int)) = true
    · have hq' := (sizeOk_iff _).1 hq
      have hb := pow48 (m := n + 1) (by omega)
      have hx2 : x * rd s (n : Int) ≤ 4 ^ (n + 1) := by
        rw [Int.pow_succ]
        rcases hq' with e | e | e <;> rw [e] <;> omega
      have hx0 : 0 ≤ x * rd s (n : Int) := by rcases hq' with e | e | e <;> rw [e] <;> omega
      refine Ev.step (f := fun k => impl_IsSpace.l0 k (x * rd s (n : Int)) s (s.length : Int) ((n + 1 : Nat) : Int)) (fun k => ?_) ?_
      · simp only [impl_IsSpace.l0]
        rw [if_pos (by omega), if_pos (by omega), if_pos (by omega), if_neg (by omega), if_neg (by omega), wrap_nat (by unfold maxLen; omega), wrap_id (by omega) (by omega)]
      · have := isSpace_l s hs d (n + 1) (x * rd s (n : Int)) (by omega) ?_ hx0 hx2
        · have e : ((rd s (n : Int) :: s.drop (n + 1)).all sizeOk && decide (x * prd (rd s (n : Int) :: s.drop (n + 1)) ≤ 1024)) = ((s.drop (n + 1)).all sizeOk && decide (x * rd s (n : Int) * prd (s.drop (n + 1)) ≤ 1024)) := by rw [List.all_cons, hq, Bool.true_and, prd, ← Int.mul_assoc]
          rw [e]
          exact this
        · rw [List.take_add_one, List.all_append, ht]
          rw [rd_nat] at hq
          simp only [List.getD_eq_getElem?_getD, List.getElem?_eq_getElem hn, Option.getD_some] at hq
          simp [List.getElem?_eq_getElem hn, hq]
    · have hq' : ¬ (rd s (n : Int) = 2 ∨ rd s (n : Int) = 3 ∨ rd s (n : Int) = 4) := fun z => hq ((sizeOk_iff _).2 z)
      simp only [Bool.not_eq_true] at hq
      refine Ev.step (f := fun _ => some false) (fun k => ?_) ?_
      · simp only [impl_IsSpace.l0]
        rw [if_pos (by omega), if_pos (by omega), if_pos (by omega)]
        by_cases h2 : rd s (n : Int) < 2
        · rw [if_pos h2]
        · rw [if_neg h2, if_pos (by omega)]
      · simp only [List.all_cons, hq, Bool.false_and]
        exact Ev.now false
theorem isSpace_ev (s : List Int) : Ev (fun k => impl_IsSpace.f k s) (isSp s) := by
  unfold impl_IsSpace.f
  by_cases h1 : s.length < 1
  · refine Ev.iff_pos (by omega) ?_
    refine Ev.step (f := fun _ => some false) (fun k => by simp [impl_IsSpace.j0]) ?_
    have : isSp s = false := by
      have : ¬ 1 ≤ s.length := by omega
      simp [isSp, this]
    rw [this]
    exact Ev.now false
  · refine Ev.iff_neg (by omega) ?_
    by_cases h2 : s.length ≤ 8
    · refine Ev.step (f := fun k => impl_IsSpace.l0 k 1 s (s.length : Int) ((0 : Nat) : Int)) (fun k => ?_) ?_
      · simp only [impl_IsSpace.j0]
        rw [if_neg (by simp; omega)]
        rfl
      · have := isSpace_l s h2 s.length 0 1 (by omega) (by simp) (by omega) (by simp)
        have e1 : 1 ≤ s.length := by omega
        simpa [isSp, e1, h2] using this
    · refine Ev.step (f := fun _ => some false) (fun k => ?_) ?_
      · simp only [impl_IsSpace.j0]
        rw [if_pos (by simp; omega)]
      · have : isSp s = false := by simp [isSp, h2]
        rw [this]
        exact Ev.now false
theorem count_l (s : List Int) (hs : s.length < maxLen) : ∀ (d n : Nat) (x : Int), n + d = s.length → Ev (fun k => impl_count.l0 k x s (s.length : Int) (n : Int)) (prw x (s.drop n))
  | 0, n, x, hd => by
    refine Ev.step (f := fun _ => some x) (fun k => ?_) ?_
    · simp only [impl_count.l0]
      rw [if_neg (by omega)]
    · rw [drop_all (by omega)]
      exact Ev.now x
  | d + 1, n, x, hd => by
    refine Ev.step (f := fun k => impl_count.l0 k (wrap64 (x * rd s (n : Int))) s (s.length : Int) ((n + 1 : Nat) : Int)) (fun k => ?_) ?_
    · simp only [impl_count.l0]
      rw [if_pos (by omega), if_pos (by omega), if_pos (by omega), wrap_nat (by omega)]
    · have := count_l s hs d (n + 1) (wrap64 (x * rd s (n : Int))) (by omega)
      rw [drop_cons s (by omega)]
      exact this
theorem count_sp {s : List Int} (h : isSp s = true) : Ev (fun k => impl_count.f k s) (prd s) := by
  unfold impl_count.f
  have := count_l s (by have := isSp_len h; unfold maxLen; omega) s.length 0 1 (by omega)
  rw [List.drop_zero, prw_one (isSp_len h) (isSp_all h)] at this
  exact this
end Go.Proofs.Ytlfipjdjmpdblaa.Q
set_option linter.unusedVariables false
set_option linter.unusedSimpArgs false
namespace Go.Proofs.Ytlfipjdjmpdblaa.Q
open Go.RowKit Go.Proofs.Ytlfipjdjmpdblaa.P Go.Proofs.YtlfipjdjmpdblaaW.PrintWords CC
theorem isW_in {s : List Int} (h : isSp s = true) (x : Int) : spec_l01In.f x 0 (wrap64 (prd s - 1)) = some (isW s x) := by
  have h1 := isSp_prd h
  have h2 := isSp_prd1 h
  rw [l01In_eq, wrap_id (by omega) (by omega)]
  unfold isW
  congr 1
  rw [← Bool.decide_and]
  exact decide_eq_decide.2 (by omega)
theorem areWords_l {s c : List Int} (hc : c.length ≤ 1048576) : ∀ (m n : Nat), n + m = c.length →
    Ev (fun k => impl_areWords.l0 k (prd s) c (c.length : Int) (n : Int)) ((c.drop n).all (isW s))
  | 0, n, hm => by
    rw [drop_all (by omega)]
    refine Ev.step (f := fun k => some true) (fun k => ?_) (Ev.now _)
    simp only [impl_areWords.l0]
    rw [if_neg (by omega)]
  | m + 1, n, hm => by
    have hn : n < c.length := by omega
    rw [drop_cons c hn, List.all_cons]
    by_cases h0 : rd c (n : Int) < 0
    · have : isW s (rd c (n : Int)) = false := by simp [isW]; omega
      rw [this, Bool.false_and]
      refine Ev.step (f := fun k => some false) (fun k => ?_) (Ev.now _)
      simp only [impl_areWords.l0]
      rw [if_pos (by omega), if_pos (by omega), if_pos (by omega), if_pos h0]
    by_cases h1 : rd c (n : Int) ≥ prd s
    · have : isW s (rd c (n : Int)) = false := by simp [isW]; omega
      rw [this, Bool.false_and]
      refine Ev.step (f := fun k => some false) (fun k => ?_) (Ev.now _)
      simp only [impl_areWords.l0]
      rw [if_pos (by omega), if_pos (by omega), if_pos (by omega), if_neg h0, if_pos h1]
    · have : isW s (rd c (n : Int)) = true := by simp [isW]; omega
      rw [this, Bool.true_and]
      refine Ev.step (f := fun k => impl_areWords.l0 k (prd s) c (c.length : Int) ((n + 1 : Nat) : Int)) (fun k => ?_) (areWords_l hc m (n + 1) (by omega))
      simp only [impl_areWords.l0]
      rw [if_pos (by omega), if_pos (by omega), if_pos (by omega), if_neg h0, if_neg h1, wrap_nat (by unfold maxLen; omega)]
theorem areWords_ev {s c : List Int} (hs : isSp s = true) (hc : c.length ≤ 1048576) : Ev (fun k => impl_areWords.f k s c) (c.all (isW s)) := by
  unfold impl_areWords.f
  refine Ev.bind (count_sp hs) ?_
  simpa using areWords_l (s := s) hc c.length 0 (by omega)
def rWords (s c : List Int) : Int := if isSp s then if c.all (isW s) then 0 else 2 else 1
theorem rWords_zero {s c : List Int} (h : rWords s c = 0) : isSp s = true ∧ ∀ x ∈ c, isW s x = true := by
  unfold rWords at h
  split at h
  · rename_i hs
    split at h
    · rename_i hc
      exact ⟨hs, List.all_eq_true.1 hc⟩
    · cases h
  · cases h
theorem wordCode_ev (s : List Int) {c : List Int} (hc : c.length ≤ 1048576) : Ev (fun k => impl_wordCode.f k s c) (rWords s c) := by
  unfold impl_wordCode.f rWords
  refine Ev.bind (isSpace_ev s) ?_
  by_cases h : isSp s = true
  · simp only [h, if_true]
    refine Ev.bind (areWords_ev h hc) ?_
    by_cases h2 : c.all (isW s) = true
    · simp only [h2, if_true]
      exact Ev.now _
    · simp only [h2, if_false]
      exact Ev.now _
  · simp only [h, if_false]
    exact Ev.now _
theorem l01Words_l {s c : List Int} (hs : isSp s = true) (hc : c.length ≤ 1048576) : ∀ (m n : Nat), n + m = c.length →
    Ev (fun k => spec_l01Words.l0 k c (n : Int) s) (if (c.drop n).all (isW s) then 0 else 2)
  | 0, n, hm => by
    rw [drop_all (by omega)]
    refine Ev.step (f := fun k => some 0) (fun k => ?_) (by simpa using Ev.now _)
    simp only [spec_l01Words.l0]
    rw [if_neg (by omega)]
  | m + 1, n, hm => by
    have hn : n < c.length := by omega
    rw [drop_cons c hn, List.all_cons]
    refine Ev.step (fun k => by simp only [spec_l01Words.l0]; exact rfl) ?_
    refine Ev.iff_pos (by omega) (Ev.iff_pos (by omega) (Ev.bind (l01N_sp hs) (Ev.bindc (isW_in hs _) ?_)))
    cases isW s (rd c (n : Int)) with
    | true =>
      rw [Bool.true_and, wrap_nat (by unfold maxLen; omega)]
      exact Ev.iff_pos rfl (l01Words_l hs hc m (n + 1) (by omega))
    | false =>
      simpa using Ev.now _
theorem l01Words_ev (s : List Int) {c : List Int} (hc : c.length ≤ 1048576) : Ev (fun k => spec_l01Words.f k s c) (rWords s c) := by
  unfold spec_l01Words.f rWords
  refine Ev.bind (l01Is_ev s) ?_
  by_cases h : isSp s = true
  · simp only [h, if_true]
    simpa using l01Words_l h hc c.length 0 (by omega)
  · simp only [h, if_false]
    exact Ev.now _
theorem all_rd {s : List Int} (h : s.all sizeOk = true) {n : Nat} (hn : n < s.length) : rd s (n : Int) = 2 ∨ rd s (n : Int) = 3 ∨ rd s (n : Int) = 4 := by
  rw [← sizeOk_iff, rd_nat]
  simp only [List.getD_eq_getElem?_getD, List.getElem?_eq_getElem hn, Option.getD_some]
  exact List.all_eq_true.1 h _ (List.getElem_mem hn)
theorem hor_step {a q x : Int} {n : Nat} (hn : n + 1 ≤ 8) (hq : q = 2 ∨ q = 3 ∨ q = 4) (h0 : 0 ≤ a) (h1 : a + 1 ≤ 4 ^ n) (x0 : 0 ≤ x) (x1 : x < q) :
    wrap64 (wrap64 (a * q) + x) = a * q + x ∧ 0 ≤ a * q + x ∧ a * q + x + 1 ≤ 4 ^ (n + 1) := by
  have hb := pow48 hn
  rw [Int.pow_succ] at hb ⊢
  rcases hq with rfl | rfl | rfl
  all_goals
    rw [wrap_id (x := a * _) (by omega) (by omega), wrap_id (by omega) (by omega)]
    omega
theorem tmod_pos {x q : Int} (h : 0 ≤ x) : Int.tmod x q = x % q := Int.tmod_eq_emod_of_nonneg h
theorem tdiv_pos {x q : Int} (h : 0 ≤ x) (hq : 0 ≤ q) : Int.tdiv x q = x / q := Int.tdiv_eq_ediv_of_nonneg h
theorem div_bounds {x q : Int} (h0 : 0 ≤ x) (h1 : x ≤ 1024) (hq : q = 2 ∨ q = 3 ∨ q = 4) : 0 ≤ x / q ∧ x / q ≤ 1024 ∧ wrap64 (Int.tdiv x q) = x / q ∧ Int.tmod x q = x % q := by
  have h2 : 0 ≤ x / q ∧ x / q ≤ 1024 := by rcases hq with rfl | rfl | rfl <;> omega
  refine ⟨h2.1, h2.2, ?_, tmod_pos h0⟩
  rw [tdiv_pos h0 (by omega), wrap_id (by omega) (by omega)]
theorem pred_nat (n : Nat) (h : n ≤ 100) : wrap64 (((n : Nat) : Int) - 1) = (n : Int) - 1 := wrap_id (by omega) (by omega)
theorem isW_b {s : List Int} (hs : isSp s = true) {x : Int} (h : isW s x = true) : 0 ≤ x ∧ x ≤ 1024 := by
  have h1 := (isW_iff s x).1 h
  have h2 := isSp_prd hs
  omega
end Go.Proofs.Ytlfipjdjmpdblaa.Q
set_option linter.unusedVariables false
set_option linter.unusedSimpArgs false
namespace Go.Proofs.Ytlfipjdjmpdblaa.P
open Go.RowKit Go.Proofs.YtlfipjdjmpdblaaW.PrintWords Go.Proofs.YtlfipjdjmpdblaaW.PrintLast Go.Proofs.YtlfipjdjmpdblaaW.PrintMore CC
set_option maxHeartbeats 8000000 in
set_option maxRecDepth 100000 in
theorem ball1_calls (g7 g5 : Nat) (d0 d1 d2 d3 d4 d5 d6 d7 e0 e1 e2 e3 e4 e5 e6 e7 r : Int) (w : World) (h7 : w.heap[g7]? = some (.cells #[.int .u8 d0, .int .u8 d1, .int .u8 d2, .int .u8 d3, .int .u8 d4, .int .u8 d5, .int .u8 d6, .int .u8 d7] 54 (0, 0))) (h5 : w.heap[g5]? = some (.cells #[.int .i64 r] 2 (0, 0))) :
    Calls Try.prog 113 #[.agg #[.int .u8 e0, .int .u8 e1, .int .u8 e2, .int .u8 e3, .int .u8 e4, .int .u8 e5, .int .u8 e6, .int .u8 e7], .pointer (some ⟨g7, 0, none⟩), .pointer (some ⟨g5, 0, none⟩)] w fun e w' => e = .returned (.bool (decide (ham [d0, d1, d2, d3, d4, d5, d6, d7] [e0, e1, e2, e3, e4, e5, e6, e7] ≤ r))) ∧ Below w.heap.size w w' := by
  have huD := Try.underlying54
  have H7 := Aside0.mk (blk_alloc h7 (.cells #[.int .u8 e0, .int .u8 e1, .int .u8 e2, .int .u8 e3, .int .u8 e4, .int .u8 e5, .int .u8 e6, .int .u8 e7] 54))
  have H5 := Aside0.mk (blk_alloc h5 (.cells #[.int .u8 e0, .int .u8 e1, .int .u8 e2, .int .u8 e3, .int .u8 e4, .int .u8 e5, .int .u8 e6, .int .u8 e7] 54))
  have H3 := Aside0.mk (blk_new w (.cells #[.int .u8 e0, .int .u8 e1, .int .u8 e2, .int .u8 e3, .int .u8 e4, .int .u8 e5, .int .u8 e6, .int .u8 e7] 54))
  clear h7 h5
  have hB : Below w.heap.size w (w.alloc (.cells #[.int .u8 e0, .int .u8 e1, .int .u8 e2, .int .u8 e3, .int .u8 e4, .int .u8 e5, .int .u8 e6, .int .u8 e7] 54)) := (Below.refl _ _).alloc (Nat.le_refl _) _
  go_enter Try.func113, Try.ntmps113
  go_wp2_with fail
  generalize w.alloc (.cells #[.int .u8 e0, .int .u8 e1, .int .u8 e2, .int .u8 e3, .int .u8 e4, .int .u8 e5, .int .u8 e6, .int .u8 e7] 54) = W at *
  have hd0 : W.cell? ⟨g7, 0, none⟩ = some (.int .u8 d0) := blk_cell H7.out 0
  have hd1 : W.cell? ⟨g7, 1, none⟩ = some (.int .u8 d1) := blk_cell H7.out 1
  have hd2 : W.cell? ⟨g7, 2, none⟩ = some (.int .u8 d2) := blk_cell H7.out 2
  have hd3 : W.cell? ⟨g7, 3, none⟩ = some (.int .u8 d3) := blk_cell H7.out 3
  have hd4 : W.cell? ⟨g7, 4, none⟩ = some (.int .u8 d4) := blk_cell H7.out 4
  have hd5 : W.cell? ⟨g7, 5, none⟩ = some (.int .u8 d5) := blk_cell H7.out 5
  have hd6 : W.cell? ⟨g7, 6, none⟩ = some (.int .u8 d6) := blk_cell H7.out 6
  have hd7 : W.cell? ⟨g7, 7, none⟩ = some (.int .u8 d7) := blk_cell H7.out 7
  have he0 : W.cell? ⟨w.heap.size, 0, none⟩ = some (.int .u8 e0) := blk_cell H3.out 0
  have he1 : W.cell? ⟨w.heap.size, 1, none⟩ = some (.int .u8 e1) := blk_cell H3.out 1
  have he2 : W.cell? ⟨w.heap.size, 2, none⟩ = some (.int .u8 e2) := blk_cell H3.out 2
  have he3 : W.cell? ⟨w.heap.size, 3, none⟩ = some (.int .u8 e3) := blk_cell H3.out 3
  have he4 : W.cell? ⟨w.heap.size, 4, none⟩ = some (.int .u8 e4) := blk_cell H3.out 4
  have he5 : W.cell? ⟨w.heap.size, 5, none⟩ = some (.int .u8 e5) := blk_cell H3.out 5
  have he6 : W.cell? ⟨w.heap.size, 6, none⟩ = some (.int .u8 e6) := blk_cell H3.out 6
  have he7 : W.cell? ⟨w.heap.size, 7, none⟩ = some (.int .u8 e7) := blk_cell H3.out 7
  have hr : W.cell? ⟨g5, 0, none⟩ = some (.int .i64 r) := blk_cell H5.out 0
  go_region_held3 (fun w' => w'.cell? ⟨g7, 0, none⟩ = some (.int .u8 d0) ∧ w'.cell? ⟨g7, 1, none⟩ = some (.int .u8 d1) ∧ w'.cell? ⟨g7, 2, none⟩ = some (.int .u8 d2) ∧ w'.cell? ⟨g7, 3, none⟩ = some (.int .u8 d3) ∧ w'.cell? ⟨g7, 4, none⟩ = some (.int .u8 d4) ∧ w'.cell? ⟨g7, 5, none⟩ = some (.int .u8 d5) ∧ w'.cell? ⟨g7, 6, none⟩ = some (.int .u8 d6) ∧ w'.cell? ⟨g7, 7, none⟩ = some (.int .u8 d7) ∧ w'.cell? ⟨w.heap.size, 0, none⟩ = some (.int .u8 e0) ∧ w'.cell? ⟨w.heap.size, 1, none⟩ = some (.int .u8 e1) ∧ w'.cell? ⟨w.heap.size, 2, none⟩ = some (.int .u8 e2) ∧ w'.cell? ⟨w.heap.size, 3, none⟩ = some (.int .u8 e3) ∧ w'.cell? ⟨w.heap.size, 4, none⟩ = some (.int .u8 e4) ∧ w'.cell? ⟨w.heap.size, 5, none⟩ = some (.int .u8 e5) ∧ w'.cell? ⟨w.heap.size, 6, none⟩ = some (.int .u8 e6) ∧ w'.cell? ⟨w.heap.size, 7, none⟩ = some (.int .u8 e7) ∧ w'.cell? ⟨g5, 0, none⟩ = some (.int .i64 r) ∧ Below w.heap.size w w') (first | exact ⟨hd0, hd1, hd2, hd3, hd4, hd5, hd6, hd7, he0, he1, he2, he3, he4, he5, he6, he7, hr, below_drew hB⟩ | exact (And.imp (pw_cell_below hb) (And.imp (pw_cell_below hb) (And.imp (pw_cell_below hb) (And.imp (pw_cell_below hb) (And.imp (pw_cell_below hb) (And.imp (pw_cell_below hb) (And.imp (pw_cell_below hb) (And.imp (pw_cell_below hb) (And.imp (pw_cell_below hb) (And.imp (pw_cell_below hb) (And.imp (pw_cell_below hb) (And.imp (pw_cell_below hb) (And.imp (pw_cell_below hb) (And.imp (pw_cell_below hb) (And.imp (pw_cell_below hb) (And.imp (pw_cell_below hb) (And.imp (pw_cell_below hb) (fun hS => below_then hS hS.size hb)))))))))))))))))) (by assumption))
    (first
      | (go_at_call 75; refine (far_calls8 d0 d1 d2 d3 d4 d5 d6 d7 e0 e1 e2 e3 e4 e5 e6 e7 _).mono ?_; rintro e w' ⟨rfl, hb⟩))
  obtain ⟨_, _, _, _, _, _, _, _, _, _, _, _, _, _, _, _, _, hBB⟩ := (by assumption : w'.cell? ⟨g7, 0, none⟩ = some (.int .u8 d0) ∧ _)
  go_wp2
  go_ret
  exact ⟨rfl, hBB⟩
set_option maxHeartbeats 4000000 in
set_option maxRecDepth 100000 in
theorem ball_calls (A : Option Addr) (c : Nat) (s : List Int) (x r : Int) (w : World) (hr : Kd.C (Kd.int .i64) w A s.length s) (hc : s.length ≤ c) (hs : isSp s = true) (h0 : 0 ≤ x) (h1 : x ≤ 1024) :
    Calls Try.prog 70 #[.agg #[.slice A s.length c], .int .i64 x, .int .i64 r] w
      fun e w' => ∃ v, e = .returned v ∧ Kd.R (Kd.int .i64) 2 w' w.heap.size (fun _ => True) v (thoseL s (fun e => decide (ham (dig8 s x) e ≤ r)) (prd s).toNat) ∧ Below w.heap.size w w' := by
  have huS := Try.underlying26
  have huD := Try.underlying54
  have HR := Aside0.mk hr
  have HS := Aside0.mk hs
  obtain ⟨kc, hcount⟩ := (Q.count_sp hs).rounds
  have HK := Aside0.mk hcount
  clear hr hs hcount
  go_enter Try.func70, Try.ntmps70
  go_wp2_with fail
  have hcell : ((w.alloc (.cells #[.slice A s.length c] 26)).alloc (.cells #[.int .i64 r] 2)).heap[w.heap.size]? = some (.cells #[.slice A s.length c] 26 (0, 0)) := blk_alloc (blk_new _ _) _
  have hcell2 : ((w.alloc (.cells #[.slice A s.length c] 26)).alloc (.cells #[.int .i64 r] 2)).heap[w.heap.size + 1]? = some (.cells #[.int .i64 r] 2 (0, 0)) := by simpa using blk_new (w.alloc (.cells #[.slice A s.length c] 26)) (.cells #[.int .i64 r] 2)
  have hB : Below w.heap.size w ((w.alloc (.cells #[.slice A s.length c] 26)).alloc (.cells #[.int .i64 r] 2)) := ((Below.refl _ _).alloc (Nat.le_refl _) _).alloc (by simp) _
  refine (digitsOf_calls A c s x _ (Kd.C_below HR.out hB) hc HS.out h0 h1).mono ?_
  rintro e w1 ⟨rfl, hb⟩
  have K1 := Aside0.mk (blk_below hcell hb)
  have K2 := Aside0.mk (blk_below hcell2 hb)
  have B1 := Aside0.mk (below_then hB hB.size hb)
  clear hcell hcell2 hB hb
  have hd8 : dloop s s.length x (List.replicate 8 0) = dig8 s x := rfl
  rw [hd8]
  clear hd8
  have E8 := Aside0.mk (dig8_length s x)
  generalize hd : dig8 s x = d at *
  have HD := Aside0.mk hd
  clear hd
  obtain ⟨y0, y1, y2, y3, y4, y5, y6, y7, rfl⟩ := eight E8.out
  have ea : arr8 [y0, y1, y2, y3, y4, y5, y6, y7] = .agg #[.int .u8 y0, .int .u8 y1, .int .u8 y2, .int .u8 y3, .int .u8 y4, .int .u8 y5, .int .u8 y6, .int .u8 y7] := rfl
  rw [ea]
  clear ea
  have hk : w1.cell? ⟨w.heap.size, 0, none⟩ = some (.slice A s.length c) := blk_cell K1.out 0
  have hk2 : (w1.alloc (.cells #[.int .u8 y0, .int .u8 y1, .int .u8 y2, .int .u8 y3, .int .u8 y4, .int .u8 y5, .int .u8 y6, .int .u8 y7] 54)).cell? ⟨w.heap.size, 0, none⟩ = some (.slice A s.length c) := blk_cell (blk_alloc K1.out _) 0
  go_wp2_with fail
  have R2 := Aside0.mk (blk_alloc K2.out (.cells #[.int .u8 y0, .int .u8 y1, .int .u8 y2, .int .u8 y3, .int .u8 y4, .int .u8 y5, .int .u8 y6, .int .u8 y7] 54))
  have R7 := Aside0.mk (blk_new w1 (.cells #[.int .u8 y0, .int .u8 y1, .int .u8 y2, .int .u8 y3, .int .u8 y4, .int .u8 y5, .int .u8 y6, .int .u8 y7] 54))
  have RB := Aside0.mk (below_alloc B1.out (.cells #[.int .u8 y0, .int .u8 y1, .int .u8 y2, .int .u8 y3, .int .u8 y4, .int .u8 y5, .int .u8 y6, .int .u8 y7] 54))
  refine («ball$1».those_calls (some ⟨w1.heap.size, 0, none⟩) (some ⟨w.heap.size + 1, 0, none⟩) (fun e => decide (ham [y0, y1, y2, y3, y4, y5, y6, y7] e ≤ r)) A c s _ (Kd.C_below HR.out RB.out) hc HS.out kc HK.out ?hf).mono ?_
  case hf =>
    intro e0 e1 e2 e3 e4 e5 e6 e7 W hW
    exact ball1_calls _ _ y0 y1 y2 y3 y4 y5 y6 y7 e0 e1 e2 e3 e4 e5 e6 e7 r W (blk_below R7.out hW) (blk_below R2.out hW)
  rintro e w2 ⟨v, rfl, hO, hb⟩
  have O2 := Aside0.mk (own_weaken hO RB.out.size)
  have B2 := Aside0.mk (below_then RB.out RB.out.size hb)
  clear hO hb
  go_wp2
  go_ret
  refine ⟨_, rfl, ?_, B2.out⟩
  rw [HD.out]
  exact Kd.R_of_own O2.out (fun _ _ => trivial)
def impl_ball.f (l0_0 : List Int) (a1 a2 : Int) : Option (List Int) := if isSp l0_0 = true ∧ isW l0_0 a1 = true then some (thoseL l0_0 (fun e => decide (ham (dig8 l0_0 a1) e ≤ a2)) (prd l0_0).toNat) else none
theorem isW_sm {s : List Int} (hs : isSp s = true) {x : Int} (h : isW s x = true) : 0 ≤ x ∧ x ≤ 1024 := by
  have h1 := (isW_iff s x).1 h
  have h2 := isSp_prd hs
  omega
theorem impl_ball.calls (A0_0 : Option Addr) (c0_0 : Nat) (l0_0 : List Int) (a1 : Int) (a2 : Int) (r : List Int) (w : World) (hr0_0 : Kd.C (Kd.int .i64) w A0_0 l0_0.length l0_0) (hc0_0 : l0_0.length ≤ c0_0) (h : impl_ball.f l0_0 a1 a2 = some r) :
    Calls Try.prog 70 #[.agg #[.slice A0_0 l0_0.length c0_0], .int .i64 a1, .int .i64 a2] w fun e w' => ∃ v0_ : Value, e = .returned (v0_) ∧ Kd.R (Kd.int .i64) 2 w' w.heap.size (fun _ => True) v0_ r ∧ Below w.heap.size w w' := by
  unfold impl_ball.f at h
  split at h
  · rename_i hc
    obtain rfl := Option.some.inj h
    obtain ⟨hs, h1⟩ := hc
    obtain ⟨g0, g1⟩ := isW_sm hs h1
    exact ball_calls A0_0 c0_0 l0_0 a1 a2 w hr0_0 hc0_0 hs g0 g1
  · cases h
end Go.Proofs.Ytlfipjdjmpdblaa.P
set_option linter.unusedVariables false
set_option linter.unusedSimpArgs false
namespace Go.Proofs.Ytlfipjdjmpdblaa.Q
open Go.RowKit Go.Proofs.Ytlfipjdjmpdblaa.P Go.Proofs.YtlfipjdjmpdblaaW.PrintWords CC
theorem l01Own_eq (l : List Int) (hl : l.length ≤ 1048576) : spec_l01Own.f l = some l := by
  unfold spec_l01Own.f
  simp only [Option.bind_some, List.length_nil, List.nil_append]
  rw [if_pos (by omega)]
theorem likeInts_l {l : List Int} (hl : l.length ≤ 1048576) : ∀ (m n : Nat), n + m = l.length → Ev (fun k => laws_likeInts.l0 k l l (n : Int)) true
  | 0, n, hm => by
    refine Ev.step (fun k => by simp only [laws_likeInts.l0]; exact rfl) ?_
    exact Ev.iff_neg (by omega) (Ev.now _)
  | m + 1, n, hm => by
    have ih := likeInts_l hl m (n + 1) (by omega)
    refine Ev.step (fun k => by simp only [laws_likeInts.l0]; exact rfl) ?_
    refine Ev.iff_pos (by omega) (Ev.iff_pos (by omega) (Ev.iff_pos (by omega) (Ev.iff_pos (by first | rfl | trivial) ?_)))
    rw [wrap_nat (by unfold maxLen; omega)]
    exact ih
theorem likeInts_same {l : List Int} (hl : l.length ≤ 1048576) : Ev (fun k => laws_likeInts.f k l l) true := by
  unfold laws_likeInts.f
  exact Ev.iff_pos rfl (likeInts_l hl l.length 0 (by omega))
theorem hasInt_l {l : List Int} (hl : l.length ≤ 1048576) (x : Int) : ∀ (m n : Nat), n + m = l.length → Ev (fun k => laws_hasInt.l0 k l x (n : Int)) (decide (x ∈ l.drop n))
  | 0, n, hm => by
    refine Ev.step (fun k => by simp only [laws_hasInt.l0]; exact rfl) ?_
    refine Ev.iff_neg (by omega) ?_
    rw [drop_all (by omega)]
    simpa using Ev.now _
  | m + 1, n, hm => by
    have ih := hasInt_l hl x m (n + 1) (by omega)
    refine Ev.step (fun k => by simp only [laws_hasInt.l0]; exact rfl) ?_
    refine Ev.iff_pos (by omega) (Ev.iff_pos (by omega) ?_)
    rw [drop_cons l (by omega)]
    by_cases h : rd l (n : Int) = x
    · refine Ev.iff_pos h ?_
      simpa [h] using Ev.now _
    · refine Ev.iff_neg h ?_
      rw [wrap_nat (by unfold maxLen; omega)]
      have h2 : ¬ x = rd l (n : Int) := fun z => h z.symm
      simpa [h2] using ih
theorem hasInt_ev {l : List Int} (hl : l.length ≤ 1048576) (x : Int) : Ev (fun k => laws_hasInt.f k l x) (decide (x ∈ l)) := by
  unfold laws_hasInt.f
  exact hasInt_l hl x l.length 0 (by omega)
theorem bytes_in {l : List Int} (h : ∀ x ∈ l, (Lit.int .u8 x).wf = true) : ∀ x ∈ l, 0 ≤ x ∧ x ≤ 255 := fun x hx => by
  have := h x hx
  have e1 : IntKind.u8.min = 0 := by decide
  have e2 : IntKind.u8.max = 255 := by decide
  simp [Lit.wf, e1, e2] at this
  omega
theorem l01Word_l (s d : List Int) (hs : s.all sizeOk = true) (hl : s.length ≤ 8) (hd : d.length = s.length) : ∀ (m n : Nat) (a : Int), n + m = s.length → 0 ≤ a → a + 1 ≤ 4 ^ n → inR (s.drop n) (d.drop n) = true →
    Ev (fun k => spec_l01Word.l0 k d a (n : Int) s) (hor a (s.drop n) (d.drop n))
  | 0, n, a, hm, h0, h1, hr => by
    refine Ev.step (f := fun _ => some a) (fun k => ?_) ?_
    · simp only [spec_l01Word.l0]
      rw [if_neg (by omega)]
    · rw [drop_all (by omega)]
      exact Ev.now a
  | m + 1, n, a, hm, h0, h1, hr => by
    have hn : n < s.length := by omega
    have hn2 : n < d.length := by omega
    rw [drop_cons s hn, drop_cons d hn2] at hr ⊢
    simp only [inR, Bool.and_eq_true, decide_eq_true_eq] at hr
    obtain ⟨e, b0, b1⟩ := hor_step (n := n) (by omega) (all_rd hs hn) h0 h1 hr.1.1 hr.1.2
    refine Ev.step (f := fun k => spec_l01Word.l0 k d (a * rd s (n : Int) + rd d (n : Int)) ((n + 1 : Nat) : Int) s) (fun k => ?_) ?_
    · simp only [spec_l01Word.l0]
      rw [if_pos (by omega), if_pos (by omega), if_pos (by omega), e, wrap_nat (by unfold maxLen; omega)]
    · exact l01Word_l s d hs hl hd m (n + 1) _ (by omega) b0 b1 hr.2
theorem l01Word_ev {s d : List Int} (hs : s.all sizeOk = true) (hl : s.length ≤ 8) (hd : d.length = s.length) (hr : inR s d = true) : Ev (fun k => spec_l01Word.f k s d) (wd s d) := by
  unfold spec_l01Word.f wd
  simpa using l01Word_l s d hs hl hd s.length 0 0 (by omega) (by omega) (by simp) (by simpa using hr)
theorem l01Distance_l {s : List Int} (hs : s.all sizeOk = true) (hl : s.length ≤ 8) : ∀ (n : Nat) (u w acc : Int), n ≤ s.length → 0 ≤ u → u ≤ 1024 → 0 ≤ w → w ≤ 1024 → 0 ≤ acc → acc + n ≤ 100 →
    Ev (fun k => spec_l01Distance.l0 k u w acc ((n : Int) - 1) s) (acc + ham (dgr (s.take n).reverse u) (dgr (s.take n).reverse w))
  | 0, u, w, acc, _, _, _, _, _, _, _ => by
    refine Ev.step (f := fun k => some acc) (fun k => ?_) (by simpa [dgr, ham] using Ev.now _)
    simp only [spec_l01Distance.l0]
    rw [if_neg (by omega)]
  | n + 1, u, w, acc, hn, u0, u1, w0, w1, a0, a1 => by
    have hq := all_rd hs (show n < s.length by omega)
    obtain ⟨b0, b1, b2, b3⟩ := div_bounds u0 u1 hq
    obtain ⟨d0, d1, d2, d3⟩ := div_bounds w0 w1 hq
    have e : ((n + 1 : Nat) : Int) - 1 = (n : Int) := by omega
    rw [e]
    refine Ev.step (fun k => by simp only [spec_l01Distance.l0]; exact rfl) ?_
    refine Ev.iff_pos (by omega) (Ev.iff_pos (by omega) (Ev.iff_pos (by omega) (Ev.iff_neg (by omega) ?_)))
    rw [b2, b3, d2, d3, pred_nat n (by omega), take_rd s (by omega), List.reverse_append]
    simp only [List.reverse_cons, List.reverse_nil, List.nil_append, List.singleton_append, dgr, ham]
    by_cases h : u % rd s (n : Int) = w % rd s (n : Int)
    · refine Ev.iff_pos h ?_
      rw [if_pos h]
      have := l01Distance_l hs hl n (u / rd s (n : Int)) (w / rd s (n : Int)) acc (by omega) b0 b1 d0 d1 a0 (by omega)
      simpa using this
    · refine Ev.iff_neg h ?_
      rw [if_neg h, wrap_id (x := acc + 1) (by omega) (by omega), ← Int.add_assoc]
      exact l01Distance_l hs hl n (u / rd s (n : Int)) (w / rd s (n : Int)) (acc + 1) (by omega) b0 b1 d0 d1 (by omega) (by omega)
theorem l01Distance_ev {s : List Int} (hs : isSp s = true) {u w : Int} (hu : isW s u = true) (hw : isW s w = true) : Ev (fun k => spec_l01Distance.f k s u w) (dist s u w) := by
  have hl := isSp_len hs
  obtain ⟨u0, u1⟩ := isW_b hs hu
  obtain ⟨w0, w1⟩ := isW_b hs hw
  unfold spec_l01Distance.f
  have e : wrap64 ((s.length : Int) - 1) = (s.length : Int) - 1 := wrap_id (by omega) (by omega)
  rw [e]
  have := l01Distance_l (isSp_all hs) hl s.length u w 0 (Nat.le_refl _) u0 u1 w0 w1 (by omega) (by omega)
  rw [List.take_length, Int.zero_add] at this
  unfold dist dg
  rw [ham_reverse _ _ (by rw [dgr_length, dgr_length])]
  exact this
end Go.Proofs.Ytlfipjdjmpdblaa.Q
set_option linter.unusedVariables false
set_option linter.unusedSimpArgs false
namespace Go.Proofs.Ytlfipjdjmpdblaa.P
open Go.RowKit Go.Proofs.YtlfipjdjmpdblaaW.PrintWords Go.Proofs.YtlfipjdjmpdblaaW.PrintLast Go.Proofs.YtlfipjdjmpdblaaW.PrintMore CC
theorem isW_sm1 {s : List Int} (hs : isSp s = true) {x : Int} (h : isW s x = true) : 0 ≤ x ∧ x ≤ 1024 := by
  have h1 := (isW_iff s x).1 h
  have h2 := isSp_prd hs
  omega
theorem one_reads {w : World} {g : Nat} {t : TypeId} {x : Int} (h : w.heap[g]? = some (.cells #[.int .i64 x] t (0, 0))) : Kd.C (Kd.int .i64) w (some ⟨g, 0, none⟩) 1 [x] :=
  Kd.C_of_reads (d := (0 : Int)) (h1 := fun _ => rfl) ⟨rfl, by omega, fun _ => ⟨_, rfl, fun j hj => by
    obtain rfl : j = 0 := by omega
    rw [add_plain, blk_cell h]
    rfl⟩⟩
def rOpp (s : List Int) (x : Int) : Int × Int := if Q.rWords s [x] = 0 then (hor 0 s (opp8 s (dig8 s x)), 0) else (0, Q.rWords s [x])
def impl_OppositeWord.f (l0_0 : List Int) (a1 : Int) : Option (Int × Int) := some (rOpp l0_0 a1)
set_option maxHeartbeats 4000000 in
set_option maxRecDepth 100000 in
theorem OppositeWord_calls (A : Option Addr) (c : Nat) (s : List Int) (x : Int) (w : World) (hr : Kd.C (Kd.int .i64) w A s.length s) (hc : s.length ≤ c) :
    Calls Try.prog 12 #[.agg #[.slice A s.length c], .int .i64 x] w
      fun e w' => e = .returned (.tuple #[.int .i64 (rOpp s x).1, .int .i64 (rOpp s x).2]) ∧ Below w.heap.size w w' := by
  have huS := Try.underlying26
  have HR := Aside0.mk hr
  clear hr
  obtain ⟨kc, hk⟩ := (Q.wordCode_ev s (c := [x]) (by simp)).rounds
  have HK := Aside0.mk hk
  clear hk
  have HX : Aside0 (rOpp s x = if Q.rWords s [x] = 0 then (hor 0 s (opp8 s (dig8 s x)), 0) else (0, Q.rWords s [x])) := ⟨rfl⟩
  generalize rOpp s x = R at *
  go_enter Try.func12, Try.ntmps12
  go_wp2_with fail
  have hB : Below w.heap.size w ((w.alloc (.cells #[.slice A s.length c] 26)).alloc (.cells #[.int .i64 x] 2)) := ((Below.refl _ _).alloc (Nat.le_refl _) _).alloc (by simp) _
  have hcell : ((w.alloc (.cells #[.slice A s.length c] 26)).alloc (.cells #[.int .i64 x] 2)).heap[w.heap.size]? = some (.cells #[.slice A s.length c] 26 (0, 0)) := blk_alloc (blk_new _ _) _
  have hone : ((w.alloc (.cells #[.slice A s.length c] 26)).alloc (.cells #[.int .i64 x] 2)).heap[w.heap.size + 1]? = some (.cells #[.int .i64 x] 2 (0, 0)) := by simpa using blk_new (w.alloc (.cells #[.slice A s.length c] 26)) (.cells #[.int .i64 x] 2)
  refine (impl_wordCode.calls kc A c s _ 1 [x] (Q.rWords s [x]) _ (Kd.C_below HR.out hB) hc (one_reads hone) (by simp) HK.out).mono ?_
  rintro e w1 ⟨rfl, hb⟩
  have K1 := Aside0.mk (blk_below hcell hb)
  have B1 := Aside0.mk (below_then hB hB.size hb)
  clear hB hcell hone hb
  by_cases h0 : Q.rWords s [x] = 0
  · obtain ⟨hs, hw⟩ := Q.rWords_zero h0
    have hw := hw x (by simp)
    obtain ⟨x0, x1⟩ := isW_sm1 hs hw
    have I1 := Aside0.mk (dig8_inR hs x)
    have I2 := Aside0.mk (opp8_inR hs (dig8 s x))
    have HS := Aside0.mk hs
    have HE : Aside0 (R = (hor 0 s (opp8 s (dig8 s x)), 0)) := ⟨by rw [HX.out, if_pos h0]⟩
    have t1 : (Q.rWords s [x] != 0) = false := by rw [h0]; rfl
    clear HX h0 hs hw
    have hcz : w1.cell? ⟨w.heap.size, 0, none⟩ = some (.slice A s.length c) := blk_cell K1.out 0
    go_wp2_with fail
    go_region_held3 (fun w' => w'.cell? ⟨w.heap.size, 0, none⟩ = some (.slice A s.length c) ∧ Below w.heap.size w w') (first | exact ⟨hcz, below_drew B1.out⟩ | exact keepS hb (by assumption))
      (first
        | (go_at_call 64; refine (digitsOf_calls A c s _ _ ?k1 hc HS.out x0 x1).mono ?_; (case k1 => exact Kd.C_below HR.out (by first | assumption | exact (by assumption : _ ∧ Below _ _ _).2)); rintro e w' ⟨rfl, hb⟩)
        | (go_at_call 63; refine (oppositeOf_calls A c s (dig8 s x) _ ?k1 hc HS.out (dig8_length _ _) I1.out).mono ?_; (case k1 => exact Kd.C_below HR.out (by first | assumption | exact (by assumption : _ ∧ Below _ _ _).2)); rintro e w' ⟨rfl, hb⟩)
        | (go_at_call 62; refine (wordOf_calls A c s (opp8 s (dig8 s x)) _ ?k1 hc HS.out (upd8_length _ _) I2.out).mono ?_; (case k1 => exact Kd.C_below HR.out (by first | assumption | exact (by assumption : _ ∧ Below _ _ _).2)); rintro e w' ⟨rfl, hb⟩))
    have hBB := (by assumption : w'.cell? ⟨w.heap.size, 0, none⟩ = some (.slice A s.length c) ∧ _).2
    go_wp2
    go_ret2
    refine ⟨?_, hBB⟩
    rw [HE.out]
    rfl
  · have HE : Aside0 (R = (0, Q.rWords s [x])) := ⟨by rw [HX.out, if_neg h0]⟩
    have t1 : (Q.rWords s [x] != 0) = true := bne_iff_ne.mpr h0
    clear HX h0
    go_wp2
    go_ret2
    refine ⟨?_, B1.out⟩
    rw [HE.out]
    rfl
theorem impl_OppositeWord.calls (A0_0 : Option Addr) (c0_0 : Nat) (l0_0 : List Int) (a1 : Int) (r1 : Int) (r2 : Int) (w : World) (hr0_0 : Kd.C (Kd.int .i64) w A0_0 l0_0.length l0_0) (hc0_0 : l0_0.length ≤ c0_0) (h : impl_OppositeWord.f l0_0 a1 = some (r1, r2)) :
    Calls Try.prog 12 #[.agg #[.slice A0_0 l0_0.length c0_0], .int .i64 a1] w fun e w' => e = .returned (.tuple #[.int .i64 r1, .int .i64 r2]) ∧ Below w.heap.size w w' := by
  unfold impl_OppositeWord.f at h
  have e := Option.some.inj h
  have := OppositeWord_calls A0_0 c0_0 l0_0 a1 w hr0_0 hc0_0
  rw [e] at this
  exact this
def rDigitsOf (s : List Int) (x : Int) : List Int × Int := if Q.rWords s [x] = 0 then (dg s x, 0) else ([], Q.rWords s [x])
def impl_DigitsOf.f (l0_0 : List Int) (a1 : Int) : Option (List Int × Int) := some (rDigitsOf l0_0 a1)
theorem isW_sm2 {s : List Int} (hs : isSp s = true) {x : Int} (h : isW s x = true) : 0 ≤ x ∧ x ≤ 1024 := by
  have h1 := (isW_iff s x).1 h
  have h2 := isSp_prd hs
  omega
theorem one_reads1 {w : World} {g : Nat} {t : TypeId} {x : Int} (h : w.heap[g]? = some (.cells #[.int .i64 x] t (0, 0))) : Kd.C (Kd.int .i64) w (some ⟨g, 0, none⟩) 1 [x] :=
  Kd.C_of_reads (d := (0 : Int)) (h1 := fun _ => rfl) ⟨rfl, by omega, fun _ => ⟨_, rfl, fun j hj => by
    obtain rfl : j = 0 := by omega
    rw [add_plain, blk_cell h]
    rfl⟩⟩
theorem dig8_take {s : List Int} (hl : s.length ≤ 8) (x : Int) : (dig8 s x).take s.length = dg s x := by
  rw [dig8_eq hl, List.take_append_of_le_length (by rw [dg_length]; exact Nat.le_refl _), List.take_of_length_le (by rw [dg_length]; exact Nat.le_refl _)]
theorem infoI1 : (Try.prog.info? 2).map (fun i => (i.zero, i.size, i.bytes)) = some (some (.int .i64 0), 1, 8) := by kernel_rfl
theorem inR_u8 {s d : List Int} (hs : s.all sizeOk = true) (h : inR s d = true) {k : Nat} (hk : k < s.length) (hd : k < d.length) : 0 ≤ rd d (k : Int) ∧ rd d (k : Int) ≤ 3 := by
  have h1 := inR_rd s d k h hk hd
  have hq : sizeOk (rd s (k : Int)) = true := by
    have : rd s (k : Int) = s[k] := by simp [rd, List.getD_eq_getElem?_getD, hk]
    rw [this]
    exact List.all_eq_true.1 hs _ (List.getElem_mem hk)
  have := (sizeOk_iff _).1 hq
  omega
set_option maxHeartbeats 4000000 in
set_option maxRecDepth 100000 in
theorem DigitsOf_calls (A : Option Addr) (c : Nat) (s : List Int) (x : Int) (w : World) (hr : Kd.C (Kd.int .i64) w A s.length s) (hc : s.length ≤ c) :
    Calls Try.prog 16 #[.agg #[.slice A s.length c], .int .i64 x] w
      fun e w' => ∃ v, e = .returned (.tuple #[v, .int .i64 (rDigitsOf s x).2]) ∧ Kd.R (Kd.int .i64) 2 w' w.heap.size (fun _ => True) v (rDigitsOf s x).1 ∧ Below w.heap.size w w' := by
  have huS := Try.underlying26
  have huD := Try.underlying54
  have HR := Aside0.mk hr
  clear hr
  obtain ⟨kc, hk⟩ := (Q.wordCode_ev s (c := [x]) (by simp)).rounds
  have HK := Aside0.mk hk
  clear hk
  have HX : Aside0 (rDigitsOf s x = if Q.rWords s [x] = 0 then (dg s x, 0) else ([], Q.rWords s [x])) := ⟨rfl⟩
  generalize rDigitsOf s x = R at *
  obtain ⟨i0, hi, hz0, hz1, hz2⟩ := info_parts infoI1
  have HI := Aside0.mk (And.intro hi (And.intro hz0 (And.intro hz1 hz2)))
  clear hi hz0 hz1 hz2
  go_enter Try.func16, Try.ntmps16
  go_wp2_with fail
  have hB : Below w.heap.size w ((w.alloc (.cells #[.slice A s.length c] 26)).alloc (.cells #[.int .i64 x] 2)) := ((Below.refl _ _).alloc (Nat.le_refl _) _).alloc (by simp) _
  have hcell : ((w.alloc (.cells #[.slice A s.length c] 26)).alloc (.cells #[.int .i64 x] 2)).heap[w.heap.size]? = some (.cells #[.slice A s.length c] 26 (0, 0)) := blk_alloc (blk_new _ _) _
  have hone : ((w.alloc (.cells #[.slice A s.length c] 26)).alloc (.cells #[.int .i64 x] 2)).heap[w.heap.size + 1]? = some (.cells #[.int .i64 x] 2 (0, 0)) := by simpa using blk_new (w.alloc (.cells #[.slice A s.length c] 26)) (.cells #[.int .i64 x] 2)
  refine (impl_wordCode.calls kc A c s _ 1 [x] (Q.rWords s [x]) _ (Kd.C_below HR.out hB) hc (one_reads1 hone) (by simp) HK.out).mono ?_
  rintro e w1 ⟨rfl, hb⟩
  have K1 := Aside0.mk (blk_below hcell hb)
  have B1 := Aside0.mk (below_then hB hB.size hb)
  clear hB hcell hone hb
  by_cases h0 : Q.rWords s [x] = 0
  · obtain ⟨hs, hw⟩ := Q.rWords_zero h0
    have hw := hw x (by simp)
    obtain ⟨x0, x1⟩ := isW_sm2 hs hw
    have I1 := Aside0.mk (dig8_inR hs x)
    have HS := Aside0.mk hs
    have hl := isSp_len hs
    have HE : Aside0 (R = (dg s x, 0)) := ⟨by rw [HX.out, if_pos h0]⟩
    have HT : Aside0 ((dig8 s x).take s.length = dg s x) := ⟨dig8_take hl x⟩
    have t1 : (Q.rWords s [x] != 0) = false := by rw [h0]; rfl
    clear HX h0 hs hw
    have hcz : w1.cell? ⟨w.heap.size, 0, none⟩ = some (.slice A s.length c) := blk_cell K1.out 0
    go_wp2_with fail
    refine (digitsOf_calls A c s x _ (Kd.C_below HR.out B1.out) hc HS.out x0 x1).mono ?_
    rintro e w2 ⟨rfl, hb⟩
    have K2 := Aside0.mk (blk_below K1.out hb)
    have B2 := Aside0.mk (below_then B1.out B1.out.size hb)
    clear K1 B1 hb hcz
    have hd8 : dloop s s.length x (List.replicate 8 0) = dig8 s x := rfl
    rw [hd8]
    clear hd8
    have E8 := Aside0.mk (dig8_length s x)
    generalize dig8 s x = d at *
    obtain ⟨y0, y1, y2, y3, y4, y5, y6, y7, hd⟩ := eight E8.out
    have ea : arr8 d = .agg #[.int .u8 y0, .int .u8 y1, .int .u8 y2, .int .u8 y3, .int .u8 y4, .int .u8 y5, .int .u8 y6, .int .u8 y7] := by rw [hd]; rfl
    have hna : (nums .u8 d).toArray = #[.int .u8 y0, .int .u8 y1, .int .u8 y2, .int .u8 y3, .int .u8 y4, .int .u8 y5, .int .u8 y6, .int .u8 y7] := by rw [hd]; rfl
    have HN : Aside0 ((nums .u8 d).toArray = #[.int .u8 y0, .int .u8 y1, .int .u8 y2, .int .u8 y3, .int .u8 y4, .int .u8 y5, .int .u8 y6, .int .u8 y7]) := ⟨hna⟩
    rw [ea]
    clear ea hd hna
    have hcz2 : ∀ o1, (w2.alloc o1).cell? ⟨w.heap.size, 0, none⟩ = some (.slice A s.length c) := fun o1 => blk_cell (blk_alloc K2.out o1) 0
    have hcz3 : ∀ o1 o2, ((w2.alloc o1).alloc o2).cell? ⟨w.heap.size, 0, none⟩ = some (.slice A s.length c) := fun o1 o2 => blk_cell (blk_alloc (blk_alloc K2.out o1) o2) 0
    go_wp2_with fail
    have bO : ((w2.alloc (.cells #[] 2)).alloc (.cells #[.int .u8 y0, .int .u8 y1, .int .u8 y2, .int .u8 y3, .int .u8 y4, .int .u8 y5, .int .u8 y6, .int .u8 y7] 54)).ownsRow w.heap.size 2 1 (.slice (some ⟨w2.heap.size, 0, none⟩) 0 0) 0 [] :=
      ⟨rfl, .inr ⟨w2.heap.size, 0, #[], rfl, B2.out.size, blk_alloc (blk_new w2 (.cells #[] 2)) _, by omega, by unfold maxLen; omega, rfl, rfl⟩⟩
    have bD : ((w2.alloc (.cells #[] 2)).alloc (.cells #[.int .u8 y0, .int .u8 y1, .int .u8 y2, .int .u8 y3, .int .u8 y4, .int .u8 y5, .int .u8 y6, .int .u8 y7] 54)).heap[w2.heap.size + 1]? = some (.cells (nums .u8 d).toArray 54 (0, 0)) := by
      rw [HN.out]
      simpa using blk_new (w2.alloc (.cells #[] 2)) (.cells #[.int .u8 y0, .int .u8 y1, .int .u8 y2, .int .u8 y3, .int .u8 y4, .int .u8 y5, .int .u8 y6, .int .u8 y7] 54)
    have bB : Below w.heap.size w ((w2.alloc (.cells #[] 2)).alloc (.cells #[.int .u8 y0, .int .u8 y1, .int .u8 y2, .int .u8 y3, .int .u8 y4, .int .u8 y5, .int .u8 y6, .int .u8 y7] 54)) := below_alloc (below_alloc B2.out _) _
    have BO := Aside0.mk bO
    have BD := Aside0.mk bD
    have BB := Aside0.mk bB
    have hg : w.heap.size ≤ w2.heap.size := B2.out.size
    clear bO bD bB hcz2 hcz3 HN K2 B2
    generalize (w2.alloc (.cells #[] 2)).alloc (.cells #[.int .u8 y0, .int .u8 y1, .int .u8 y2, .int .u8 y3, .int .u8 y4, .int .u8 y5, .int .u8 y6, .int .u8 y7] 54) = W0 at *
    generalize w2.heap.size = g2 at *
    go_loopw [8, 24] (fun v i W => ∃ (n : Nat), n ≤ s.length ∧ i = .int .i64 n ∧ Aside0 (W.ownsRow w.heap.size 2 1 v n (nums .i64 (d.take n))) ∧ Aside0 (W.heap[g2 + 1]? = some (.cells (nums .u8 d).toArray 54 (0, 0))) ∧ Aside0 (Below w.heap.size w W)) (fun _ i _ => s.length - (intOf i).toNat)
    case atStart => exact ⟨0, by omega, rfl, ⟨BO.out⟩, BD, BB⟩
    case round =>
      clear BO BD BB
      obtain ⟨n, hn, rfl, HO, HD, HB⟩ := hrel
      by_cases hlt : n < s.length
      · have hd8 : n < d.length := by have := E8.out; omega
        have hy := cell8 HD.out (i := n) hd8
        obtain ⟨r0, r1⟩ := inR_u8 (isSp_all HS.out) I1.out hlt hd8
        have HL := Aside0.mk (take_rd8 hd8)
        have hlen : (d.take n).length ≤ n := List.length_take_le _ _
        clear hd8
        generalize rd d (n : Int) = y at *
        go_wp2_with (at_builtin; obtain ⟨hi, hz0, hz1, hz2⟩ := HI.out; refine wpList_append_own _ rfl _ _ 24 rfl w.heap.size 2 i0 (.int .i64 0) 1 8 Try.underlying24 hi hz0 hz1 hz2 rfl (by decide) _ n (nums .i64 (d.take n)) rfl (HO.out.alloc _) ⟨wr.heap.size, 0, none⟩ 1 1 [.int .i64 y] rfl ?c0 ?c1 ?c2 ?c3 ?c4 ?c5 ?_; clear hi hz0 hz1 hz2)
        case c0 => rfl
        case c1 =>
          intro j u hj
          have hb := blk_cell (blk_new wr (.cells #[.int .i64 y] 2)) j
          rw [add_plain, hb]
          simpa using hj
        case c2 => intro u hu; simp only [List.mem_cons, List.not_mem_nil, or_false] at hu; rcases hu with rfl; rfl
        case c3 => unfold maxLen; omega
        case c4 => omega
        case c5 => have := HB.out.size; simp; omega
        intro v' w3 O3 G3 _
        have O4 : Aside0 (w3.ownsRow w.heap.size 2 1 v' (n + 1) (nums .i64 (d.take (n + 1)))) := ⟨by rw [HL.out, nums_append]; exact O3⟩
        have D3 := Aside0.mk (blk_grown (blk_alloc HD.out _) G3 (own_ne HO.out HD.out (by decide)))
        have B3 := Aside0.mk (pw_below_grown (below_alloc HB.out _) _ (by have := HB.out.size; simp; omega) G3 (fun k hk => own_base HO.out k hk))
        clear O3 G3 HO HD HB HL
        go_wp2
        go_roundw
        case rel => exact ⟨n + 1, by omega, by go_num, O4, D3, B3⟩
        case measure => simp [intOf]; omega
      · have hn : n = s.length := by omega
        subst hn
        go_wp2
        go_ret2
        rw [HE.out]
        refine ⟨_, rfl, ?_, HB.out⟩
        have hO := HO.out
        rw [HT.out] at hO
        exact Kd.R_of_own (by rw [dg_length]; exact hO) (fun _ _ => trivial)
  · have HE : Aside0 (R = ([], Q.rWords s [x])) := ⟨by rw [HX.out, if_neg h0]⟩
    have t1 : (Q.rWords s [x] != 0) = true := bne_iff_ne.mpr h0
    clear HX h0
    go_wp2
    go_ret2
    rw [HE.out]
    exact ⟨_, rfl, Kd.R_nil _ _ _ _ _, B1.out⟩
theorem impl_DigitsOf.calls (A0_0 : Option Addr) (c0_0 : Nat) (l0_0 : List Int) (a1 : Int) (r1 : List Int) (r2 : Int) (w : World) (hr0_0 : Kd.C (Kd.int .i64) w A0_0 l0_0.length l0_0) (hc0_0 : l0_0.length ≤ c0_0) (h : impl_DigitsOf.f l0_0 a1 = some (r1, r2)) :
    Calls Try.prog 16 #[.agg #[.slice A0_0 l0_0.length c0_0], .int .i64 a1] w fun e w' => ∃ v0_ : Value, e = .returned (.tuple #[v0_, .int .i64 r2]) ∧ Kd.R (Kd.int .i64) 2 w' w.heap.size (fun _ => True) v0_ r1 ∧ Below w.heap.size w w' := by
  unfold impl_DigitsOf.f at h
  have e := Option.some.inj h
  have := DigitsOf_calls A0_0 c0_0 l0_0 a1 w hr0_0 hc0_0
  rw [e] at this
  exact this
end Go.Proofs.Ytlfipjdjmpdblaa.P
set_option linter.unusedVariables false
set_option linter.unusedSimpArgs false
namespace Go.Proofs.Ytlfipjdjmpdblaa.Q
open Go.RowKit Go.Proofs.Ytlfipjdjmpdblaa.P Go.Proofs.YtlfipjdjmpdblaaW.PrintWords CC
end Go.Proofs.Ytlfipjdjmpdblaa.Q
namespace Go.Proofs.Ytlfipjdjmpdblaa.P
open Go.RowKit Go.Proofs.YtlfipjdjmpdblaaW.PrintWords Go.Proofs.YtlfipjdjmpdblaaW.PrintLast Go.Proofs.YtlfipjdjmpdblaaW.PrintMore
attribute [local go_sem] max2_int min2_int max_two min_two max_three min_three max_four min_four
set_option linter.unusedVariables false
set_option linter.unusedSimpArgs false
def impl_BallOf.f (k : Nat) (l0_0 : List Int) (a1 : Int) (a2 : Int) : Option (List Int × Int) := (impl_ballCode.f k l0_0 a1 a2).bind fun t102 => (if t102 = 0 then ((impl_ball.f l0_0 a1 a2).bind fun t103 => (some (t103, 0))) else (some (([] : List Int), t102)))
set_option maxHeartbeats 8000000 in
set_option maxRecDepth 100000 in
theorem impl_BallOf.calls (k : Nat) (A0_0 : Option Addr) (c0_0 : Nat) (l0_0 : List Int) (a1 : Int) (a2 : Int) (r1 : List Int) (r2 : Int) (w : World) (hr0_0 : Kd.C (Kd.int .i64) w A0_0 l0_0.length l0_0) (hc0_0 : l0_0.length ≤ c0_0) (h : impl_BallOf.f k l0_0 a1 a2 = some (r1, r2)) :
  Calls Try.prog 23 #[.agg #[.slice A0_0 l0_0.length c0_0], .int .i64 a1, .int .i64 a2] w fun e w' => ∃ v0_ : Value, e = .returned (.tuple #[v0_, .int .i64 r2]) ∧ Kd.R (Kd.int .i64) 2 w' w.heap.size (fun _ => True) v0_ r1 ∧ Below w.heap.size w w' := by
 have hu26 := Try.underlying26
 have HR0_0 := Aside0.mk hr0_0
 have HC0_0 := Aside0.mk hc0_0
 clear hr0_0 hc0_0
 have HB := Aside0.mk (Below.refl w.heap.size w)
 have H : ((impl_ballCode.f k l0_0 a1 a2).bind fun t102 => (if t102 = 0 then ((impl_ball.f l0_0 a1 a2).bind fun t103 => (some (t103, 0))) else (some (([] : List Int), t102)))) = some (r1, r2) := h
 clear h
 replace H := Option.bind_eq_some_iff.mp H
 obtain ⟨t102, A40, H⟩ := H
 replace H : (if t102 = 0 then ((impl_ball.f l0_0 a1 a2).bind fun t103 => (some (t103, 0))) else (some (([] : List Int), t102))) = some (r1, r2) := H
 have A4 := Aside0.mk A40
 clear A40
 by_cases c5 : t102 = 0
 rotate_left
 ·rw [if_neg c5] at H
  have c5b0 : (t102 == 0) = false := beq_eq_false_iff_ne.mpr c5
  have c5b1 : (t102 != 0) = true := bne_iff_ne.mpr c5
  simp only [Option.some.injEq, Prod.mk.injEq] at H
  obtain ⟨rfl, rfl⟩ := H
  go_enter Try.func23, Try.ntmps23
  go_wp2_with (first | ((with_reducible refine gate_dst (N := 3) rfl ?_); refine bx_ (N := 3) (cs := #[.slice A0_0 l0_0.length c0_0]) (t := 26) rfl rfl ?_; intro gb101 hg w12 hbox hb; have n0_ := b1_ HB hb; have n1_ := Aside0.mk (hbox); have n2_ := ge_ hg HB; have n3_ := ge_ hg HB; clear HB; have HB := n0_; have BK101 := n1_; have GW101 := n2_; have GE101 := n3_; clear n0_ n1_ n2_ n3_ hb hbox hg; have hcz13_0 := hz_ BK101; have hfz13_0 := blk_frozen BK101.out 0) | ((with_reducible refine gate_callee (f := 69) rfl ?_); refine gl_ (some 12) rfl rfl Try.func69 #[.agg #[.slice A0_0 l0_0.length c0_0], .int .i64 a1, .int .i64 a2] rfl ?_; (with_reducible refine (impl_ballCode.calls k _ _ l0_0 a1 a2 t102 _ ?side1 ?side2 A4.out).mono ?_); (case side1 => exact c2_ HR0_0 HB); (case side2 => exact HC0_0.out); rintro e w14 ⟨rfl, hb⟩; refine ⟨_, rfl, ?_⟩; replace BK101 := a2_ BK101 hb; replace HB := b1_ HB hb; (try clear hb); (try clear hb2); (try clear hk); (try clear hi)))
  go_ret2
  exact ⟨_, t5_, by first | exact Kd.R_nil _ _ _ _ _ | exact Kd.N_nil _ _ _ _ _ | exact Kd.V_nil _ _ _ _ _ | exact Kd.Q_nil _ _ _ _ _ | exact Kd.S_nil _ _ _ _ _, gb_ HB.out⟩

 rw [if_pos c5] at H
 have c5b0 : (t102 == 0) = true := beq_iff_eq.mpr c5
 have c5b1 : (t102 != 0) = false := bne_eq_false_iff_eq.mpr c5
 clear c5
 replace H := Option.bind_eq_some_iff.mp H
 obtain ⟨t103, A60, H⟩ := H
 replace H : (some (t103, 0)) = some (r1, r2) := H
 have A6 := Aside0.mk A60
 clear A60
 simp only [Option.some.injEq, Prod.mk.injEq] at H
 obtain ⟨rfl, rfl⟩ := H
 go_enter Try.func23, Try.ntmps23
 go_wp2_with (first | ((with_reducible refine gate_dst (N := 3) rfl ?_); refine bx_ (N := 3) (cs := #[.slice A0_0 l0_0.length c0_0]) (t := 26) rfl rfl ?_; intro gb101 hg w7 hbox hb; have n0_ := b1_ HB hb; have n1_ := Aside0.mk (hbox); have n2_ := ge_ hg HB; have n3_ := ge_ hg HB; clear HB; have HB := n0_; have BK101 := n1_; have GW101 := n2_; have GE101 := n3_; clear n0_ n1_ n2_ n3_ hb hbox hg; have hcz8_0 := hz_ BK101; have hfz8_0 := blk_frozen BK101.out 0) | ((with_reducible refine gate_callee (f := 69) rfl ?_); refine gl_ (some 12) rfl rfl Try.func69 #[.agg #[.slice A0_0 l0_0.length c0_0], .int .i64 a1, .int .i64 a2] rfl ?_; (with_reducible refine (impl_ballCode.calls k _ _ l0_0 a1 a2 t102 _ ?side1 ?side2 A4.out).mono ?_); (case side1 => exact c2_ HR0_0 HB); (case side2 => exact HC0_0.out); rintro e w9 ⟨rfl, hb⟩; refine ⟨_, rfl, ?_⟩; replace BK101 := a2_ BK101 hb; replace HB := b1_ HB hb; (try clear hb); (try clear hb2); (try clear hk); (try clear hi); have hcz10_0 := hz_ BK101; have hfz10_0 := blk_frozen BK101.out 0) | ((with_reducible refine gate_callee (f := 70) rfl ?_); refine gl_ (some 19) rfl rfl Try.func70 #[.agg #[.slice A0_0 l0_0.length c0_0], .int .i64 a1, .int .i64 a2] rfl ?_; (with_reducible refine (impl_ball.calls _ _ l0_0 a1 a2 t103 _ ?side1 ?side2 A6.out).mono ?_); (case side1 => exact c2_ HR0_0 HB); (case side2 => exact HC0_0.out); rintro e w11 ⟨v104, rfl, ho0, hb⟩; refine ⟨_, rfl, ?_⟩; have HO105 := Aside0.mk (Kd.R_lower ho0 (below_size (gb_ HB.out))); replace BK101 := a2_ BK101 hb; replace HB := b1_ HB hb; (try clear hb); (try clear hb2); (try clear hk); (try clear hi); (try clear ho0)))
 go_ret2
 exact ⟨_, t5_, rb_ HO105.out, gb_ HB.out⟩
def impl_BallSize.f (k : Nat) (l0_0 : List Int) (a1 : Int) : Option (Int × Int) := (impl_ballCode.f k l0_0 0 a1).bind fun t102 => (if t102 = 0 then ((impl_ball.f l0_0 0 a1).bind fun t103 => (some ((t103.length : Int), 0))) else (some (0, t102)))
set_option maxHeartbeats 8000000 in
set_option maxRecDepth 100000 in
theorem impl_BallSize.calls (k : Nat) (A0_0 : Option Addr) (c0_0 : Nat) (l0_0 : List Int) (a1 : Int) (r1 : Int) (r2 : Int) (w : World) (hr0_0 : Kd.C (Kd.int .i64) w A0_0 l0_0.length l0_0) (hc0_0 : l0_0.length ≤ c0_0) (h : impl_BallSize.f k l0_0 a1 = some (r1, r2)) :
  Calls Try.prog 27 #[.agg #[.slice A0_0 l0_0.length c0_0], .int .i64 a1] w fun e w' => e = .returned (.tuple #[.int .i64 r1, .int .i64 r2]) ∧ Below w.heap.size w w' := by
 have hu26 := Try.underlying26
 have HR0_0 := Aside0.mk hr0_0
 have HC0_0 := Aside0.mk hc0_0
 clear hr0_0 hc0_0
 have HB := Aside0.mk (Below.refl w.heap.size w)
 have H : ((impl_ballCode.f k l0_0 0 a1).bind fun t102 => (if t102 = 0 then ((impl_ball.f l0_0 0 a1).bind fun t103 => (some ((t103.length : Int), 0))) else (some (0, t102)))) = some (r1, r2) := h
 clear h
 replace H := Option.bind_eq_some_iff.mp H
 obtain ⟨t102, A30, H⟩ := H
 replace H : (if t102 = 0 then ((impl_ball.f l0_0 0 a1).bind fun t103 => (some ((t103.length : Int), 0))) else (some (0, t102))) = some (r1, r2) := H
 have A3 := Aside0.mk A30
 clear A30
 by_cases c4 : t102 = 0
 rotate_left
 ·rw [if_neg c4] at H
  have c4b0 : (t102 == 0) = false := beq_eq_false_iff_ne.mpr c4
  have c4b1 : (t102 != 0) = true := bne_iff_ne.mpr c4
  simp only [Option.some.injEq, Prod.mk.injEq] at H
  obtain ⟨rfl, rfl⟩ := H
  go_enter Try.func27, Try.ntmps27
  go_wp2_with (first | ((with_reducible refine gate_dst (N := 2) rfl ?_); refine bx_ (N := 2) (cs := #[.slice A0_0 l0_0.length c0_0]) (t := 26) rfl rfl ?_; intro gb101 hg w12 hbox hb; have n0_ := b1_ HB hb; have n1_ := Aside0.mk (hbox); have n2_ := ge_ hg HB; have n3_ := ge_ hg HB; clear HB; have HB := n0_; have BK101 := n1_; have GW101 := n2_; have GE101 := n3_; clear n0_ n1_ n2_ n3_ hb hbox hg; have hcz13_0 := hz_ BK101; have hfz13_0 := blk_frozen BK101.out 0) | ((with_reducible refine gate_callee (f := 69) rfl ?_); refine gl_ (some 9) rfl rfl Try.func69 #[.agg #[.slice A0_0 l0_0.length c0_0], .int .i64 0, .int .i64 a1] rfl ?_; (with_reducible refine (impl_ballCode.calls k _ _ l0_0 0 a1 t102 _ ?side1 ?side2 A3.out).mono ?_); (case side1 => exact c2_ HR0_0 HB); (case side2 => exact HC0_0.out); rintro e w14 ⟨rfl, hb⟩; refine ⟨_, rfl, ?_⟩; replace BK101 := a2_ BK101 hb; replace HB := b1_ HB hb; (try clear hb); (try clear hb2); (try clear hk); (try clear hi)))
  go_ret2
  exact ⟨t5_, gb_ HB.out⟩

 rw [if_pos c4] at H
 have c4b0 : (t102 == 0) = true := beq_iff_eq.mpr c4
 have c4b1 : (t102 != 0) = false := bne_eq_false_iff_eq.mpr c4
 clear c4
 replace H := Option.bind_eq_some_iff.mp H
 obtain ⟨t103, A50, H⟩ := H
 replace H : (some ((t103.length : Int), 0)) = some (r1, r2) := H
 have A5 := Aside0.mk A50
 clear A50
 simp only [Option.some.injEq, Prod.mk.injEq] at H
 obtain ⟨rfl, rfl⟩ := H
 go_enter Try.func27, Try.ntmps27
 go_wp2_with (first | ((with_reducible refine gate_dst (N := 2) rfl ?_); refine bx_ (N := 2) (cs := #[.slice A0_0 l0_0.length c0_0]) (t := 26) rfl rfl ?_; intro gb101 hg w6 hbox hb; have n0_ := b1_ HB hb; have n1_ := Aside0.mk (hbox); have n2_ := ge_ hg HB; have n3_ := ge_ hg HB; clear HB; have HB := n0_; have BK101 := n1_; have GW101 := n2_; have GE101 := n3_; clear n0_ n1_ n2_ n3_ hb hbox hg; have hcz7_0 := hz_ BK101; have hfz7_0 := blk_frozen BK101.out 0) | ((with_reducible refine gate_callee (f := 69) rfl ?_); refine gl_ (some 9) rfl rfl Try.func69 #[.agg #[.slice A0_0 l0_0.length c0_0], .int .i64 0, .int .i64 a1] rfl ?_; (with_reducible refine (impl_ballCode.calls k _ _ l0_0 0 a1 t102 _ ?side1 ?side2 A3.out).mono ?_); (case side1 => exact c2_ HR0_0 HB); (case side2 => exact HC0_0.out); rintro e w8 ⟨rfl, hb⟩; refine ⟨_, rfl, ?_⟩; replace BK101 := a2_ BK101 hb; replace HB := b1_ HB hb; (try clear hb); (try clear hb2); (try clear hk); (try clear hi); have hcz9_0 := hz_ BK101; have hfz9_0 := blk_frozen BK101.out 0) | ((with_reducible refine gate_callee (f := 70) rfl ?_); refine gl_ (some 15) rfl rfl Try.func70 #[.agg #[.slice A0_0 l0_0.length c0_0], .int .i64 0, .int .i64 a1] rfl ?_; (with_reducible refine (impl_ball.calls _ _ l0_0 0 a1 t103 _ ?side1 ?side2 A5.out).mono ?_); (case side1 => exact c2_ HR0_0 HB); (case side2 => exact HC0_0.out); rintro e w10 ⟨v104, rfl, ho0, hb⟩; refine ⟨_, rfl, ?_⟩; have HO105 := Aside0.mk (Kd.R_lower ho0 (below_size (gb_ HB.out))); replace BK101 := a2_ BK101 hb; replace HB := b1_ HB hb; (try clear hb); (try clear hb2); (try clear hk); (try clear hi); (try clear ho0); obtain ⟨Ao11, co11, eo11⟩ := Kd.R_slice HO105.out; subst eo11))
 go_ret2
 exact ⟨t5_, gb_ HB.out⟩
end Go.Proofs.Ytlfipjdjmpdblaa.P
set_option linter.unusedVariables false
set_option linter.unusedSimpArgs false
namespace Go.Proofs.Ytlfipjdjmpdblaa.P
open Go.RowKit Go.Proofs.YtlfipjdjmpdblaaW.PrintWords Go.Proofs.YtlfipjdjmpdblaaW.PrintLast Go.Proofs.YtlfipjdjmpdblaaW.PrintMore CC
def rChange (s : List Int) (x i d : Int) : Int × Int :=
  if Q.rWords s [x] = 0 then if 0 ≤ i ∧ i < s.length ∧ 0 ≤ d ∧ d < rd s i then (hor 0 s ((dig8 s x).set i.toNat d), 0) else (0, 2) else (0, Q.rWords s [x])
def impl_ChangeDigit.f (l0_0 : List Int) (a1 a2 a3 : Int) : Option (Int × Int) := some (rChange l0_0 a1 a2 a3)
theorem isW_sm4 {s : List Int} (hs : isSp s = true) {x : Int} (h : isW s x = true) : 0 ≤ x ∧ x ≤ 1024 := by
  have h1 := (isW_iff s x).1 h
  have h2 := isSp_prd hs
  omega
theorem one_reads2 {w : World} {g : Nat} {t : TypeId} {x : Int} (h : w.heap[g]? = some (.cells #[.int .i64 x] t (0, 0))) : Kd.C (Kd.int .i64) w (some ⟨g, 0, none⟩) 1 [x] :=
  Kd.C_of_reads (d := (0 : Int)) (h1 := fun _ => rfl) ⟨rfl, by omega, fun _ => ⟨_, rfl, fun j hj => by
    obtain rfl : j = 0 := by omega
    rw [add_plain, blk_cell h]
    rfl⟩⟩
theorem isPlace_eq (s : List Int) (hl : s.length ≤ 8) (i : Int) : impl_isPlace.f s i = some (decide (0 ≤ i ∧ i < s.length)) := by
  unfold impl_isPlace.f impl_places.f
  by_cases h : i ≥ 0
  · rw [if_pos h]
    simp
    omega
  · rw [if_neg h]
    simp
    omega
theorem set_inR {s d : List Int} (h : inR s d = true) {n : Nat} (hn : n < s.length) {x : Int} (h0 : 0 ≤ x) (h1 : x < rd s (n : Int)) : inR s (d.set n x) = true := by
  refine inR_of _ _ fun k hk hk2 => ?_
  have hk3 : k < d.length := by simpa using hk2
  have old := inR_rd s d k h hk hk3
  by_cases e : k = n
  · subst e
    have : rd (d.set k x) (k : Int) = x := by simp [rd, List.getD_eq_getElem?_getD, hk3]
    rw [this]
    exact ⟨h0, h1⟩
  · have : rd (d.set n x) (k : Int) = rd d (k : Int) := by
      simp only [rd, Int.toNat_natCast, List.getD_eq_getElem?_getD]
      rw [List.getElem?_set_ne (fun z => e z.symm)]
    rw [this]
    exact old
set_option maxHeartbeats 8000000 in
set_option maxRecDepth 100000 in
theorem ChangeDigit_calls (A : Option Addr) (c : Nat) (s : List Int) (x i d : Int) (w : World) (hr : Kd.C (Kd.int .i64) w A s.length s) (hc : s.length ≤ c) :
    Calls Try.prog 31 #[.agg #[.slice A s.length c], .int .i64 x, .int .i64 i, .int .i64 d] w
      fun e w' => e = .returned (.tuple #[.int .i64 (rChange s x i d).1, .int .i64 (rChange s x i d).2]) ∧ Below w.heap.size w w' := by
  have huS := Try.underlying26
  have huD := Try.underlying54
  have HR := Aside0.mk hr
  clear hr
  obtain ⟨kc, hk⟩ := (Q.wordCode_ev s (c := [x]) (by simp)).rounds
  have HK := Aside0.mk hk
  clear hk
  have HX : Aside0 (rChange s x i d = if Q.rWords s [x] = 0 then if 0 ≤ i ∧ i < s.length ∧ 0 ≤ d ∧ d < rd s i then (hor 0 s ((dig8 s x).set i.toNat d), 0) else (0, 2) else (0, Q.rWords s [x])) := ⟨rfl⟩
  generalize rChange s x i d = R at *
  go_enter Try.func31, Try.ntmps31
  go_wp2_with fail
  have hB : Below w.heap.size w ((w.alloc (.cells #[.slice A s.length c] 26)).alloc (.cells #[.int .i64 x] 2)) := ((Below.refl _ _).alloc (Nat.le_refl _) _).alloc (by simp) _
  have hcell : ((w.alloc (.cells #[.slice A s.length c] 26)).alloc (.cells #[.int .i64 x] 2)).heap[w.heap.size]? = some (.cells #[.slice A s.length c] 26 (0, 0)) := blk_alloc (blk_new _ _) _
  have hone : ((w.alloc (.cells #[.slice A s.length c] 26)).alloc (.cells #[.int .i64 x] 2)).heap[w.heap.size + 1]? = some (.cells #[.int .i64 x] 2 (0, 0)) := by simpa using blk_new (w.alloc (.cells #[.slice A s.length c] 26)) (.cells #[.int .i64 x] 2)
  refine (impl_wordCode.calls kc A c s _ 1 [x] (Q.rWords s [x]) _ (Kd.C_below HR.out hB) hc (one_reads2 hone) (by simp) HK.out).mono ?_
  rintro e w1 ⟨rfl, hb⟩
  have K1 := Aside0.mk (blk_below hcell hb)
  have B1 := Aside0.mk (below_then hB hB.size hb)
  clear hB hcell hone hb
  by_cases h0 : Q.rWords s [x] = 0
  · obtain ⟨hs, hw⟩ := Q.rWords_zero h0
    have hw := hw x (by simp)
    obtain ⟨x0, x1⟩ := isW_sm4 hs hw
    have I1 := Aside0.mk (dig8_inR hs x)
    have HS := Aside0.mk hs
    have hl := isSp_len hs
    have HX2 : Aside0 (R = if 0 ≤ i ∧ i < s.length ∧ 0 ≤ d ∧ d < rd s i then (hor 0 s ((dig8 s x).set i.toNat d), 0) else (0, 2)) := ⟨by rw [HX.out, if_pos h0]⟩
    have HP := Aside0.mk (isPlace_eq s hl i)
    have t1 : (Q.rWords s [x] != 0) = false := by rw [h0]; rfl
    clear HX h0 hs hw
    have hcz : w1.cell? ⟨w.heap.size, 0, none⟩ = some (.slice A s.length c) := blk_cell K1.out 0
    by_cases hp : 0 ≤ i ∧ i < s.length
    · rw [decide_eq_true hp] at HP
      obtain ⟨n, rfl⟩ : ∃ n : Nat, i = (n : Int) := ⟨i.toNat, by omega⟩
      have hn : n < s.length := by omega
      clear hp
      obtain ⟨ad, e, _⟩ := Kd.at_int HR.out (n : Int) (by omega) (by omega)
      subst e
      obtain ⟨q0, q1⟩ := size_rd (isSp_all HS.out) hn
      have hx := rd_cell HR.out B1.out n hn
      go_wp2_with fail
      refine (impl_isPlace.calls _ c s (n : Int) true _ (Kd.C_below HR.out B1.out) hc HP.out).mono ?_
      rintro e w2 ⟨rfl, hb⟩
      have K2 := Aside0.mk (blk_below K1.out hb)
      have B2 := Aside0.mk (below_then B1.out B1.out.size hb)
      have hcz2 : w2.cell? ⟨w.heap.size, 0, none⟩ = some (.slice (some ad) s.length c) := blk_cell K2.out 0
      have hx2 := rd_cell HR.out B2.out n hn
      clear K1 B1 hb hcz hx
      by_cases hd0 : d < 0
      · have HE : Aside0 (R = (0, 2)) := ⟨by rw [HX2.out, if_neg (by rintro ⟨_, _, h1, h2⟩; omega)]⟩
        have t2 : decide (d < 0) = true := decide_eq_true hd0
        clear hd0 HX2
        go_wp2
        go_ret2
        refine ⟨?_, B2.out⟩
        rw [HE.out]
        rfl
      have t2 : decide (d < 0) = false := decide_eq_false hd0
      by_cases hd1 : d < rd s (n : Int)
      · have HE : Aside0 (R = (hor 0 s ((dig8 s x).set n d), 0)) := ⟨by rw [HX2.out, if_pos (by omega), Int.toNat_natCast]⟩
        have I2 := Aside0.mk (set_inR I1.out hn (x := d) (by omega) hd1)
        have t3 : decide (rd s (n : Int) ≤ d) = false := decide_eq_false (by omega)
        have d0 : 0 ≤ d := by omega
        have d1 : d ≤ 3 := by omega
        clear hd0 hd1 HX2 hw
        generalize rd s (n : Int) = q at *
        go_wp2_with fail
        refine (digitsOf_calls (some ad) c s x _ (Kd.C_below HR.out B2.out) hc HS.out x0 x1).mono ?_
        rintro e w3 ⟨rfl, hb⟩
        have K3 := Aside0.mk (blk_below K2.out hb)
        have B3 := Aside0.mk (below_then B2.out B2.out.size hb)
        clear K2 B2 hb hcz2 hx2
        have hd8 : dloop s s.length x (List.replicate 8 0) = dig8 s x := rfl
        rw [hd8]
        clear hd8
        have E8 := Aside0.mk (dig8_length s x)
        generalize dig8 s x = e8 at *
        obtain ⟨y0, y1, y2, y3, y4, y5, y6, y7, hd⟩ := eight E8.out
        have ea : arr8 e8 = .agg #[.int .u8 y0, .int .u8 y1, .int .u8 y2, .int .u8 y3, .int .u8 y4, .int .u8 y5, .int .u8 y6, .int .u8 y7] := by rw [hd]; rfl
        have hna : (nums .u8 e8).toArray = #[.int .u8 y0, .int .u8 y1, .int .u8 y2, .int .u8 y3, .int .u8 y4, .int .u8 y5, .int .u8 y6, .int .u8 y7] := by rw [hd]; rfl
        have HN : Aside0 ((nums .u8 e8).toArray = #[.int .u8 y0, .int .u8 y1, .int .u8 y2, .int .u8 y3, .int .u8 y4, .int .u8 y5, .int .u8 y6, .int .u8 y7]) := ⟨hna⟩
        rw [ea]
        clear ea hd hna
        have bD : (w3.alloc (.cells #[.int .u8 y0, .int .u8 y1, .int .u8 y2, .int .u8 y3, .int .u8 y4, .int .u8 y5, .int .u8 y6, .int .u8 y7] 54)).heap[w3.heap.size]? = some (.cells (nums .u8 e8).toArray 54 (0, 0)) := by
          rw [HN.out]
          exact blk_new w3 _
        have hce := cell8 bD (i := n) (by have := E8.out; omega)
        have hfe := blk_frozen bD n
        have hset : ([.int .u8 y0, .int .u8 y1, .int .u8 y2, .int .u8 y3, .int .u8 y4, .int .u8 y5, .int .u8 y6, .int .u8 y7].set n (.int .u8 d)).toArray = (nums .u8 (e8.set n d)).toArray := by
          have h1 : (nums .u8 e8) = [.int .u8 y0, .int .u8 y1, .int .u8 y2, .int .u8 y3, .int .u8 y4, .int .u8 y5, .int .u8 y6, .int .u8 y7] := by simpa using HN.out
          rw [← h1]
          simp [nums, List.map_set]
        have bS := Aside0.mk (blk_new w3 (.cells ([.int .u8 y0, .int .u8 y1, .int .u8 y2, .int .u8 y3, .int .u8 y4, .int .u8 y5, .int .u8 y6, .int .u8 y7].set n (.int .u8 d)).toArray 54))
        rw [hset] at bS
        have HSET := Aside0.mk hset
        have bK := Aside0.mk (blk_alloc K3.out (.cells ([.int .u8 y0, .int .u8 y1, .int .u8 y2, .int .u8 y3, .int .u8 y4, .int .u8 y5, .int .u8 y6, .int .u8 y7].set n (.int .u8 d)).toArray 54))
        have bB := Aside0.mk (below_alloc B3.out (.cells ([.int .u8 y0, .int .u8 y1, .int .u8 y2, .int .u8 y3, .int .u8 y4, .int .u8 y5, .int .u8 y6, .int .u8 y7].set n (.int .u8 d)).toArray 54))
        clear hset
        have E9 := Aside0.mk (show (e8.set n d).length = 8 by have := E8.out; simpa using this)
        have hn8 : n < 8 := by omega
        clear bD HN K3 B3
        have hkz : (w3.alloc (.cells ([.int .u8 y0, .int .u8 y1, .int .u8 y2, .int .u8 y3, .int .u8 y4, .int .u8 y5, .int .u8 y6, .int .u8 y7].set n (.int .u8 d)).toArray 54)).cell? ⟨w.heap.size, 0, none⟩ = some (.slice (some ad) s.length c) := blk_cell bK.out 0
        obtain ⟨z0, z1, z2, z3, z4, z5, z6, z7, hz⟩ := eight E9.out
        have hzz : (w3.alloc (.cells ([.int .u8 y0, .int .u8 y1, .int .u8 y2, .int .u8 y3, .int .u8 y4, .int .u8 y5, .int .u8 y6, .int .u8 y7].set n (.int .u8 d)).toArray 54)).heap[w3.heap.size]? = some (.cells (nums .u8 [z0, z1, z2, z3, z4, z5, z6, z7]).toArray 54 (0, 0)) := by rw [← hz, HSET.out]; exact bS.out
        have kz0 : (w3.alloc (.cells ([.int .u8 y0, .int .u8 y1, .int .u8 y2, .int .u8 y3, .int .u8 y4, .int .u8 y5, .int .u8 y6, .int .u8 y7].set n (.int .u8 d)).toArray 54)).cell? ⟨w3.heap.size, 0, none⟩ = some (.int .u8 z0) := blk_cell hzz 0
        have kz1 : (w3.alloc (.cells ([.int .u8 y0, .int .u8 y1, .int .u8 y2, .int .u8 y3, .int .u8 y4, .int .u8 y5, .int .u8 y6, .int .u8 y7].set n (.int .u8 d)).toArray 54)).cell? ⟨w3.heap.size, 1, none⟩ = some (.int .u8 z1) := blk_cell hzz 1
        have kz2 : (w3.alloc (.cells ([.int .u8 y0, .int .u8 y1, .int .u8 y2, .int .u8 y3, .int .u8 y4, .int .u8 y5, .int .u8 y6, .int .u8 y7].set n (.int .u8 d)).toArray 54)).cell? ⟨w3.heap.size, 2, none⟩ = some (.int .u8 z2) := blk_cell hzz 2
        have kz3 : (w3.alloc (.cells ([.int .u8 y0, .int .u8 y1, .int .u8 y2, .int .u8 y3, .int .u8 y4, .int .u8 y5, .int .u8 y6, .int .u8 y7].set n (.int .u8 d)).toArray 54)).cell? ⟨w3.heap.size, 3, none⟩ = some (.int .u8 z3) := blk_cell hzz 3
        have kz4 : (w3.alloc (.cells ([.int .u8 y0, .int .u8 y1, .int .u8 y2, .int .u8 y3, .int .u8 y4, .int .u8 y5, .int .u8 y6, .int .u8 y7].set n (.int .u8 d)).toArray 54)).cell? ⟨w3.heap.size, 4, none⟩ = some (.int .u8 z4) := blk_cell hzz 4
        have kz5 : (w3.alloc (.cells ([.int .u8 y0, .int .u8 y1, .int .u8 y2, .int .u8 y3, .int .u8 y4, .int .u8 y5, .int .u8 y6, .int .u8 y7].set n (.int .u8 d)).toArray 54)).cell? ⟨w3.heap.size, 5, none⟩ = some (.int .u8 z5) := blk_cell hzz 5
        have kz6 : (w3.alloc (.cells ([.int .u8 y0, .int .u8 y1, .int .u8 y2, .int .u8 y3, .int .u8 y4, .int .u8 y5, .int .u8 y6, .int .u8 y7].set n (.int .u8 d)).toArray 54)).cell? ⟨w3.heap.size, 6, none⟩ = some (.int .u8 z6) := blk_cell hzz 6
        have kz7 : (w3.alloc (.cells ([.int .u8 y0, .int .u8 y1, .int .u8 y2, .int .u8 y3, .int .u8 y4, .int .u8 y5, .int .u8 y6, .int .u8 y7].set n (.int .u8 d)).toArray 54)).cell? ⟨w3.heap.size, 7, none⟩ = some (.int .u8 z7) := blk_cell hzz 7
        have HZ := Aside0.mk hz
        clear hz hzz bS bK
        go_wp2_with fail
        have ea : arr8 (e8.set n d) = .agg #[.int .u8 z0, .int .u8 z1, .int .u8 z2, .int .u8 z3, .int .u8 z4, .int .u8 z5, .int .u8 z6, .int .u8 z7] := by rw [HZ.out]; rfl
        rw [← ea]
        clear ea
        refine (wordOf_calls (some ad) c s (e8.set n d) _ (Kd.C_below HR.out bB.out) hc HS.out E9.out I2.out).mono ?_
        rintro e w4 ⟨rfl, hb⟩
        have B4 := Aside0.mk (below_then bB.out bB.out.size hb)
        clear bB hb
        go_wp2
        go_ret2
        refine ⟨?_, B4.out⟩
        rw [HE.out]
        rfl
      · have HE : Aside0 (R = (0, 2)) := ⟨by rw [HX2.out, if_neg (by rintro ⟨_, _, h1, h2⟩; omega)]⟩
        have t3 : decide (rd s (n : Int) ≤ d) = true := decide_eq_true (by omega)
        clear hd0 hd1 HX2
        generalize rd s (n : Int) = q at *
        go_wp2
        go_ret2
        refine ⟨?_, B2.out⟩
        rw [HE.out]
        rfl
    · rw [decide_eq_false hp] at HP
      have HE : Aside0 (R = (0, 2)) := ⟨by rw [HX2.out, if_neg (by rintro ⟨h1, h2, _⟩; exact hp ⟨h1, h2⟩)]⟩
      clear hp HX2
      go_wp2_with fail
      refine (impl_isPlace.calls A c s i false _ (Kd.C_below HR.out B1.out) hc HP.out).mono ?_
      rintro e w2 ⟨rfl, hb⟩
      have B2 := Aside0.mk (below_then B1.out B1.out.size hb)
      clear B1 hb hcz
      go_wp2
      go_ret2
      refine ⟨?_, B2.out⟩
      rw [HE.out]
      rfl
  · have HE : Aside0 (R = (0, Q.rWords s [x])) := ⟨by rw [HX.out, if_neg h0]⟩
    have t1 : (Q.rWords s [x] != 0) = true := bne_iff_ne.mpr h0
    clear HX h0
    go_wp2
    go_ret2
    refine ⟨?_, B1.out⟩
    rw [HE.out]
    rfl
theorem impl_ChangeDigit.calls (A0_0 : Option Addr) (c0_0 : Nat) (l0_0 : List Int) (a1 : Int) (a2 : Int) (a3 : Int) (r1 : Int) (r2 : Int) (w : World) (hr0_0 : Kd.C (Kd.int .i64) w A0_0 l0_0.length l0_0) (hc0_0 : l0_0.length ≤ c0_0) (h : impl_ChangeDigit.f l0_0 a1 a2 a3 = some (r1, r2)) :
    Calls Try.prog 31 #[.agg #[.slice A0_0 l0_0.length c0_0], .int .i64 a1, .int .i64 a2, .int .i64 a3] w fun e w' => e = .returned (.tuple #[.int .i64 r1, .int .i64 r2]) ∧ Below w.heap.size w w' := by
  unfold impl_ChangeDigit.f at h
  have e := Option.some.inj h
  have := ChangeDigit_calls A0_0 c0_0 l0_0 a1 a2 a3 w hr0_0 hc0_0
  rw [e] at this
  exact this
end Go.Proofs.Ytlfipjdjmpdblaa.P
set_option linter.unusedVariables false
set_option linter.unusedSimpArgs false
namespace Go.Proofs.Ytlfipjdjmpdblaa.Q
open Go.RowKit Go.Proofs.Ytlfipjdjmpdblaa.P Go.Proofs.YtlfipjdjmpdblaaW.PrintWords CC
theorem l01Digits_l {s : List Int} (hs : s.all sizeOk = true) (hl : s.length ≤ 8) : ∀ (n : Nat) (u : Int) (ar : List Int), n ≤ s.length → ar.length = s.length → 0 ≤ u → u ≤ 1024 →
    Ev (fun k => spec_l01Digits.l0 k u ar ((n : Int) - 1) s) (dloop s n u ar)
  | 0, u, ar, _, _, _, _ => by
    refine Ev.step (f := fun k => some ar) (fun k => ?_) (Ev.now _)
    simp only [spec_l01Digits.l0]
    rw [if_neg (by omega)]
  | n + 1, u, ar, hn, ha, u0, u1 => by
    have hq := all_rd hs (show n < s.length by omega)
    obtain ⟨b0, b1, b2, b3⟩ := div_bounds u0 u1 hq
    have e : ((n + 1 : Nat) : Int) - 1 = (n : Int) := by omega
    rw [e]
    refine Ev.step (fun k => by simp only [spec_l01Digits.l0]; exact rfl) ?_
    refine Ev.iff_pos (by omega) (Ev.iff_pos (by omega) (Ev.iff_pos (by omega) (Ev.iff_neg (by omega) (Ev.iff_pos (by omega) ?_))))
    rw [b2, b3, pred_nat n (by omega), Int.toNat_natCast]
    exact l01Digits_l hs hl n _ _ (by omega) (by simpa using ha) b0 b1
theorem l01Digits_ev {s : List Int} (hs : isSp s = true) {w : Int} (hw : isW s w = true) : Ev (fun k => spec_l01Digits.f k s w) (dg s w) := by
  have hl := isSp_len hs
  obtain ⟨w0, w1⟩ := isW_b hs hw
  unfold spec_l01Digits.f
  refine Ev.iff_pos (by omega) (Ev.iff_pos (by omega) ?_)
  have e : wrap64 ((s.length : Int) - 1) = (s.length : Int) - 1 := wrap_id (by omega) (by omega)
  rw [e]
  have := l01Digits_l (isSp_all hs) hl s.length w (List.replicate ((s.length : Int)).toNat 0) (Nat.le_refl _) (by simp) w0 w1
  rw [dloop_eq s s.length w _ (Nat.le_refl _) (by simp)] at this
  simpa [dg] using this
def genL (g : Nat → Int) (n : Nat) : List Int := (List.range n).map g
theorem genL_length (g : Nat → Int) (n : Nat) : (genL g n).length = n := by simp [genL]
theorem genL_succ (g : Nat → Int) (n : Nat) : genL g (n + 1) = genL g n ++ [g n] := by simp [genL, List.range_succ]
theorem genL_rd (g : Nat → Int) {n k : Nat} (h : k < n) : rd (genL g n) (k : Int) = g k := by simp [rd, genL, List.getD_eq_getElem?_getD, h]
theorem genL_set {g : Nat → Int} {n : Nat} {d : List Int} (h : n < d.length) : (genL g n ++ d.drop n).set n (g n) = genL g (n + 1) ++ d.drop (n + 1) := by
  rw [List.set_append_right _ _ (by rw [genL_length]; exact Nat.le_refl _), genL_length, Nat.sub_self, genL_succ, List.append_assoc]
  congr 1
  rw [List.drop_eq_getElem_cons h]
  rfl
theorem genL_old {g : Nat → Int} {n : Nat} {d : List Int} (h : n < d.length) : rd (genL g n ++ d.drop n) (n : Int) = rd d (n : Int) := by
  rw [rd_nat, rd_nat, List.getD_eq_getElem?_getD, List.getElem?_append_right (by rw [genL_length]; exact Nat.le_refl _), genL_length, Nat.sub_self, List.getElem?_drop]
  simp [List.getD_eq_getElem?_getD]
theorem genL_congr {g h : Nat → Int} {n : Nat} (e : ∀ k, k < n → g k = h k) : genL g n = genL h n := by
  unfold genL
  apply List.map_congr_left
  intro k hk
  exact e k (List.mem_range.1 hk)
theorem genL_inR {s : List Int} {g : Nat → Int} (h : ∀ k, k < s.length → 0 ≤ g k ∧ g k < rd s (k : Int)) : inR s (genL g s.length) = true := by
  refine inR_of _ _ fun k h1 h2 => ?_
  rw [genL_rd g h1]
  exact h k h1
def rWordOf (s d : List Int) : Int × Int := if isSp s then if d.length = s.length then if inR s d then (wd s d, 0) else (0, 2) else (0, 2) else (0, 1)
theorem specWordOf_l {s d : List Int} (hs : s.all sizeOk = true) (hl : s.length ≤ 8) (hd : d.length = s.length) : ∀ (m n : Nat), n + m = s.length → inR s d = inR (s.drop n) (d.drop n) →
    Ev (fun k => spec_WordOf.l0 k d (n : Int) s) (if inR s d then (wd s d, 0) else (0, 2))
  | 0, n, hm, hr => by
    rw [drop_all (s := s) (by omega)] at hr
    simp only [inR] at hr
    simp only [hr, if_true]
    refine Ev.step (f := fun k => (spec_l01Word.f k s d).bind fun t => some (t, 0)) (fun k => ?_) (Ev.bind (l01Word_ev hs hl hd hr) (Ev.now _))
    simp only [spec_WordOf.l0]
    rw [if_neg (by omega)]
  | m + 1, n, hm, hr => by
    have hn : n < s.length := by omega
    have hn2 : n < d.length := by omega
    have hq := all_rd hs hn
    rw [drop_cons s hn, drop_cons d hn2] at hr
    simp only [inR] at hr
    by_cases h : 0 ≤ rd d (n : Int) ∧ rd d (n : Int) < rd s (n : Int)
    · refine Ev.step (f := fun k => spec_WordOf.l0 k d ((n + 1 : Nat) : Int) s) (fun k => ?_) (specWordOf_l hs hl hd m (n + 1) (by omega) (by rw [hr]; simp [h.1, h.2]))
      simp only [spec_WordOf.l0]
      rw [if_pos (by omega), if_pos (by omega), if_pos (by omega), wrap_id (x := rd s (n : Int) - 1) (by omega) (by omega), l01In_eq, Option.bind_some, if_pos (by simp; omega), wrap_nat (by unfold maxLen; omega)]
    · have hr2 : inR s d = false := by
        rw [hr]
        by_cases h0 : 0 ≤ rd d (n : Int)
        · have h1 : ¬ rd d (n : Int) < rd s (n : Int) := fun h1 => h ⟨h0, h1⟩
          simp [h1]
        · simp [h0]
      simp only [hr2]
      refine Ev.step (f := fun k => some (0, 2)) (fun k => ?_) (by simpa using Ev.now _)
      simp only [spec_WordOf.l0]
      rw [if_pos (by omega), if_pos (by omega), if_pos (by omega), wrap_id (x := rd s (n : Int) - 1) (by omega) (by omega), l01In_eq, Option.bind_some, if_neg (by simp; omega)]
theorem specWordOf_ev (s d : List Int) : Ev (fun k => spec_WordOf.f k s d) (rWordOf s d) := by
  unfold spec_WordOf.f rWordOf
  refine Ev.bind (l01Is_ev s) ?_
  by_cases h : isSp s = true
  · simp only [h, if_true]
    by_cases hd : d.length = s.length
    · refine Ev.iff_pos (by omega) ?_
      rw [if_pos hd]
      exact specWordOf_l (isSp_all h) (isSp_len h) hd s.length 0 (by omega) (by simp)
    · refine Ev.iff_neg (by omega) ?_
      rw [if_neg hd]
      exact Ev.now _
  · simp only [h, if_false]
    exact Ev.now _
theorem implWordOf_l {s d : List Int} (hs : s.all sizeOk = true) (hl : s.length ≤ 8) (hd : d.length = s.length) : ∀ (m n : Nat) (a : Int), n + m = s.length → 0 ≤ a → a + 1 ≤ 4 ^ n →
    Ev (fun k => impl_WordOf.l0 k a d (d.length : Int) (n : Int) s) (if inR (s.drop n) (d.drop n) then (hor a (s.drop n) (d.drop n), 0) else (0, 2))
  | 0, n, a, hm, h0, h1 => by
    rw [drop_all (s := s) (by omega)]
    simp only [inR, if_true, hor]
    refine Ev.step (f := fun k => some (a, 0)) (fun k => ?_) (Ev.now _)
    simp only [impl_WordOf.l0]
    rw [if_neg (by omega)]
  | m + 1, n, a, hm, h0, h1 => by
    have hn : n < s.length := by omega
    have hn2 : n < d.length := by omega
    have hq := all_rd hs hn
    rw [drop_cons s hn, drop_cons d hn2]
    simp only [inR]
    by_cases h00 : rd d (n : Int) < 0
    · have : ¬ 0 ≤ rd d (n : Int) := by omega
      simp only [this, decide_false, Bool.false_and]
      refine Ev.step (f := fun k => some (0, 2)) (fun k => ?_) (by simpa using Ev.now _)
      simp only [impl_WordOf.l0]
      rw [if_pos (by omega), if_pos (by omega), if_pos (by omega), if_pos h00]
    by_cases h01 : rd d (n : Int) < rd s (n : Int)
    · obtain ⟨e, b0, b1⟩ := hor_step (n := n) (by omega) hq h0 h1 (by omega) h01
      have h02 : 0 ≤ rd d (n : Int) := by omega
      simp only [h01, h02, decide_true, Bool.true_and]
      refine Ev.step (f := fun k => impl_WordOf.l0 k (a * rd s (n : Int) + rd d (n : Int)) d (d.length : Int) ((n + 1 : Nat) : Int) s) (fun k => ?_) ?_
      · simp only [impl_WordOf.l0]
        rw [if_pos (by omega), if_pos (by omega), if_pos (by omega), if_neg h00, if_pos (by omega), if_neg (by omega), e, wrap_nat (by unfold maxLen; omega)]
      · exact implWordOf_l hs hl hd m (n + 1) _ (by omega) b0 b1
    · simp only [h01, decide_false, Bool.and_false, Bool.false_and]
      refine Ev.step (f := fun k => some (0, 2)) (fun k => ?_) (by simpa using Ev.now _)
      simp only [impl_WordOf.l0]
      rw [if_pos (by omega), if_pos (by omega), if_pos (by omega), if_neg h00, if_pos (by omega), if_pos (by omega)]
theorem implWordOf_ev (s d : List Int) (hd : d.length ≤ 1048576) : Ev (fun k => impl_WordOf.f k s d) (rWordOf s d) := by
  unfold impl_WordOf.f rWordOf
  refine Ev.bind (isSpace_ev s) ?_
  by_cases h : isSp s = true
  · simp only [h, if_true]
    by_cases hd : d.length = s.length
    · refine Ev.iff_pos (by omega) ?_
      rw [if_pos hd]
      have := implWordOf_l (isSp_all h) (isSp_len h) hd s.length 0 0 (by omega) (by omega) (by simp)
      simpa [wd] using this
    · refine Ev.iff_neg (by omega) ?_
      rw [if_neg hd]
      exact Ev.now _
  · simp only [h, if_false]
    exact Ev.now _
def selL (p : Int → Bool) (n : Nat) : List Int := ((List.range n).filter fun (i : Nat) => p (i : Int)).map fun (i : Nat) => (i : Int)
theorem selL_succ (p : Int → Bool) (n : Nat) : selL p (n + 1) = selL p n ++ if p (n : Int) then [(n : Int)] else [] := by
  unfold selL
  rw [List.range_succ, List.filter_append, List.map_append]
  congr 1
  by_cases h : p (n : Int) = true <;> simp [h]
theorem selL_len (p : Int → Bool) (n : Nat) : (selL p n).length ≤ n := by
  unfold selL
  have := List.length_filter_le (fun (i : Nat) => p (i : Int)) (List.range n)
  simpa using this
theorem mem_selL {p : Int → Bool} {n : Nat} {x : Int} : x ∈ selL p n ↔ 0 ≤ x ∧ x < n ∧ p x = true := by
  unfold selL
  simp only [List.mem_map, List.mem_filter, List.mem_range]
  constructor
  · rintro ⟨i, ⟨h1, h2⟩, rfl⟩
    exact ⟨by omega, by omega, h2⟩
  · rintro ⟨h1, h2, h3⟩
    obtain ⟨m, rfl⟩ := Int.eq_ofNat_of_zero_le h1
    exact ⟨m, ⟨by omega, h3⟩, rfl⟩
def NW (s : List Int) : Nat := (prd s).toNat
theorem NW_eq {s : List Int} (hs : isSp s = true) : ((NW s : Nat) : Int) = prd s := by
  have := isSp_prd1 hs
  unfold NW
  omega
theorem NW_le {s : List Int} (hs : isSp s = true) : NW s ≤ 1024 := by
  have := isSp_prd hs
  unfold NW
  omega
theorem isW_nat {s : List Int} (hs : isSp s = true) {n : Nat} (h : n < NW s) : isW s (n : Int) = true := by
  rw [isW_iff]
  have := NW_eq hs
  omega
theorem upd8_gen (g : Nat → Int) {n : Nat} (hn : n ≤ 8) : upd8 g n = genL g n ++ List.replicate (8 - n) 0 := by
  apply List.ext_getElem?
  intro k
  by_cases h8 : k < 8
  · by_cases hk : k < n
    · rw [List.getElem?_append_left (by rw [genL_length]; exact hk)]
      simp [upd8, genL, h8, hk]
    · rw [List.getElem?_append_right (by rw [genL_length]; omega), genL_length, List.getElem?_replicate, if_pos (by omega)]
      simp [upd8, h8, hk]
  · rw [List.getElem?_eq_none (by rw [upd8_length]; omega), List.getElem?_eq_none (by simp [genL_length]; omega)]
def sumL (s a b : List Int) : List Int := genL (fun k => (rd a (k : Int) + rd b (k : Int)) % rd s (k : Int)) s.length
def sumW (s : List Int) (u w : Int) : Int := wd s (sumL s (dg s u) (dg s w))
theorem sumL_inR {s : List Int} (hs : s.all sizeOk = true) (a b : List Int) : inR s (sumL s a b) = true := by
  refine genL_inR fun k hk => ?_
  have hq := all_rd hs hk
  exact ⟨Int.emod_nonneg _ (by omega), Int.emod_lt_of_pos _ (by omega)⟩
theorem sumL_length (s a b : List Int) : (sumL s a b).length = s.length := genL_length _ _
theorem rd_dig8 {s : List Int} (hl : s.length ≤ 8) (x : Int) {k : Nat} (hk : k < s.length) : rd (dig8 s x) (k : Int) = rd (dg s x) (k : Int) := by
  rw [dig8_eq hl, rd_nat, rd_nat, List.getD_eq_getElem?_getD, List.getElem?_append_left (by rw [dg_length]; exact hk), List.getD_eq_getElem?_getD]
theorem hor_sum8 {s : List Int} (hs : isSp s = true) (u w : Int) : hor 0 s (sum8 s (dig8 s u) (dig8 s w)) = sumW s u w := by
  unfold sum8 sumW sumL wd
  rw [upd8_gen _ (isSp_len hs), hor_pad (genL_length _ _)]
  congr 1
  apply genL_congr
  intro k hk
  rw [rd_dig8 (isSp_len hs) u hk, rd_dig8 (isSp_len hs) w hk]
theorem sumW_isW {s : List Int} (hs : isSp s = true) (u w : Int) : isW s (sumW s u w) = true :=
  wd_word (isSp_all hs) (sumL_length _ _ _).symm (sumL_inR (isSp_all hs) _ _)
theorem l01Sum_l {s a b : List Int} (hs : s.all sizeOk = true) (hl : s.length ≤ 8) (ha : a.length = s.length) (hb : b.length = s.length) (hr : inR s a = true) (hr2 : inR s b = true) : ∀ (m n : Nat), n + m = s.length →
    Ev (fun k => spec_l01Sum.l0 k (genL (fun k => (rd a (k : Int) + rd b (k : Int)) % rd s (k : Int)) n ++ a.drop n) b (a.length : Int) (n : Int) s) (wd s (sumL s a b))
  | 0, n, hm => by
    obtain rfl : n = s.length := by omega
    refine Ev.step (fun k => by simp only [spec_l01Sum.l0]; exact rfl) (Ev.iff_neg (by omega) ?_)
    rw [List.drop_eq_nil_of_le (by omega), List.append_nil]
    exact Ev.bind (l01Word_ev hs hl (sumL_length s a b) (sumL_inR hs a b)) (Ev.now _)
  | m + 1, n, hm => by
    have hn : n < s.length := by omega
    have hq := all_rd hs hn
    obtain ⟨r0, r1⟩ := inR_rd s a n hr hn (by omega)
    obtain ⟨r2, r3⟩ := inR_rd s b n hr2 hn (by omega)
    refine Ev.step (fun k => by simp only [spec_l01Sum.l0]; exact rfl) ?_
    have hlen : (genL (fun k => (rd a (k : Int) + rd b (k : Int)) % rd s (k : Int)) n ++ a.drop n).length = s.length := by
      simp [genL_length]
      omega
    rw [genL_old (by omega)]
    refine Ev.iff_pos (by omega) (Ev.iff_pos (by omega) (Ev.iff_pos (by omega) (Ev.iff_pos (by omega) (Ev.iff_pos (by omega) (Ev.iff_neg (by omega) ?_)))))
    rw [wrap_id (x := rd a (n : Int) + rd b (n : Int)) (by omega) (by omega), tmod_pos (by omega), wrap_nat (by unfold maxLen; omega), Int.toNat_natCast]
    have := genL_set (g := fun k => (rd a (k : Int) + rd b (k : Int)) % rd s (k : Int)) (n := n) (d := a) (by omega)
    rw [this]
    exact l01Sum_l hs hl ha hb hr hr2 m (n + 1) (by omega)
theorem l01Sum_ev {s : List Int} (hs : isSp s = true) {u w : Int} (hu : isW s u = true) (hw : isW s w = true) : Ev (fun k => spec_l01Sum.f k s u w) (sumW s u w) := by
  unfold spec_l01Sum.f
  refine Ev.bind (l01Digits_ev hs hu) (Ev.bind (l01Digits_ev hs hw) ?_)
  have := l01Sum_l (isSp_all hs) (isSp_len hs) (dg_length s u) (dg_length s w) (inR_dg (isSp_all hs) u) (inR_dg (isSp_all hs) w) s.length 0 (by omega)
  simpa [genL, sumW] using this
theorem sumWords_eq {s : List Int} (hs : isSp s = true) {u w : Int} (hu : isW s u = true) (hw : isW s w = true) : impl_sumWords.f s u w = some (sumW s u w) := by
  unfold impl_sumWords.f
  rw [if_pos ⟨hs, hu, hw⟩, hor_sum8 hs]
def ballL (s : List Int) (w r : Int) : List Int := selL (fun u => decide (dist s w u ≤ r)) (NW s)
theorem ballL_len {s : List Int} (hs : isSp s = true) (w r : Int) : (ballL s w r).length ≤ 1024 := by
  have := selL_len (fun u => decide (dist s w u ≤ r)) (NW s)
  have := NW_le hs
  unfold ballL
  omega
theorem l01Ball_l {s : List Int} (hs : isSp s = true) {w : Int} (hw : isW s w = true) (r : Int) : ∀ (m n : Nat), n + m = NW s →
    Ev (fun k => spec_l01Ball.l0 k w r (selL (fun u => decide (dist s w u ≤ r)) n) (n : Int) s) (ballL s w r)
  | 0, n, hm => by
    have hN := NW_eq hs
    obtain rfl : n = NW s := by omega
    refine Ev.step (fun k => by simp only [spec_l01Ball.l0]; exact rfl) ?_
    refine Ev.bind (l01N_sp hs) ?_
    refine Ev.iff_neg (by omega) ?_
    exact Ev.now _
  | m + 1, n, hm => by
    have hN := NW_eq hs
    have hle := NW_le hs
    have hlen := selL_len (fun u => decide (dist s w u ≤ r)) n
    have ih := l01Ball_l hs hw r m (n + 1) (by omega)
    rw [selL_succ] at ih
    refine Ev.step (fun k => by simp only [spec_l01Ball.l0]; exact rfl) ?_
    refine Ev.bind (l01N_sp hs) ?_
    refine Ev.iff_pos (by omega) ?_
    refine Ev.bind (l01Distance_ev hs (isW_nat hs (show n < NW s by omega)) hw) ?_
    rw [dist_comm, wrap_nat (by unfold maxLen; omega)]
    by_cases h : dist s w (n : Int) ≤ r
    · rw [decide_eq_true h, if_pos rfl] at ih
      exact Ev.iff_pos h (Ev.iff_pos (by omega) ih)
    · rw [decide_eq_false h, if_neg (by simp), List.append_nil] at ih
      exact Ev.iff_neg h ih
theorem l01Ball_ev {s : List Int} (hs : isSp s = true) {w : Int} (hw : isW s w = true) (r : Int) : Ev (fun k => spec_l01Ball.f k s w r) (ballL s w r) := by
  unfold spec_l01Ball.f
  simpa [selL] using l01Ball_l hs hw r (NW s) 0 (by omega)
theorem ball_eq {s : List Int} (hs : isSp s = true) {w : Int} (hw : isW s w = true) (r : Int) : impl_ball.f s w r = some (ballL s w r) := by
  unfold impl_ball.f
  rw [if_pos ⟨hs, hw⟩]
  congr 1
  unfold thoseL ballL selL NW
  congr 1
  apply List.filter_congr
  intro i _
  simp only [ham_dig8 (isSp_len hs)]
def Wc : List Int → Nat → Int
  | [], 0 => 1
  | [], _ + 1 => 0
  | _ :: rs, 0 => Wc rs 0
  | q :: rs, k + 1 => Wc rs (k + 1) + Wc rs k * (q - 1)
theorem Wc_bound : ∀ (rs : List Int) (k : Nat), rs.all sizeOk = true → 0 ≤ Wc rs k ∧ Wc rs k ≤ 4 ^ rs.length
  | [], 0, _ => by simp [Wc]
  | [], k + 1, _ => by simp [Wc]
  | q :: rs, 0, h => by
    simp only [List.all_cons, Bool.and_eq_true] at h
    have := Wc_bound rs 0 h.2
    simp only [Wc, List.length_cons, Int.pow_succ]
    omega
  | q :: rs, k + 1, h => by
    simp only [List.all_cons, Bool.and_eq_true] at h
    have h1 := Wc_bound rs (k + 1) h.2
    have h2 := Wc_bound rs k h.2
    simp only [Wc, List.length_cons, Int.pow_succ]
    rcases (sizeOk_iff q).1 h.1 with rfl | rfl | rfl <;> omega
theorem Wc_far : ∀ (rs : List Int) (k : Nat), rs.length < k → Wc rs k = 0
  | [], 0, h => by simp at h
  | [], k + 1, _ => rfl
  | q :: rs, 0, h => by simp at h
  | q :: rs, k + 1, h => by
    simp only [List.length_cons] at h
    rw [Wc, Wc_far rs (k + 1) (by omega), Wc_far rs k (by omega)]
    omega
def wt (rs : List Int) (u : Int) : Int := ham (dgr rs 0) (dgr rs u)
theorem wt_nil (u : Int) : wt [] u = 0 := rfl
theorem wt_cons (q : Int) (rs : List Int) (u : Int) : wt (q :: rs) u = (if 0 = u % q then 0 else 1) + wt rs (u / q) := by
  simp only [wt, dgr, ham, Int.zero_emod, Int.zero_ediv]
theorem wt_nonneg (rs : List Int) (u : Int) : 0 ≤ wt rs u := ham_nonneg _ _
theorem wt_le (rs : List Int) (u : Int) : wt rs u ≤ rs.length := by
  have := ham_le (dgr rs 0) (dgr rs u)
  rw [dgr_length] at this
  exact this
theorem dist_wt (s : List Int) (u : Int) : dist s 0 u = wt s.reverse u := by
  unfold dist dg wt
  rw [ham_reverse _ _ (by rw [dgr_length, dgr_length])]
def cN (p : Nat → Bool) (n : Nat) : Nat := (List.range n).countP p
theorem cN_succ (p : Nat → Bool) (n : Nat) : cN p (n + 1) = cN p n + if p n then 1 else 0 := by
  unfold cN
  rw [List.range_succ, List.countP_append]
  simp [List.countP_cons]
theorem cN_congr {p r : Nat → Bool} {n : Nat} (h : ∀ i, i < n → p i = r i) : cN p n = cN r n := by
  unfold cN
  apply List.countP_congr
  intro i hi
  rw [h i (List.mem_range.1 hi)]
theorem cN_two (p : Nat → Bool) : ∀ n, cN p (2 * n) = cN (fun v => p (2 * v)) n + cN (fun v => p (2 * v + 1)) n
  | 0 => rfl
  | n + 1 => by
    rw [show 2 * (n + 1) = 2 * n + 1 + 1 by omega, cN_succ, cN_succ, cN_two p n, cN_succ, cN_succ]
    omega
theorem cN_three (p : Nat → Bool) : ∀ n, cN p (3 * n) = cN (fun v => p (3 * v)) n + cN (fun v => p (3 * v + 1)) n + cN (fun v => p (3 * v + 2)) n
  | 0 => rfl
  | n + 1 => by
    rw [show 3 * (n + 1) = 3 * n + 1 + 1 + 1 by omega, cN_succ, cN_succ, cN_succ, cN_three p n, cN_succ, cN_succ, cN_succ]
    omega
theorem cN_four (p : Nat → Bool) : ∀ n, cN p (4 * n) = cN (fun v => p (4 * v)) n + cN (fun v => p (4 * v + 1)) n + cN (fun v => p (4 * v + 2)) n + cN (fun v => p (4 * v + 3)) n
  | 0 => rfl
  | n + 1 => by
    rw [show 4 * (n + 1) = 4 * n + 1 + 1 + 1 + 1 by omega, cN_succ, cN_succ, cN_succ, cN_succ, cN_four p n, cN_succ, cN_succ, cN_succ, cN_succ]
    omega
theorem cN_false (n : Nat) : cN (fun _ => false) n = 0 := by simp [cN]
def cw (rs : List Int) (k : Nat) : Nat := cN (fun u => decide (wt rs (u : Int) = (k : Int))) (prd rs).toNat
theorem dig0 (q : Int) (rs : List Int) (v : Nat) (hq : 0 < q) : wt (q :: rs) (q * v) = wt rs v := by
  rw [wt_cons, Int.mul_emod_right, if_pos rfl, Int.mul_ediv_cancel_left _ (by omega)]
  omega
theorem dig1 (q : Int) (rs : List Int) (v : Nat) (d : Int) (hd : 1 ≤ d) (hq : d < q) : wt (q :: rs) (q * v + d) = 1 + wt rs v := by
  have h1 : (q * (v : Int) + d) % q = d := by
    rw [Int.add_comm, Int.add_mul_emod_self_left]
    exact Int.emod_eq_of_lt (by omega) hq
  have h2 : (q * (v : Int) + d) / q = v := by
    rw [Int.add_comm, Int.add_mul_ediv_left _ _ (by omega), Int.ediv_eq_zero_of_lt (by omega) hq]
    omega
  rw [wt_cons, h1, h2, if_neg (by omega)]
theorem cw_Wc : ∀ (rs : List Int) (k : Nat), rs.all sizeOk = true → (cw rs k : Int) = Wc rs k
  | [], 0, _ => by decide
  | [], k + 1, _ => by
    have : cw [] (k + 1) = 0 := by
      unfold cw
      rw [cN_congr (r := fun _ => false) (fun i _ => decide_eq_false (by rw [wt_nil]; omega)), cN_false]
    rw [this]
    rfl
  | q :: rs, 0, h => by
    simp only [List.all_cons, Bool.and_eq_true] at h
    rw [Wc, ← cw_Wc rs 0 h.2]
    have hp := prd_pos rs h.2
    have e1 : ∀ (v : Nat) (d : Int), 1 ≤ d → d < q → decide (wt (q :: rs) (q * v + d) = ((0 : Nat) : Int)) = false := fun v d h1 h2 => by
      rw [dig1 q rs v d h1 h2]
      have := wt_nonneg rs v
      simp
      omega
    have e0 : ∀ (v : Nat), decide (wt (q :: rs) (q * v) = ((0 : Nat) : Int)) = decide (wt rs v = ((0 : Nat) : Int)) := fun v => by
      rw [dig0 q rs v (by have := (sizeOk_iff q).1 h.1; omega)]
    unfold cw
    rcases (sizeOk_iff q).1 h.1 with rfl | rfl | rfl
    · rw [prd, show (2 * prd rs).toNat = 2 * (prd rs).toNat by omega, cN_two]
      rw [cN_congr (p := fun v => decide (wt (2 :: rs) ((2 * v : Nat) : Int) = ((0 : Nat) : Int))) (r := fun u => decide (wt rs (u : Int) = ((0 : Nat) : Int))) (fun i _ => by simpa using e0 i), cN_congr (p := fun v => decide (wt (2 :: rs) ((2 * v + 1 : Nat) : Int) = ((0 : Nat) : Int))) (r := fun _ => false) (fun i _ => by simpa using e1 i 1 (by omega) (by omega)), cN_false]
      omega
    · rw [prd, show (3 * prd rs).toNat = 3 * (prd rs).toNat by omega, cN_three]
      rw [cN_congr (p := fun v => decide (wt (3 :: rs) ((3 * v : Nat) : Int) = ((0 : Nat) : Int))) (r := fun u => decide (wt rs (u : Int) = ((0 : Nat) : Int))) (fun i _ => by simpa using e0 i), cN_congr (p := fun v => decide (wt (3 :: rs) ((3 * v + 1 : Nat) : Int) = ((0 : Nat) : Int))) (r := fun _ => false) (fun i _ => by simpa using e1 i 1 (by omega) (by omega)), cN_congr (p := fun v => decide (wt (3 :: rs) ((3 * v + 2 : Nat) : Int) = ((0 : Nat) : Int))) (r := fun _ => false) (fun i _ => by simpa using e1 i 2 (by omega) (by omega)), cN_false]
      omega
    · rw [prd, show (4 * prd rs).toNat = 4 * (prd rs).toNat by omega, cN_four]
      rw [cN_congr (p := fun v => decide (wt (4 :: rs) ((4 * v : Nat) : Int) = ((0 : Nat) : Int))) (r := fun u => decide (wt rs (u : Int) = ((0 : Nat) : Int))) (fun i _ => by simpa using e0 i), cN_congr (p := fun v => decide (wt (4 :: rs) ((4 * v + 1 : Nat) : Int) = ((0 : Nat) : Int))) (r := fun _ => false) (fun i _ => by simpa using e1 i 1 (by omega) (by omega)), cN_congr (p := fun v => decide (wt (4 :: rs) ((4 * v + 2 : Nat) : Int) = ((0 : Nat) : Int))) (r := fun _ => false) (fun i _ => by simpa using e1 i 2 (by omega) (by omega)), cN_congr (p := fun v => decide (wt (4 :: rs) ((4 * v + 3 : Nat) : Int) = ((0 : Nat) : Int))) (r := fun _ => false) (fun i _ => by simpa using e1 i 3 (by omega) (by omega)), cN_false]
      omega
  | q :: rs, k + 1, h => by
    simp only [List.all_cons, Bool.and_eq_true] at h
    rw [Wc, ← cw_Wc rs (k + 1) h.2, ← cw_Wc rs k h.2]
    have hp := prd_pos rs h.2
    have e1 : ∀ (v : Nat) (d : Int), 1 ≤ d → d < q → decide (wt (q :: rs) (q * v + d) = ((k + 1 : Nat) : Int)) = decide (wt rs v = (k : Int)) := fun v d h1 h2 => by
      rw [dig1 q rs v d h1 h2, decide_eq_decide]
      omega
    have e0 : ∀ (v : Nat), decide (wt (q :: rs) (q * v) = ((k + 1 : Nat) : Int)) = decide (wt rs v = ((k + 1 : Nat) : Int)) := fun v => by
      rw [dig0 q rs v (by have := (sizeOk_iff q).1 h.1; omega)]
    unfold cw
    rcases (sizeOk_iff q).1 h.1 with rfl | rfl | rfl
    · rw [prd, show (2 * prd rs).toNat = 2 * (prd rs).toNat by omega, cN_two]
      rw [cN_congr (p := fun v => decide (wt (2 :: rs) ((2 * v : Nat) : Int) = ((k + 1 : Nat) : Int))) (r := fun u => decide (wt rs (u : Int) = ((k + 1 : Nat) : Int))) (fun i _ => by simpa using e0 i), cN_congr (p := fun v => decide (wt (2 :: rs) ((2 * v + 1 : Nat) : Int) = ((k + 1 : Nat) : Int))) (r := fun u => decide (wt rs (u : Int) = (k : Int))) (fun i _ => by simpa using e1 i 1 (by omega) (by omega))]
      omega
    · rw [prd, show (3 * prd rs).toNat = 3 * (prd rs).toNat by omega, cN_three]
      rw [cN_congr (p := fun v => decide (wt (3 :: rs) ((3 * v : Nat) : Int) = ((k + 1 : Nat) : Int))) (r := fun u => decide (wt rs (u : Int) = ((k + 1 : Nat) : Int))) (fun i _ => by simpa using e0 i), cN_congr (p := fun v => decide (wt (3 :: rs) ((3 * v + 1 : Nat) : Int) = ((k + 1 : Nat) : Int))) (r := fun u => decide (wt rs (u : Int) = (k : Int))) (fun i _ => by simpa using e1 i 1 (by omega) (by omega)), cN_congr (p := fun v => decide (wt (3 :: rs) ((3 * v + 2 : Nat) : Int) = ((k + 1 : Nat) : Int))) (r := fun u => decide (wt rs (u : Int) = (k : Int))) (fun i _ => by simpa using e1 i 2 (by omega) (by omega))]
      omega
    · rw [prd, show (4 * prd rs).toNat = 4 * (prd rs).toNat by omega, cN_four]
      rw [cN_congr (p := fun v => decide (wt (4 :: rs) ((4 * v : Nat) : Int) = ((k + 1 : Nat) : Int))) (r := fun u => decide (wt rs (u : Int) = ((k + 1 : Nat) : Int))) (fun i _ => by simpa using e0 i), cN_congr (p := fun v => decide (wt (4 :: rs) ((4 * v + 1 : Nat) : Int) = ((k + 1 : Nat) : Int))) (r := fun u => decide (wt rs (u : Int) = (k : Int))) (fun i _ => by simpa using e1 i 1 (by omega) (by omega)), cN_congr (p := fun v => decide (wt (4 :: rs) ((4 * v + 2 : Nat) : Int) = ((k + 1 : Nat) : Int))) (r := fun u => decide (wt rs (u : Int) = (k : Int))) (fun i _ => by simpa using e1 i 2 (by omega) (by omega)), cN_congr (p := fun v => decide (wt (4 :: rs) ((4 * v + 3 : Nat) : Int) = ((k + 1 : Nat) : Int))) (r := fun u => decide (wt rs (u : Int) = (k : Int))) (fun i _ => by simpa using e1 i 3 (by omega) (by omega))]
      omega
def cl (rs : List Int) (n : Int) : Nat := cN (fun u => decide (wt rs (u : Int) < n)) (prd rs).toNat
theorem cl_succ (rs : List Int) (n : Nat) : cl rs ((n + 1 : Nat) : Int) = cl rs (n : Int) + cw rs n := by
  unfold cl cw
  generalize (prd rs).toNat = N
  induction N with
  | zero => rfl
  | succ m ih =>
    rw [cN_succ, cN_succ, cN_succ, ih]
    simp only [decide_eq_true_eq]
    by_cases h1 : wt rs (m : Int) < (n : Int)
    · have h2 : ¬ wt rs (m : Int) = (n : Int) := by omega
      have h3 : wt rs (m : Int) < ((n + 1 : Nat) : Int) := by omega
      rw [if_pos h1, if_neg h2, if_pos h3]
      omega
    · by_cases h2 : wt rs (m : Int) = (n : Int)
      · have h3 : wt rs (m : Int) < ((n + 1 : Nat) : Int) := by omega
        rw [if_neg h1, if_pos h2, if_pos h3]
        omega
      · have h3 : ¬ wt rs (m : Int) < ((n + 1 : Nat) : Int) := by omega
        rw [if_neg h1, if_neg h2, if_neg h3]
        omega
theorem ball_cl {s : List Int} (hs : isSp s = true) (r : Int) : (ballL s 0 r).length = cl s.reverse (r + 1) := by
  unfold ballL selL cl cN NW
  rw [List.length_map, prd_reverse, List.countP_eq_length_filter]
  congr 1
  apply List.filter_congr
  intro i _
  show decide (dist s 0 (i : Int) ≤ r) = decide (wt s.reverse (i : Int) < r + 1)
  rw [dist_wt, decide_eq_decide]
  omega
theorem cl_far {rs : List Int} {m r : Int} (hm : (rs.length : Int) < m) (hr : (rs.length : Int) < r) : cl rs m = cl rs r := by
  unfold cl
  apply cN_congr
  intro i _
  have := wt_le rs (i : Int)
  rw [decide_eq_decide]
  omega
theorem cl_zero (rs : List Int) : cl rs 0 = 0 := by
  unfold cl
  rw [cN_congr (r := fun _ => false) (fun i _ => ?_), cN_false]
  have := wt_nonneg rs (i : Int)
  simp
  omega
def fL (f : Nat → Int) (n : Nat) : List Int := (List.range n).map f
theorem fL_length (f : Nat → Int) (n : Nat) : (fL f n).length = n := by simp [fL]
theorem fL_rd (f : Nat → Int) {n k : Nat} (h : k < n) : rd (fL f n) (k : Int) = f k := by
  simp [rd, fL, List.getD_eq_getElem?_getD, h]
theorem fL_set (f : Nat → Int) (n k : Nat) (v : Int) : (fL f n).set k v = fL (fun j => if j = k then v else f j) n := by
  apply List.ext_getElem (by simp [fL])
  intro j h1 h2
  simp only [fL, List.getElem_set, List.getElem_map, List.getElem_range]
  by_cases h : k = j
  · rw [if_pos h, if_pos h.symm]
  · rw [if_neg h, if_neg (fun e => h e.symm)]
theorem fL_congr {f g : Nat → Int} {n : Nat} (h : ∀ j, j < n → f j = g j) : fL f n = fL g n := by
  unfold fL
  apply List.map_congr_left
  intro j hj
  exact h j (List.mem_range.1 hj)
def mid (q : Int) (rs : List Int) (j k : Nat) : Int := if j < k then Wc (q :: rs) k else Wc rs k
theorem all_take {s : List Int} (h : s.all sizeOk = true) (n : Nat) : (s.take n).reverse.all sizeOk = true := by
  rw [List.all_reverse, List.all_eq_true]
  intro x hx
  exact List.all_eq_true.1 h x (List.mem_of_mem_take hx)
theorem Wc_small {s : List Int} (h : s.all sizeOk = true) {n : Nat} (hn : n ≤ 8) (k : Nat) : 0 ≤ Wc (s.take n).reverse k ∧ Wc (s.take n).reverse k ≤ 65536 := by
  have h1 := Wc_bound (s.take n).reverse k (all_take h n)
  have h2 : (s.take n).reverse.length ≤ n := by
    rw [List.length_reverse]
    exact List.length_take_le _ _
  have h3 := pow48 (m := (s.take n).reverse.length) (by omega)
  omega
theorem l01Size_in {s : List Int} (hs : s.all sizeOk = true) (hl : s.length ≤ 8) (r R : Int) {i : Nat} (hi : i < s.length) : ∀ (j : Nat), j ≤ i + 1 →
    Ev (fun k => spec_l01Size.l0 k r (fL (mid (rd s (i : Int)) (s.take i).reverse 0) (s.length + 1)) ((i + 1 : Nat) : Int) s) R →
    Ev (fun k => spec_l01Size.l1 k r (fL (mid (rd s (i : Int)) (s.take i).reverse j) (s.length + 1)) (i : Int) (j : Int) s) R
  | 0, _, hev => by
    refine Ev.step (fun k => by simp only [spec_l01Size.l1]; exact rfl) ?_
    refine Ev.iff_neg (by omega) ?_
    rw [wrap_nat (by unfold maxLen; omega)]
    exact hev
  | j + 1, hj, hev => by
    refine Ev.step (fun k => by simp only [spec_l01Size.l1]; exact rfl) ?_
    have e1 : wrap64 (((j + 1 : Nat) : Int) - 1) = (j : Int) := by
      rw [wrap_id (by omega) (by omega)]
      omega
    have hq := all_rd hs hi
    have w0 := Wc_small hs (n := i) (by omega) j
    have w1 := Wc_small hs (n := i) (by omega) (j + 1)
    rw [e1]
    refine Ev.iff_pos (by omega) ?_
    refine Ev.iff_pos (by omega) ?_
    refine Ev.iff_pos (by rw [fL_length]; omega) ?_
    refine Ev.iff_pos (by omega) ?_
    refine Ev.iff_pos (by rw [fL_length]; omega) ?_
    refine Ev.iff_pos (by omega) ?_
    refine Ev.iff_pos (by omega) ?_
    rw [fL_rd _ (by omega), fL_rd _ (by omega), Int.toNat_natCast, fL_set]
    have e2 : wrap64 (mid (rd s (i : Int)) (s.take i).reverse (j + 1) (j + 1) + wrap64 (mid (rd s (i : Int)) (s.take i).reverse (j + 1) j * wrap64 (rd s (i : Int) - 1))) = Wc (rd s (i : Int) :: (s.take i).reverse) (j + 1) := by
      unfold mid
      rw [if_neg (by omega), if_neg (by omega), Wc, wrap_id (x := rd s (i : Int) - 1) (by omega) (by omega)]
      rcases hq with e | e | e <;> rw [e] <;> rw [wrap_id (x := _ * _) (by omega) (by omega), wrap_id (by omega) (by omega)]
    rw [e2]
    have e3 : fL (fun k => if k = j + 1 then Wc (rd s (i : Int) :: (s.take i).reverse) (j + 1) else mid (rd s (i : Int)) (s.take i).reverse (j + 1) k) (s.length + 1) = fL (mid (rd s (i : Int)) (s.take i).reverse j) (s.length + 1) := by
      apply fL_congr
      intro k _
      unfold mid
      by_cases h : k = j + 1
      · subst h
        rw [if_pos rfl, if_pos (by omega)]
      · rw [if_neg h]
        by_cases h2 : j + 1 < k
        · rw [if_pos h2, if_pos (by omega)]
        · rw [if_neg h2, if_neg (by omega)]
    rw [e3]
    exact l01Size_in hs hl r R hi j (by omega) hev
theorem l01Size_out {s : List Int} (hs : s.all sizeOk = true) (hl : s.length ≤ 8) (r R : Int)
    (hev : Ev (fun k => spec_l01Size.l2 k r (fL (Wc s.reverse) (s.length + 1)) 0 0) R) : ∀ (m i : Nat), i + m = s.length →
    Ev (fun k => spec_l01Size.l0 k r (fL (Wc (s.take i).reverse) (s.length + 1)) (i : Int) s) R
  | 0, i, hm => by
    refine Ev.step (fun k => by simp only [spec_l01Size.l0]; exact rfl) ?_
    refine Ev.iff_neg (by omega) ?_
    rw [List.take_of_length_le (by omega)]
    exact hev
  | m + 1, i, hm => by
    have hi : i < s.length := by omega
    refine Ev.step (fun k => by simp only [spec_l01Size.l0]; exact rfl) ?_
    refine Ev.iff_pos (by omega) ?_
    rw [wrap_nat (by unfold maxLen; omega)]
    have ih := l01Size_out hs hl r R hev m (i + 1) (by omega)
    have e1 : (s.take (i + 1)).reverse = rd s (i : Int) :: (s.take i).reverse := by
      rw [take_rd s (by omega), List.reverse_append]
      rfl
    have hlen : (s.take i).reverse.length = i := by
      rw [List.length_reverse, List.length_take]
      omega
    have e2 : fL (Wc (s.take i).reverse) (s.length + 1) = fL (mid (rd s (i : Int)) (s.take i).reverse (i + 1)) (s.length + 1) := by
      apply fL_congr
      intro k _
      unfold mid
      by_cases h : i + 1 < k
      · rw [if_pos h, Wc_far _ _ (by omega), Wc_far _ _ (by rw [List.length_cons]; omega)]
      · rw [if_neg h]
    have e3 : fL (mid (rd s (i : Int)) (s.take i).reverse 0) (s.length + 1) = fL (Wc (s.take (i + 1)).reverse) (s.length + 1) := by
      apply fL_congr
      intro k _
      unfold mid
      rw [e1]
      by_cases h : 0 < k
      · rw [if_pos h]
      · rw [if_neg h]
        have : k = 0 := by omega
        subst this
        rfl
    rw [e2]
    refine l01Size_in hs hl r R hi (i + 1) (by omega) ?_
    rw [e3]
    exact ih
theorem l01Size_sum {s : List Int} (hs : isSp s = true) {r : Int} (h0 : 0 ≤ r) (h1 : r ≤ 1024) : ∀ (m n : Nat), n + m = s.length + 1 → (n : Int) ≤ r + 1 →
    Ev (fun k => spec_l01Size.l2 k r (fL (Wc s.reverse) (s.length + 1)) (cl s.reverse (n : Int)) (n : Int)) (cl s.reverse (r + 1))
  | 0, n, hm, hn => by
    refine Ev.step (fun k => by simp only [spec_l01Size.l2]; exact rfl) ?_
    refine Ev.iff_neg (by rw [fL_length]; omega) ?_
    rw [cl_far (m := (n : Int)) (r := r + 1) (by rw [List.length_reverse]; omega) (by rw [List.length_reverse]; omega)]
    exact Ev.now _
  | m + 1, n, hm, hn => by
    have hl := isSp_len hs
    refine Ev.step (fun k => by simp only [spec_l01Size.l2]; exact rfl) ?_
    refine Ev.iff_pos (by rw [fL_length]; omega) ?_
    by_cases h : (n : Int) ≤ r
    · refine Ev.iff_pos h ?_
      refine Ev.iff_pos (by omega) ?_
      have hall : s.reverse.all sizeOk = true := by
        rw [List.all_reverse]
        exact isSp_all hs
      have hb := cl_succ s.reverse n
      have hle : cl s.reverse ((n + 1 : Nat) : Int) ≤ (prd s.reverse).toNat := by
        unfold cl cN
        have := List.countP_le_length (p := fun (u : Nat) => decide (wt s.reverse (u : Int) < ((n + 1 : Nat) : Int))) (l := List.range (prd s.reverse).toNat)
        rwa [List.length_range] at this
      rw [prd_reverse] at hle
      have hp := isSp_prd hs
      rw [fL_rd _ (by omega), ← cw_Wc _ _ hall, wrap_nat (by unfold maxLen; omega), wrap_id (by omega) (by omega)]
      have := l01Size_sum hs h0 h1 m (n + 1) (by omega) (by omega)
      have e : ((cl s.reverse (n : Int) : Nat) : Int) + (cw s.reverse n : Nat) = (cl s.reverse ((n + 1 : Nat) : Int) : Nat) := by omega
      rw [e]
      exact this
    · refine Ev.iff_neg h ?_
      have : r + 1 = (n : Int) := by omega
      rw [this]
      exact Ev.now _
theorem l01Size_ev {s : List Int} (hs : isSp s = true) {r : Int} (h0 : 0 ≤ r) (h1 : r ≤ 1024) : Ev (fun k => spec_l01Size.f k s r) ((ballL s 0 r).length : Int) := by
  unfold spec_l01Size.f
  have hl := isSp_len hs
  have e : wrap64 ((s.length : Int) + 1) = ((s.length + 1 : Nat) : Int) := wrap_nat (by unfold maxLen; omega)
  rw [e, Int.toNat_natCast]
  refine Ev.iff_pos (by omega) ?_
  refine Ev.iff_pos (by omega) ?_
  refine Ev.bindc rfl ?_
  refine Ev.iff_pos (by simp) ?_
  rw [ball_cl hs]
  have h2 := l01Size_sum hs h0 h1 (s.length + 1) 0 (by omega) (by omega)
  have e0 : ((cl s.reverse ((0 : Nat) : Int) : Nat) : Int) = 0 := by
    have := cl_zero s.reverse
    simpa using this
  rw [e0] at h2
  have := l01Size_out (isSp_all hs) hl r _ h2 s.length 0 (by omega)
  have e1 : (List.replicate (s.length + 1) (0 : Int)).set (0 : Int).toNat 1 = fL (Wc (s.take 0).reverse) (s.length + 1) := by
    apply List.ext_getElem (by simp [fL])
    intro j h1 h2
    cases j with
    | zero => simp [fL, Wc]
    | succ j => simp [fL, Wc]
  rw [e1]
  exact this
def rBall (s : List Int) (w r : Int) : Int := if rWords s [w] = 0 then if 0 ≤ r ∧ r ≤ 8 then 0 else 2 else rWords s [w]
theorem rBall_zero {s : List Int} {w r : Int} (h : rBall s w r = 0) : isSp s = true ∧ isW s w = true ∧ 0 ≤ r ∧ r ≤ 8 := by
  unfold rBall at h
  split at h
  · rename_i hw
    obtain ⟨h1, h2⟩ := rWords_zero hw
    split at h
    · rename_i hr
      exact ⟨h1, h2 w (by simp), hr⟩
    · cases h
  · rename_i hw
    exact absurd h hw
theorem l01Radius_ev (s : List Int) (w r : Int) : Ev (fun k => spec_l01Radius.f k s w r) (rBall s w r) := by
  unfold spec_l01Radius.f rBall
  refine Ev.bind (l01Words_ev s (c := [w]) (by simp)) ?_
  by_cases h : rWords s [w] = 0
  · simp only [if_pos h]
    refine Ev.bindc (l01In_eq _ _ _) ?_
    by_cases hr : 0 ≤ r ∧ r ≤ 8
    · rw [if_pos hr]
      refine Ev.iff_pos (by simp; omega) ?_
      rw [h]
      exact Ev.now _
    · rw [if_neg hr]
      exact Ev.iff_neg (by simp; omega) (Ev.now _)
  · simp only [if_neg h]
    exact Ev.now _
theorem isRadius_eq (r : Int) : impl_isRadius.f r = some (decide (0 ≤ r ∧ r ≤ 8)) := by
  unfold impl_isRadius.f
  by_cases h : r ≥ 0
  · rw [if_pos h]
    simp
    omega
  · rw [if_neg h]
    simp
    omega
theorem ballCode_ev (s : List Int) (w r : Int) : Ev (fun k => impl_ballCode.f k s w r) (rBall s w r) := by
  unfold impl_ballCode.f rBall
  refine Ev.bind (wordCode_ev s (c := [w]) (by simp)) ?_
  by_cases h : rWords s [w] = 0
  · simp only [if_pos h]
    refine Ev.bindc (isRadius_eq r) ?_
    by_cases hr : 0 ≤ r ∧ r ≤ 8
    · rw [if_pos hr]
      exact Ev.iff_pos (by simp; omega) (Ev.now _)
    · rw [if_neg hr]
      exact Ev.iff_neg (by simp; omega) (Ev.now _)
  · simp only [if_neg h]
    exact Ev.now _
theorem ham_step {q : Int} (rs : List Int) (w : Int) (v : Nat) (d : Int) (h0 : 0 ≤ d) (hd : d < q) : ham (dgr (q :: rs) w) (dgr (q :: rs) (q * v + d)) = (if w % q = d then 0 else 1) + ham (dgr rs (w / q)) (dgr rs v) := by
  have e1 : (q * (v : Int) + d) % q = d := by rw [Int.mul_add_emod_self_left, Int.emod_eq_of_lt h0 hd]
  have e2 : (q * (v : Int) + d) / q = v := by rw [Int.mul_add_ediv_left _ _ (by omega), Int.ediv_eq_zero_of_lt h0 hd, Int.add_zero]
  simp only [dgr, ham, e1, e2]
def tE (rs : List Int) (w : Int) (p : Int → Bool) (e : Int) : Nat := cN (fun v => p (e + ham (dgr rs w) (dgr rs (v : Int)))) (prd rs).toNat
theorem any_cons (q : Int) (rs : List Int) (hq : q = 2 ∨ q = 3 ∨ q = 4) (hn : 0 ≤ prd rs) (w : Int) (p : Int → Bool) (e : Int) : (tE (q :: rs) w p e : Int) = tE rs (w / q) p e + (q - 1) * tE rs (w / q) p (e + 1) := by
  have hs : ∀ (v : Nat) (d : Int), 0 ≤ d → d < q → p (e + ham (dgr (q :: rs) w) (dgr (q :: rs) (q * v + d))) = p ((if w % q = d then e else e + 1) + ham (dgr rs (w / q)) (dgr rs v)) := fun v d h0 h1 => by
    rw [ham_step rs w v d h0 h1]
    congr 1
    split <;> omega
  have hm0 := Int.emod_nonneg w (show q ≠ 0 by omega)
  have hm1 := Int.emod_lt_of_pos w (show 0 < q by omega)
  have hc : ∀ (d : Int) (g : Nat → Bool), 0 ≤ d → d < q → (∀ v : Nat, g v = p (e + ham (dgr (q :: rs) w) (dgr (q :: rs) (q * v + d)))) → cN g (prd rs).toNat = if w % q = d then tE rs (w / q) p e else tE rs (w / q) p (e + 1) := fun d g h0 h1 h2 => by
    rw [cN_congr (r := fun v => p ((if w % q = d then e else e + 1) + ham (dgr rs (w / q)) (dgr rs (v : Int)))) (fun v _ => by rw [h2 v, hs v d h0 h1])]
    unfold tE
    split <;> rfl
  rcases hq with rfl | rfl | rfl
  · have : tE (2 :: rs) w p e = (if w % 2 = 0 then tE rs (w / 2) p e else tE rs (w / 2) p (e + 1)) + (if w % 2 = 1 then tE rs (w / 2) p e else tE rs (w / 2) p (e + 1)) := by
      show cN _ (prd (2 :: rs)).toNat = _
      rw [prd, show (2 * prd rs).toNat = 2 * (prd rs).toNat by omega, cN_two]
      rw [hc 0 _ (by omega) (by omega) (fun v => by simp), hc 1 _ (by omega) (by omega) (fun v => by simp)]
    rw [this]
    rcases (show w % 2 = 0 ∨ w % 2 = 1 by omega) with h | h <;> simp [h] <;> omega
  · have : tE (3 :: rs) w p e = (if w % 3 = 0 then tE rs (w / 3) p e else tE rs (w / 3) p (e + 1)) + (if w % 3 = 1 then tE rs (w / 3) p e else tE rs (w / 3) p (e + 1)) + (if w % 3 = 2 then tE rs (w / 3) p e else tE rs (w / 3) p (e + 1)) := by
      show cN _ (prd (3 :: rs)).toNat = _
      rw [prd, show (3 * prd rs).toNat = 3 * (prd rs).toNat by omega, cN_three]
      rw [hc 0 _ (by omega) (by omega) (fun v => by simp), hc 1 _ (by omega) (by omega) (fun v => by simp), hc 2 _ (by omega) (by omega) (fun v => by simp)]
    rw [this]
    rcases (show w % 3 = 0 ∨ w % 3 = 1 ∨ w % 3 = 2 by omega) with h | h | h <;> simp [h] <;> omega
  · have : tE (4 :: rs) w p e = (if w % 4 = 0 then tE rs (w / 4) p e else tE rs (w / 4) p (e + 1)) + (if w % 4 = 1 then tE rs (w / 4) p e else tE rs (w / 4) p (e + 1)) + (if w % 4 = 2 then tE rs (w / 4) p e else tE rs (w / 4) p (e + 1)) + (if w % 4 = 3 then tE rs (w / 4) p e else tE rs (w / 4) p (e + 1)) := by
      show cN _ (prd (4 :: rs)).toNat = _
      rw [prd, show (4 * prd rs).toNat = 4 * (prd rs).toNat by omega, cN_four]
      rw [hc 0 _ (by omega) (by omega) (fun v => by simp), hc 1 _ (by omega) (by omega) (fun v => by simp), hc 2 _ (by omega) (by omega) (fun v => by simp), hc 3 _ (by omega) (by omega) (fun v => by simp)]
    rw [this]
    rcases (show w % 4 = 0 ∨ w % 4 = 1 ∨ w % 4 = 2 ∨ w % 4 = 3 by omega) with h | h | h | h <;> simp [h] <;> omega
theorem any_word : ∀ (rs : List Int), rs.all sizeOk = true → ∀ (w w' : Int) (p : Int → Bool) (e : Int), tE rs w p e = tE rs w' p e
  | [], _, _, _, _, _ => rfl
  | q :: rs, h, w, w', p, e => by
    simp only [List.all_cons, Bool.and_eq_true] at h
    have hp := prd_pos rs h.2
    have h1 := any_cons q rs ((sizeOk_iff q).1 h.1) (by omega) w p e
    have h2 := any_cons q rs ((sizeOk_iff q).1 h.1) (by omega) w' p e
    rw [any_word rs h.2 (w / q) (w' / q) p e, any_word rs h.2 (w / q) (w' / q) p (e + 1)] at h1
    omega
theorem near_any {s : List Int} (hs : isSp s = true) (r : Int) (w : Nat) : (List.range (prd s).toNat).countP (nrb s r w) = (ballL s 0 r).length := by
  have hall : s.reverse.all sizeOk = true := by rw [List.all_reverse]; exact isSp_all hs
  have e : ∀ x : Int, (List.range (prd s).toNat).countP (fun u : Nat => decide (ham (dig8 s x) (dig8 s (u : Int)) ≤ r)) = tE s.reverse x (fun d => decide (d ≤ r)) 0 := fun x => by
    unfold tE cN
    rw [prd_reverse]
    apply List.countP_congr
    intro u _
    rw [ham_dig8 (isSp_len hs)]
    unfold dist dg
    rw [ham_reverse _ _ (by rw [dgr_length, dgr_length]), Int.zero_add]
  have h1 := e (w : Int)
  have h2 := e 0
  rw [any_word s.reverse hall (w : Int) 0, ← h2] at h1
  unfold nrb
  rw [h1]
  unfold ballL selL NW
  rw [List.length_map, List.countP_eq_length_filter]
  congr 1
  apply List.filter_congr
  intro i _
  rw [ham_dig8 (isSp_len hs)]
end Go.Proofs.Ytlfipjdjmpdblaa.Q
set_option linter.unusedVariables false
set_option linter.unusedSimpArgs false
namespace Go.Proofs.Ytlfipjdjmpdblaa.P
open Go.RowKit Go.Proofs.YtlfipjdjmpdblaaW.PrintWords Go.Proofs.YtlfipjdjmpdblaaW.PrintLast Go.Proofs.YtlfipjdjmpdblaaW.PrintMore CC
set_option maxHeartbeats 8000000 in
set_option maxRecDepth 100000 in
theorem sphere1_calls (g7 g5 : Nat) (d0 d1 d2 d3 d4 d5 d6 d7 e0 e1 e2 e3 e4 e5 e6 e7 r : Int) (w : World) (h7 : w.heap[g7]? = some (.cells #[.int .u8 d0, .int .u8 d1, .int .u8 d2, .int .u8 d3, .int .u8 d4, .int .u8 d5, .int .u8 d6, .int .u8 d7] 54 (0, 0))) (h5 : w.heap[g5]? = some (.cells #[.int .i64 r] 2 (0, 0))) :
    Calls Try.prog 74 #[.agg #[.int .u8 e0, .int .u8 e1, .int .u8 e2, .int .u8 e3, .int .u8 e4, .int .u8 e5, .int .u8 e6, .int .u8 e7], .pointer (some ⟨g7, 0, none⟩), .pointer (some ⟨g5, 0, none⟩)] w fun e w' => e = .returned (.bool (decide (ham [d0, d1, d2, d3, d4, d5, d6, d7] [e0, e1, e2, e3, e4, e5, e6, e7] = r))) ∧ Below w.heap.size w w' := by
  have huD := Try.underlying54
  have H7 := Aside0.mk (blk_alloc h7 (.cells #[.int .u8 e0, .int .u8 e1, .int .u8 e2, .int .u8 e3, .int .u8 e4, .int .u8 e5, .int .u8 e6, .int .u8 e7] 54))
  have H5 := Aside0.mk (blk_alloc h5 (.cells #[.int .u8 e0, .int .u8 e1, .int .u8 e2, .int .u8 e3, .int .u8 e4, .int .u8 e5, .int .u8 e6, .int .u8 e7] 54))
  have H3 := Aside0.mk (blk_new w (.cells #[.int .u8 e0, .int .u8 e1, .int .u8 e2, .int .u8 e3, .int .u8 e4, .int .u8 e5, .int .u8 e6, .int .u8 e7] 54))
  clear h7 h5
  have hB : Below w.heap.size w (w.alloc (.cells #[.int .u8 e0, .int .u8 e1, .int .u8 e2, .int .u8 e3, .int .u8 e4, .int .u8 e5, .int .u8 e6, .int .u8 e7] 54)) := (Below.refl _ _).alloc (Nat.le_refl _) _
  go_enter Try.func74, Try.ntmps74
  go_wp2_with fail
  generalize w.alloc (.cells #[.int .u8 e0, .int .u8 e1, .int .u8 e2, .int .u8 e3, .int .u8 e4, .int .u8 e5, .int .u8 e6, .int .u8 e7] 54) = W at *
  have hd0 : W.cell? ⟨g7, 0, none⟩ = some (.int .u8 d0) := blk_cell H7.out 0
  have hd1 : W.cell? ⟨g7, 1, none⟩ = some (.int .u8 d1) := blk_cell H7.out 1
  have hd2 : W.cell? ⟨g7, 2, none⟩ = some (.int .u8 d2) := blk_cell H7.out 2
  have hd3 : W.cell? ⟨g7, 3, none⟩ = some (.int .u8 d3) := blk_cell H7.out 3
  have hd4 : W.cell? ⟨g7, 4, none⟩ = some (.int .u8 d4) := blk_cell H7.out 4
  have hd5 : W.cell? ⟨g7, 5, none⟩ = some (.int .u8 d5) := blk_cell H7.out 5
  have hd6 : W.cell? ⟨g7, 6, none⟩ = some (.int .u8 d6) := blk_cell H7.out 6
  have hd7 : W.cell? ⟨g7, 7, none⟩ = some (.int .u8 d7) := blk_cell H7.out 7
  have he0 : W.cell? ⟨w.heap.size, 0, none⟩ = some (.int .u8 e0) := blk_cell H3.out 0
  have he1 : W.cell? ⟨w.heap.size, 1, none⟩ = some (.int .u8 e1) := blk_cell H3.out 1
  have he2 : W.cell? ⟨w.heap.size, 2, none⟩ = some (.int .u8 e2) := blk_cell H3.out 2
  have he3 : W.cell? ⟨w.heap.size, 3, none⟩ = some (.int .u8 e3) := blk_cell H3.out 3
  have he4 : W.cell? ⟨w.heap.size, 4, none⟩ = some (.int .u8 e4) := blk_cell H3.out 4
  have he5 : W.cell? ⟨w.heap.size, 5, none⟩ = some (.int .u8 e5) := blk_cell H3.out 5
  have he6 : W.cell? ⟨w.heap.size, 6, none⟩ = some (.int .u8 e6) := blk_cell H3.out 6
  have he7 : W.cell? ⟨w.heap.size, 7, none⟩ = some (.int .u8 e7) := blk_cell H3.out 7
  have hr : W.cell? ⟨g5, 0, none⟩ = some (.int .i64 r) := blk_cell H5.out 0
  go_region_held3 (fun w' => w'.cell? ⟨g7, 0, none⟩ = some (.int .u8 d0) ∧ w'.cell? ⟨g7, 1, none⟩ = some (.int .u8 d1) ∧ w'.cell? ⟨g7, 2, none⟩ = some (.int .u8 d2) ∧ w'.cell? ⟨g7, 3, none⟩ = some (.int .u8 d3) ∧ w'.cell? ⟨g7, 4, none⟩ = some (.int .u8 d4) ∧ w'.cell? ⟨g7, 5, none⟩ = some (.int .u8 d5) ∧ w'.cell? ⟨g7, 6, none⟩ = some (.int .u8 d6) ∧ w'.cell? ⟨g7, 7, none⟩ = some (.int .u8 d7) ∧ w'.cell? ⟨w.heap.size, 0, none⟩ = some (.int .u8 e0) ∧ w'.cell? ⟨w.heap.size, 1, none⟩ = some (.int .u8 e1) ∧ w'.cell? ⟨w.heap.size, 2, none⟩ = some (.int .u8 e2) ∧ w'.cell? ⟨w.heap.size, 3, none⟩ = some (.int .u8 e3) ∧ w'.cell? ⟨w.heap.size, 4, none⟩ = some (.int .u8 e4) ∧ w'.cell? ⟨w.heap.size, 5, none⟩ = some (.int .u8 e5) ∧ w'.cell? ⟨w.heap.size, 6, none⟩ = some (.int .u8 e6) ∧ w'.cell? ⟨w.heap.size, 7, none⟩ = some (.int .u8 e7) ∧ w'.cell? ⟨g5, 0, none⟩ = some (.int .i64 r) ∧ Below w.heap.size w w') (first | exact ⟨hd0, hd1, hd2, hd3, hd4, hd5, hd6, hd7, he0, he1, he2, he3, he4, he5, he6, he7, hr, below_drew hB⟩ | exact (And.imp (pw_cell_below hb) (And.imp (pw_cell_below hb) (And.imp (pw_cell_below hb) (And.imp (pw_cell_below hb) (And.imp (pw_cell_below hb) (And.imp (pw_cell_below hb) (And.imp (pw_cell_below hb) (And.imp (pw_cell_below hb) (And.imp (pw_cell_below hb) (And.imp (pw_cell_below hb) (And.imp (pw_cell_below hb) (And.imp (pw_cell_below hb) (And.imp (pw_cell_below hb) (And.imp (pw_cell_below hb) (And.imp (pw_cell_below hb) (And.imp (pw_cell_below hb) (And.imp (pw_cell_below hb) (fun hS => below_then hS hS.size hb)))))))))))))))))) (by assumption))
    (first
      | (go_at_call 75; refine (far_calls8 d0 d1 d2 d3 d4 d5 d6 d7 e0 e1 e2 e3 e4 e5 e6 e7 _).mono ?_; rintro e w' ⟨rfl, hb⟩))
  obtain ⟨_, _, _, _, _, _, _, _, _, _, _, _, _, _, _, _, _, hBB⟩ := (by assumption : w'.cell? ⟨g7, 0, none⟩ = some (.int .u8 d0) ∧ _)
  go_wp2
  go_ret
  exact ⟨rfl, hBB⟩
def sphereR (s : List Int) (x r : Int) : List Int × Int := if Q.rBall s x r = 0 then (thoseL s (fun e => decide (ham (dig8 s x) e = r)) (prd s).toNat, 0) else ([], Q.rBall s x r)
set_option maxHeartbeats 4000000 in
set_option maxRecDepth 100000 in
theorem sphereOf_calls (A : Option Addr) (c : Nat) (s : List Int) (x r : Int) (w : World) (hr : Kd.C (Kd.int .i64) w A s.length s) (hc : s.length ≤ c) :
    Calls Try.prog 25 #[.agg #[.slice A s.length c], .int .i64 x, .int .i64 r] w
      fun e w' => ∃ v, e = .returned (.tuple #[v, .int .i64 (sphereR s x r).2]) ∧ Kd.R (Kd.int .i64) 2 w' w.heap.size (fun _ => True) v (sphereR s x r).1 ∧ Below w.heap.size w w' := by
  have huS := Try.underlying26
  have huD := Try.underlying54
  have HR := Aside0.mk hr
  obtain ⟨kb, hbc⟩ := (Q.ballCode_ev s x r).rounds
  have HBC := Aside0.mk hbc
  clear hr hbc
  go_enter Try.func25, Try.ntmps25
  go_wp2_with fail
  have hcell : ((w.alloc (.cells #[.slice A s.length c] 26)).alloc (.cells #[.int .i64 r] 2)).heap[w.heap.size]? = some (.cells #[.slice A s.length c] 26 (0, 0)) := blk_alloc (blk_new _ _) _
  have hcell2 : ((w.alloc (.cells #[.slice A s.length c] 26)).alloc (.cells #[.int .i64 r] 2)).heap[w.heap.size + 1]? = some (.cells #[.int .i64 r] 2 (0, 0)) := by simpa using blk_new (w.alloc (.cells #[.slice A s.length c] 26)) (.cells #[.int .i64 r] 2)
  have hB : Below w.heap.size w ((w.alloc (.cells #[.slice A s.length c] 26)).alloc (.cells #[.int .i64 r] 2)) := ((Below.refl _ _).alloc (Nat.le_refl _) _).alloc (by simp) _
  refine (impl_ballCode.calls kb A c s x r (Q.rBall s x r) _ (Kd.C_below HR.out hB) hc HBC.out).mono ?_
  rintro e w0 ⟨rfl, hb⟩
  have K1 := Aside0.mk (blk_below hcell hb)
  have K2 := Aside0.mk (blk_below hcell2 hb)
  have B1 := Aside0.mk (below_then hB hB.size hb)
  clear hcell hcell2 hB hb
  by_cases hz : Q.rBall s x r = 0
  · have HZ : Aside0 (sphereR s x r = (thoseL s (fun e => decide (ham (dig8 s x) e = r)) (prd s).toNat, 0)) := ⟨by unfold sphereR; rw [if_pos hz]⟩
    obtain ⟨hs, hw, _⟩ := Q.rBall_zero hz
    have HS := Aside0.mk hs
    obtain ⟨h0, h1⟩ := isW_sm hs hw
    obtain ⟨kc, hcount⟩ := (Q.count_sp hs).rounds
    have HK := Aside0.mk hcount
    rw [hz]
    clear hs hw hcount hz HBC
    have hk0 : w0.cell? ⟨w.heap.size, 0, none⟩ = some (.slice A s.length c) := blk_cell K1.out 0
    go_wp2_with fail
    refine (digitsOf_calls A c s x _ (Kd.C_below HR.out B1.out) hc HS.out h0 h1).mono ?_
    rintro e w1 ⟨rfl, hb⟩
    have K3 := Aside0.mk (blk_below K1.out hb)
    have K4 := Aside0.mk (blk_below K2.out hb)
    have B2 := Aside0.mk (below_then B1.out B1.out.size hb)
    clear hb hk0 K1 K2 B1
    have hd8 : dloop s s.length x (List.replicate 8 0) = dig8 s x := rfl
    rw [hd8]
    clear hd8
    have E8 := Aside0.mk (dig8_length s x)
    generalize hd : dig8 s x = d at *
    have HD := Aside0.mk hd
    clear hd
    obtain ⟨y0, y1, y2, y3, y4, y5, y6, y7, rfl⟩ := eight E8.out
    have ea : arr8 [y0, y1, y2, y3, y4, y5, y6, y7] = .agg #[.int .u8 y0, .int .u8 y1, .int .u8 y2, .int .u8 y3, .int .u8 y4, .int .u8 y5, .int .u8 y6, .int .u8 y7] := rfl
    rw [ea]
    clear ea
    have hk : w1.cell? ⟨w.heap.size, 0, none⟩ = some (.slice A s.length c) := blk_cell K3.out 0
    have hk2 : (w1.alloc (.cells #[.int .u8 y0, .int .u8 y1, .int .u8 y2, .int .u8 y3, .int .u8 y4, .int .u8 y5, .int .u8 y6, .int .u8 y7] 54)).cell? ⟨w.heap.size, 0, none⟩ = some (.slice A s.length c) := blk_cell (blk_alloc K3.out _) 0
    go_wp2_with fail
    have R2 := Aside0.mk (blk_alloc K4.out (.cells #[.int .u8 y0, .int .u8 y1, .int .u8 y2, .int .u8 y3, .int .u8 y4, .int .u8 y5, .int .u8 y6, .int .u8 y7] 54))
    have R7 := Aside0.mk (blk_new w1 (.cells #[.int .u8 y0, .int .u8 y1, .int .u8 y2, .int .u8 y3, .int .u8 y4, .int .u8 y5, .int .u8 y6, .int .u8 y7] 54))
    have RB := Aside0.mk (below_alloc B2.out (.cells #[.int .u8 y0, .int .u8 y1, .int .u8 y2, .int .u8 y3, .int .u8 y4, .int .u8 y5, .int .u8 y6, .int .u8 y7] 54))
    refine («SphereOf$1».those_calls (some ⟨w1.heap.size, 0, none⟩) (some ⟨w.heap.size + 1, 0, none⟩) (fun e => decide (ham [y0, y1, y2, y3, y4, y5, y6, y7] e = r)) A c s _ (Kd.C_below HR.out RB.out) hc HS.out kc HK.out ?hf).mono ?_
    case hf =>
      intro e0 e1 e2 e3 e4 e5 e6 e7 W hW
      exact sphere1_calls _ _ y0 y1 y2 y3 y4 y5 y6 y7 e0 e1 e2 e3 e4 e5 e6 e7 r W (blk_below R7.out hW) (blk_below R2.out hW)
    rintro e w2 ⟨v, rfl, hO, hb⟩
    have O2 := Aside0.mk (own_weaken hO RB.out.size)
    have B3 := Aside0.mk (below_then RB.out RB.out.size hb)
    clear hO hb
    go_wp2
    go_ret2
    rw [HZ.out]
    exact ⟨_, rfl, Kd.R_of_own O2.out (fun _ _ => trivial), B3.out⟩
  · have HZ : Aside0 (sphereR s x r = ([], Q.rBall s x r)) := ⟨by unfold sphereR; rw [if_neg hz]⟩
    clear HBC
    generalize Q.rBall s x r = z at *
    go_wp2
    go_ret2
    rw [HZ.out]
    exact ⟨_, rfl, Kd.R_nil _ _ _ _ _, B1.out⟩
def impl_SphereOf.f (l0_0 : List Int) (a1 a2 : Int) : Option (List Int × Int) := some (sphereR l0_0 a1 a2)
theorem impl_SphereOf.calls (A0_0 : Option Addr) (c0_0 : Nat) (l0_0 : List Int) (a1 : Int) (a2 : Int) (r1 : List Int) (r2 : Int) (w : World) (hr0_0 : Kd.C (Kd.int .i64) w A0_0 l0_0.length l0_0) (hc0_0 : l0_0.length ≤ c0_0) (h : impl_SphereOf.f l0_0 a1 a2 = some (r1, r2)) :
    Calls Try.prog 25 #[.agg #[.slice A0_0 l0_0.length c0_0], .int .i64 a1, .int .i64 a2] w fun e w' => ∃ v0_ : Value, e = .returned (.tuple #[v0_, .int .i64 r2]) ∧ Kd.R (Kd.int .i64) 2 w' w.heap.size (fun _ => True) v0_ r1 ∧ Below w.heap.size w w' := by
  obtain h2 := Option.some.inj h
  have e1 : (sphereR l0_0 a1 a2).1 = r1 := by rw [h2]
  have e2 : (sphereR l0_0 a1 a2).2 = r2 := by rw [h2]
  subst e1 e2
  exact sphereOf_calls A0_0 c0_0 l0_0 a1 a2 w hr0_0 hc0_0
end Go.Proofs.Ytlfipjdjmpdblaa.P
set_option linter.unusedVariables false
set_option linter.unusedSimpArgs false
namespace Go.Proofs.Ytlfipjdjmpdblaa.Q
open Go.RowKit Go.Proofs.Ytlfipjdjmpdblaa.P Go.Proofs.YtlfipjdjmpdblaaW.PrintWords CC
def rSumOfWords (s : List Int) (u w : Int) : Int × Int := if rWords s [u, w] = 0 then (sumW s u w, 0) else (0, rWords s [u, w])
theorem specSumOfWords_ev (s : List Int) (u w : Int) : Ev (fun k => spec_SumOfWords.f k s u w) (rSumOfWords s u w) := by
  unfold spec_SumOfWords.f rSumOfWords
  refine Ev.bind (l01Words_ev s (c := [u, w]) (by simp)) ?_
  by_cases h : rWords s [u, w] = 0
  · obtain ⟨hs, hc⟩ := rWords_zero h
    simp only [if_pos h]
    exact Ev.bind (l01Sum_ev hs (hc u (by simp)) (hc w (by simp))) (Ev.now _)
  · simp only [if_neg h]
    exact Ev.now _
theorem implSumOfWords_ev (s : List Int) (u w : Int) : Ev (fun k => impl_SumOfWords.f k s u w) (rSumOfWords s u w) := by
  unfold impl_SumOfWords.f rSumOfWords
  refine Ev.bind (wordCode_ev s (c := [u, w]) (by simp)) ?_
  by_cases h : rWords s [u, w] = 0
  · obtain ⟨hs, hc⟩ := rWords_zero h
    simp only [if_pos h]
    exact Ev.bindc (sumWords_eq hs (hc u (by simp)) (hc w (by simp))) (Ev.now _)
  · simp only [if_neg h]
    exact Ev.now _
def rDistanceOf (s : List Int) (u w : Int) : Int × Int := if rWords s [u, w] = 0 then (dist s u w, 0) else (0, rWords s [u, w])
theorem specDistanceOf_ev (s : List Int) (u w : Int) : Ev (fun k => spec_DistanceOf.f k s u w) (rDistanceOf s u w) := by
  unfold spec_DistanceOf.f rDistanceOf
  refine Ev.bind (l01Words_ev s (c := [u, w]) (by simp)) ?_
  by_cases h : rWords s [u, w] = 0
  · obtain ⟨hs, hc⟩ := rWords_zero h
    rw [if_pos h]
    exact Ev.iff_pos h (Ev.bind (l01Distance_ev hs (hc u (by simp)) (hc w (by simp))) (Ev.now _))
  · rw [if_neg h]
    exact Ev.iff_neg h (Ev.now _)
theorem implDistanceOf_ev (s : List Int) (u w : Int) : Ev (fun k => impl_DistanceOf.f k s u w) (rDistanceOf s u w) := by
  unfold impl_DistanceOf.f rDistanceOf
  refine Ev.bind (wordCode_ev s (c := [u, w]) (by simp)) ?_
  by_cases h : rWords s [u, w] = 0
  · obtain ⟨hs, hc⟩ := rWords_zero h
    simp only [if_pos h]
    refine Ev.bindc (a := dist s u w) ?_ (Ev.now _)
    unfold impl_distance.f
    rw [if_pos ⟨hs, hc u (by simp), hc w (by simp)⟩, ham_dig8 (isSp_len hs)]
  · simp only [if_neg h]
    exact Ev.now _
namespace EOppositeWord
theorem upd8_gen (g : Nat → Int) {n : Nat} (hn : n ≤ 8) : upd8 g n = genL g n ++ List.replicate (8 - n) 0 := by
  apply List.ext_getElem?
  intro k
  by_cases h8 : k < 8
  · by_cases hk : k < n
    · rw [List.getElem?_append_left (by rw [genL_length]; exact hk)]
      simp [upd8, genL, h8, hk]
    · rw [List.getElem?_append_right (by rw [genL_length]; omega), genL_length, List.getElem?_replicate, if_pos (by omega)]
      simp [upd8, h8, hk]
  · rw [List.getElem?_eq_none (by rw [upd8_length]; omega), List.getElem?_eq_none (by simp [genL_length]; omega)]
theorem specOpp_l {s d : List Int} (hs : s.all sizeOk = true) (hl : s.length ≤ 8) (hd : d.length = s.length) (hr : inR s d = true) : ∀ (m n : Nat), n + m = s.length →
    Ev (fun k => spec_OppositeWord.l0 k (genL (fun k => (-rd d (k : Int)) % rd s (k : Int)) n ++ d.drop n) (d.length : Int) (n : Int) s) (wd s (genL (fun k => (-rd d (k : Int)) % rd s (k : Int)) s.length), 0)
  | 0, n, hm => by
    obtain rfl : n = s.length := by omega
    refine Ev.step (fun k => by simp only [spec_OppositeWord.l0]; exact rfl) (Ev.iff_neg (by omega) ?_)
    rw [List.drop_eq_nil_of_le (by omega), List.append_nil]
    refine Ev.bind (l01Word_ev hs hl (genL_length _ _) (genL_inR fun k hk => ?_)) (Ev.now _)
    have hq := all_rd hs hk
    exact ⟨Int.emod_nonneg _ (by omega), Int.emod_lt_of_pos _ (by omega)⟩
  | m + 1, n, hm => by
    have hn : n < s.length := by omega
    have hq := all_rd hs hn
    obtain ⟨r0, r1⟩ := inR_rd s d n hr hn (by omega)
    refine Ev.step (fun k => by simp only [spec_OppositeWord.l0]; exact rfl) ?_
    refine Ev.iff_pos (by omega) (Ev.iff_pos (by omega) (Ev.iff_pos (by omega) (Ev.iff_pos ?_ (Ev.iff_neg (by omega) ?_))))
    · simp [genL_length]
      omega
    · rw [genL_old (by omega), wrap_id (x := rd s (n : Int) - rd d (n : Int)) (by omega) (by omega), tmod_pos (by omega), wrap_nat (by unfold maxLen; omega), Int.toNat_natCast]
      have e : (rd s (n : Int) - rd d (n : Int)) % rd s (n : Int) = (-rd d (n : Int)) % rd s (n : Int) := by simp
      rw [e]
      have := genL_set (g := fun k => (-rd d (k : Int)) % rd s (k : Int)) (n := n) (d := d) (by omega)
      rw [this]
      exact specOpp_l hs hl hd hr m (n + 1) (by omega)
theorem specOppositeWord_ev (s : List Int) (w : Int) : Ev (fun k => spec_OppositeWord.f k s w) (rOpp s w) := by
  unfold spec_OppositeWord.f rOpp
  refine Ev.bind (l01Words_ev s (c := [w]) (by simp)) ?_
  by_cases h : rWords s [w] = 0
  · obtain ⟨hs, hc⟩ := rWords_zero h
    simp only [if_pos h]
    refine Ev.bind (l01Digits_ev hs (hc w (by simp))) ?_
    have := specOpp_l (isSp_all hs) (isSp_len hs) (dg_length s w) (inR_dg (isSp_all hs) w) s.length 0 (by omega)
    have e : hor 0 s (opp8 s (dig8 s w)) = wd s (genL (fun k => (-rd (dg s w) (k : Int)) % rd s (k : Int)) s.length) := by
      unfold opp8 wd
      rw [upd8_gen _ (isSp_len hs), hor_pad (genL_length _ _)]
      congr 1
      apply genL_congr
      intro k hk
      have e2 : rd (dig8 s w) (k : Int) = rd (dg s w) (k : Int) := by
        rw [dig8_eq (isSp_len hs), rd_nat, rd_nat, List.getD_eq_getElem?_getD, List.getElem?_append_left (by rw [dg_length]; exact hk), List.getD_eq_getElem?_getD]
      rw [e2]
    rw [e]
    simpa [genL] using this
  · simp only [if_neg h]
    exact Ev.now _
theorem implOppositeWord_ev (s : List Int) (w : Int) : impl_OppositeWord.f s w = some (rOpp s w) := rfl
end EOppositeWord
def rWeightOf (s : List Int) (w : Int) : Int × Int := if rWords s [w] = 0 then (dist s 0 w, 0) else (0, rWords s [w])
theorem isW_zero {s : List Int} (hs : isSp s = true) : isW s 0 = true := by
  have := isSp_prd1 hs
  exact (isW_iff s 0).2 ⟨by omega, by omega⟩
theorem rWords_w0 (s : List Int) (w : Int) : rWords s [w, 0] = rWords s [w] := by
  unfold rWords
  by_cases hs : isSp s = true
  · simp [hs, isW_zero hs]
  · simp [hs]
theorem specWeightOf_ev (s : List Int) (w : Int) : Ev (fun k => spec_WeightOf.f k s w) (rWeightOf s w) := by
  unfold spec_WeightOf.f rWeightOf
  refine Ev.bind (l01Words_ev s (c := [w]) (by simp)) ?_
  by_cases h : rWords s [w] = 0
  · obtain ⟨hs, hc⟩ := rWords_zero h
    rw [if_pos h]
    exact Ev.iff_pos h (Ev.bind (l01Distance_ev hs (isW_zero hs) (hc w (by simp))) (Ev.now _))
  · rw [if_neg h]
    exact Ev.iff_neg h (Ev.now _)
theorem implWeightOf_ev (s : List Int) (w : Int) : Ev (fun k => impl_WeightOf.f k s w) (rWeightOf s w) := by
  unfold impl_WeightOf.f impl_DistanceOf.f rWeightOf
  refine Ev.bind (a := rWeightOf s w) ?_ (Ev.now _)
  unfold rWeightOf
  refine Ev.bind (wordCode_ev s (c := [w, 0]) (by simp)) ?_
  rw [rWords_w0]
  by_cases h : rWords s [w] = 0
  · obtain ⟨hs, hc⟩ := rWords_zero h
    simp only [if_pos h]
    refine Ev.bindc (a := dist s 0 w) ?_ (Ev.now _)
    unfold impl_distance.f
    rw [if_pos ⟨hs, hc w (by simp), isW_zero hs⟩, ham_dig8 (isSp_len hs), dist_comm]
  · simp only [if_neg h]
    exact Ev.now _
theorem specDigitsOf_ev (s : List Int) (w : Int) : Ev (fun k => spec_DigitsOf.f k s w) (rDigitsOf s w) := by
  unfold spec_DigitsOf.f rDigitsOf
  refine Ev.bind (l01Words_ev s (c := [w]) (by simp)) ?_
  by_cases h : rWords s [w] = 0
  · obtain ⟨hs, hc⟩ := rWords_zero h
    simp only [if_pos h]
    exact Ev.bind (l01Digits_ev hs (hc w (by simp))) (Ev.now _)
  · simp only [if_neg h]
    exact Ev.now _
theorem rDigitsOf_len (s : List Int) (w : Int) : (rDigitsOf s w).1.length ≤ 8 := by
  unfold rDigitsOf
  by_cases h : rWords s [w] = 0
  · rw [if_pos h]
    have := isSp_len (rWords_zero h).1
    simpa [dg_length] using this
  · rw [if_neg h]
    simp
theorem implDigitsOf_ev (s : List Int) (w : Int) : impl_DigitsOf.f s w = some (rDigitsOf s w) := rfl
def rBallOf (s : List Int) (w r : Int) : List Int × Int := if rBall s w r = 0 then (ballL s w r, 0) else ([], rBall s w r)
theorem rBallOf_len (s : List Int) (w r : Int) : (rBallOf s w r).1.length ≤ 1024 := by
  unfold rBallOf
  by_cases h : rBall s w r = 0
  · rw [if_pos h]
    exact ballL_len (rBall_zero h).1 w r
  · rw [if_neg h]
    simp
theorem specBallOf_ev (s : List Int) (w r : Int) : Ev (fun k => spec_BallOf.f k s w r) (rBallOf s w r) := by
  unfold spec_BallOf.f rBallOf
  refine Ev.bind (l01Radius_ev s w r) ?_
  by_cases h : rBall s w r = 0
  · obtain ⟨hs, hw, _⟩ := rBall_zero h
    simp only [if_pos h]
    exact Ev.bind (l01Ball_ev hs hw r) (Ev.now _)
  · simp only [if_neg h]
    exact Ev.now _
theorem implBallOf_ev (s : List Int) (w r : Int) : Ev (fun k => impl_BallOf.f k s w r) (rBallOf s w r) := by
  unfold impl_BallOf.f rBallOf
  refine Ev.bind (ballCode_ev s w r) ?_
  by_cases h : rBall s w r = 0
  · obtain ⟨hs, hw, _⟩ := rBall_zero h
    simp only [if_pos h]
    exact Ev.bindc (ball_eq hs hw r) (Ev.now _)
  · simp only [if_neg h]
    exact Ev.now _
def rSphereOf (s : List Int) (w r : Int) : List Int × Int := if rBall s w r = 0 then (selL (fun u => decide (dist s w u = r)) (NW s), 0) else ([], rBall s w r)
theorem rSphereOf_len (s : List Int) (w r : Int) : (rSphereOf s w r).1.length ≤ 1024 := by
  unfold rSphereOf
  by_cases h : rBall s w r = 0
  · rw [if_pos h]
    have := selL_len (fun u => decide (dist s w u = r)) (NW s)
    have := NW_le (rBall_zero h).1
    show (selL (fun u => decide (dist s w u = r)) (NW s)).length ≤ 1024
    omega
  · rw [if_neg h]
    simp
theorem specSphere_l {s : List Int} (hs : isSp s = true) {w : Int} (hw : isW s w = true) (r : Int) : ∀ (m n : Nat), n + m = NW s →
    Ev (fun k => spec_SphereOf.l0 k w r (selL (fun u => decide (dist s w u = r)) n) (n : Int) s) (selL (fun u => decide (dist s w u = r)) (NW s), 0)
  | 0, n, hm => by
    have hN := NW_eq hs
    refine Ev.step (fun k => by simp only [spec_SphereOf.l0]; exact rfl) ?_
    refine Ev.bind (l01N_sp hs) ?_
    refine Ev.iff_neg (by omega) ?_
    have : n = NW s := by omega
    subst this
    exact Ev.now _
  | m + 1, n, hm => by
    have hN := NW_eq hs
    have hN2 := NW_le hs
    have hl := selL_len (fun u => decide (dist s w u = r)) n
    have ih := specSphere_l hs hw r m (n + 1) (by omega)
    rw [selL_succ] at ih
    refine Ev.step (fun k => by simp only [spec_SphereOf.l0]; exact rfl) ?_
    refine Ev.bind (l01N_sp hs) ?_
    refine Ev.iff_pos (by omega) ?_
    refine Ev.bind (l01Distance_ev hs (isW_nat hs (show n < NW s by omega)) hw) ?_
    rw [dist_comm, wrap_nat (by unfold maxLen; omega)]
    by_cases h : dist s w (n : Int) = r
    · refine Ev.iff_pos h ?_
      refine Ev.iff_pos (by omega) ?_
      simpa [h] using ih
    · refine Ev.iff_neg h ?_
      simpa [h] using ih
theorem specSphereOf_ev (s : List Int) (w r : Int) : Ev (fun k => spec_SphereOf.f k s w r) (rSphereOf s w r) := by
  unfold spec_SphereOf.f rSphereOf
  refine Ev.bind (l01Radius_ev s w r) ?_
  by_cases h : rBall s w r = 0
  · obtain ⟨hs, hw, _⟩ := rBall_zero h
    simp only [if_pos h]
    have := specSphere_l hs hw r (NW s) 0 (by omega)
    simpa [selL] using this
  · simp only [if_neg h]
    exact Ev.now _
theorem implSphereOf_eq (s : List Int) (w r : Int) : impl_SphereOf.f s w r = some (rSphereOf s w r) := by
  unfold impl_SphereOf.f rSphereOf sphereR
  by_cases h : rBall s w r = 0
  · obtain ⟨hs, hw, _⟩ := rBall_zero h
    rw [if_pos h, if_pos h]
    congr 2
    unfold thoseL selL NW
    congr 1
    apply List.filter_congr
    intro i _
    simp only [ham_dig8 (isSp_len hs)]
  · rw [if_neg h, if_neg h]
def rBallSize (s : List Int) (r : Int) : Int × Int := if rBall s 0 r = 0 then (((ballL s 0 r).length : Int), 0) else (0, rBall s 0 r)
theorem specBallSize_ev (s : List Int) (r : Int) : Ev (fun k => spec_BallSize.f k s r) (rBallSize s r) := by
  unfold spec_BallSize.f rBallSize
  refine Ev.bind (l01Radius_ev s 0 r) ?_
  by_cases h : rBall s 0 r = 0
  · obtain ⟨hs, hw, h0, h1⟩ := rBall_zero h
    simp only [if_pos h]
    exact Ev.bind (l01Size_ev hs h0 (by omega)) (Ev.now _)
  · simp only [if_neg h]
    exact Ev.now _
theorem implBallSize_ev (s : List Int) (r : Int) : Ev (fun k => impl_BallSize.f k s r) (rBallSize s r) := by
  unfold impl_BallSize.f rBallSize
  refine Ev.bind (ballCode_ev s 0 r) ?_
  by_cases h : rBall s 0 r = 0
  · obtain ⟨hs, hw, h0, h1⟩ := rBall_zero h
    simp only [if_pos h]
    exact Ev.bindc (ball_eq hs hw r) (Ev.now _)
  · simp only [if_neg h]
    exact Ev.now _
theorem specChangeDigit_ev (s : List Int) (w i d : Int) : Ev (fun k => spec_ChangeDigit.f k s w i d) (rChange s w i d) := by
  unfold spec_ChangeDigit.f rChange
  refine Ev.bind (l01Words_ev s (c := [w]) (by simp)) ?_
  by_cases h : rWords s [w] = 0
  · obtain ⟨hs, hc⟩ := rWords_zero h
    have hl := isSp_len hs
    have hl1 := isSp_pos hs
    simp only [if_pos h]
    refine Ev.bindc (l01In_eq _ _ _) ?_
    rw [wrap_id (x := (s.length : Int) - 1) (by omega) (by omega)]
    by_cases hi : 0 ≤ i ∧ i < s.length
    · obtain ⟨n, rfl⟩ : ∃ n : Nat, i = (n : Int) := ⟨i.toNat, by omega⟩
      have hn : n < s.length := by omega
      have hq := all_rd (isSp_all hs) hn
      refine Ev.iff_pos (by simp; omega) (Ev.iff_pos (by omega) (Ev.iff_pos (by omega) (Ev.bindc (l01In_eq _ _ _) ?_)))
      rw [wrap_id (x := rd s (n : Int) - 1) (by omega) (by omega)]
      by_cases hd : 0 ≤ d ∧ d < rd s (n : Int)
      · rw [if_pos ⟨hi.1, hi.2, hd.1, hd.2⟩]
        refine Ev.step (fun k => by simp only [spec_ChangeDigit.j0]; exact rfl) ?_
        refine Ev.iff_neg (by simp; omega) (Ev.bind (l01Digits_ev hs (hc w (by simp))) ?_)
        have hset : inR s ((dg s w).set n d) = true := set_inR (inR_dg (isSp_all hs) w) hn hd.1 hd.2
        refine Ev.iff_pos (by omega) (Ev.iff_pos (by rw [dg_length]; omega) ?_)
        rw [Int.toNat_natCast]
        have e : hor 0 s ((dig8 s w).set n d) = wd s ((dg s w).set n d) := by
          rw [dig8_eq hl, List.set_append_left _ _ (by rw [dg_length]; exact hn), hor_pad (by simp [dg_length])]
          rfl
        rw [e]
        exact Ev.bind (l01Word_ev (isSp_all hs) hl (by simp [dg_length]) hset) (Ev.now _)
      · rw [if_neg (by rintro ⟨_, _, h1, h2⟩; exact hd ⟨h1, h2⟩)]
        refine Ev.step (fun k => by simp only [spec_ChangeDigit.j0]; exact rfl) ?_
        exact Ev.iff_pos (by simp; omega) (Ev.now _)
    · rw [if_neg (by rintro ⟨h1, h2, _⟩; exact hi ⟨h1, h2⟩)]
      refine Ev.iff_neg (by simp; omega) ?_
      refine Ev.step (fun k => by simp only [spec_ChangeDigit.j0]; exact rfl) ?_
      exact Ev.iff_pos (by simp) (Ev.now _)
  · simp only [if_neg h]
    exact Ev.now _
theorem implChangeDigit_ev (s : List Int) (w i d : Int) : impl_ChangeDigit.f s w i d = some (rChange s w i d) := rfl
end Go.Proofs.Ytlfipjdjmpdblaa.Q
