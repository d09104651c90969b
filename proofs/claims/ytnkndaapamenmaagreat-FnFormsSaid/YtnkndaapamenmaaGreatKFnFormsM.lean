/- What the law FnForms needs, part 13: words, walks of functions (each says that a call returns what the plain Lean function beside it says), plain lemmas. -/
import Derived.Test.YtnkndaapamenmaaGreatKFnFormsL
import Derived.Laws.Bits64
import Derived.Lib.TrailingZeros
set_option linter.unusedVariables false
set_option linter.unusedSimpArgs false
namespace Go.Proofs.YtnkndaapamenmaaGreat.P
open Go.RowKit Go.Proofs.YtnkndaapamenmaaGreatW.PrintWords Go.Proofs.YtnkndaapamenmaaGreatW.PrintLast Go.Proofs.YtnkndaapamenmaaGreatW.PrintMore CC
def lo (l : List Int) : Nat := l.foldl (fun a x => if x < 64 then a ||| 2 ^ x.toNat else a) 0
def hi (l : List Int) : Nat := l.foldl (fun a x => if x < 64 then a else a ||| 2 ^ (x - 64).toNat) 0
theorem lo_snoc (l : List Int) (x : Int) : lo (l ++ [x]) = if x < 64 then lo l ||| 2 ^ x.toNat else lo l := by simp [lo, List.foldl_append]
theorem hi_snoc (l : List Int) (x : Int) : hi (l ++ [x]) = if x < 64 then hi l else hi l ||| 2 ^ (x - 64).toNat := by simp [hi, List.foldl_append]
def small (l : List Int) : Prop := ∀ x ∈ l, 0 ≤ x ∧ x < 128
theorem snocInd {p : List Int → Prop} (h0 : p []) (h1 : ∀ l x, p l → p (l ++ [x])) : ∀ l, p l := fun l => by
  have : ∀ r : List Int, p r.reverse := by
    intro r
    induction r with
    | nil => exact h0
    | cons x r ih => rw [List.reverse_cons]; exact h1 _ _ ih
  simpa using this l.reverse
theorem lo_bit : ∀ (l : List Int), small l → ∀ j : Nat, (lo l).testBit j = decide (j < 64 ∧ (j : Int) ∈ l) := by
  refine snocInd ?_ ?_
  · intro _ j
    simp [lo]
  · intro l x ih hs j
    have hx := hs x (by simp)
    have ih := ih (fun y hy => hs y (by simp [hy])) j
    rw [lo_snoc]
    split
    · rename_i hlt
      rw [Nat.testBit_or, ih, Nat.testBit_two_pow]
      by_cases e : x.toNat = j
      · have : x = (j : Int) := by omega
        simp [e, this]
        omega
      · have : ¬ ((j : Int) = x) := by omega
        simp [e, this]
    · rename_i hlt
      rw [ih]
      by_cases e : j < 64
      · have : ¬ ((j : Int) = x) := by omega
        simp [this]
      · simp [e]
theorem hi_bit : ∀ (l : List Int), small l → ∀ j : Nat, (hi l).testBit j = decide (((j + 64 : Nat) : Int) ∈ l) := by
  refine snocInd ?_ ?_
  · intro _ j
    simp [hi]
  · intro l x ih hs j
    have hx := hs x (by simp)
    have ih := ih (fun y hy => hs y (by simp [hy])) j
    rw [hi_snoc]
    split
    · rename_i hlt
      rw [ih]
      have : ¬ (((j + 64 : Nat) : Int) = x) := by omega
      simp only [List.mem_append, List.mem_singleton, this, or_false]
    · rename_i hlt
      rw [Nat.testBit_or, ih, Nat.testBit_two_pow]
      by_cases e : (x - 64).toNat = j
      · have : ((j + 64 : Nat) : Int) = x := by omega
        simp [e, this]
      · have : ¬ (((j + 64 : Nat) : Int) = x) := by omega
        simp only [List.mem_append, List.mem_singleton, this, or_false, e, decide_false, Bool.or_false]
theorem lo_lt {l : List Int} (h : small l) : lo l < 18446744073709551616 := by
  show lo l < 2 ^ 64
  apply Nat.lt_pow_two_of_testBit
  intro i hi
  rw [lo_bit l h]
  simp
  omega
theorem hi_lt {l : List Int} (h : small l) : hi l < 18446744073709551616 := by
  show hi l < 2 ^ 64
  apply Nat.lt_pow_two_of_testBit
  intro i hi
  rw [hi_bit l h, decide_eq_false_iff_not]
  intro hm
  have := h _ hm
  omega
theorem lo_congr {a b : List Int} (ha : small a) (h : ∀ x, x ∈ a ↔ x ∈ b) : lo a = lo b := by
  have hb : small b := fun x hx => ha x ((h x).2 hx)
  apply Nat.eq_of_testBit_eq
  intro j
  rw [lo_bit a ha, lo_bit b hb]
  simp only [h]
theorem hi_congr {a b : List Int} (ha : small a) (h : ∀ x, x ∈ a ↔ x ∈ b) : hi a = hi b := by
  have hb : small b := fun x hx => ha x ((h x).2 hx)
  apply Nat.eq_of_testBit_eq
  intro j
  rw [hi_bit a ha, hi_bit b hb]
  simp only [h]
def cbA (a b : Nat) : Bool := decide ((a &&& (a ^^^ b)) &&& (18446744073709551616 - (a ^^^ b)) ≠ 0)
def cbf (a0 a1 b0 b1 : Nat) : Bool := if a0 ^^^ b0 ≠ 0 then cbA a0 b0 else if a1 ^^^ b1 ≠ 0 then cbA a1 b1 else false
def befL : List Int → List Int → Bool
  | a :: A, b :: B => if a ≠ b then decide (a < b) else befL A B
  | _, _ => false
theorem cbA_bit {a b : Nat} (ha : a < 18446744073709551616) (hb : b < 18446744073709551616) {j : Nat} (hj : a.testBit j ≠ b.testBit j) (hl : ∀ i, i < j → a.testBit i = b.testBit i) : a ^^^ b ≠ 0 ∧ cbA a b = a.testBit j := by
  have hx : a ^^^ b < 2 ^ 64 := Nat.xor_lt_two_pow (by omega) (by omega)
  have hne : a ^^^ b ≠ 0 := by
    intro e
    have : (a ^^^ b).testBit j = false := by rw [e]; simp
    rw [Nat.testBit_xor] at this
    revert this hj
    cases a.testBit j <;> cases b.testBit j <;> simp
  obtain ⟨h1, h2⟩ := Go.Lib.lowest_bit 64 (a ^^^ b) hne hx
  generalize hk : Go.Lib.ctz 64 (a ^^^ b) = k at *
  have hbit : ∀ i, ((a ^^^ b) &&& (2 ^ 64 - (a ^^^ b))).testBit i = decide (k = i) := by
    intro i
    rw [h1, Nat.testBit_two_pow]
  have hkk : (a ^^^ b).testBit k = true := by
    have := hbit k
    rw [Nat.testBit_and, decide_eq_true rfl, Bool.and_eq_true] at this
    exact this.1
  have hkj : k = j := by
    by_cases e : k < j
    · have := hl k e
      rw [Nat.testBit_xor, this] at hkk
      simp at hkk
    · by_cases e2 : j < k
      · -- bits below k are no bits of the difference: 2^k divides it
        exfalso
        have hd : (a ^^^ b) % 2 ^ k = 0 := by
          obtain ⟨m, hm, hk2⟩ := Go.Lib.ctzFrom_spec 64 (a ^^^ b) (by omega) hx
          have e3 : Go.Lib.ctz 64 (a ^^^ b) = Go.Lib.ctzFrom 64 (a ^^^ b) := by simp [Go.Lib.ctz, hne]
          rw [← e3, hk] at hm
          rw [hm]
          exact Nat.mul_mod_right _ _
        have hj2 : (a ^^^ b).testBit j = true := by
          rw [Nat.testBit_xor]
          revert hj
          cases a.testBit j <;> cases b.testBit j <;> simp
        have h4 : ((a ^^^ b) % 2 ^ k).testBit j = true := by
          rw [Nat.testBit_mod_two_pow]
          simp [e2, hj2]
        rw [hd] at h4
        simp at h4
      · omega
  refine ⟨hne, ?_⟩
  subst hkj
  unfold cbA
  have e64 : (18446744073709551616 : Nat) = 2 ^ 64 := rfl
  rw [e64, Nat.and_assoc, h1]
  by_cases hb2 : a.testBit k = true
  · rw [hb2, decide_eq_true_eq]
    intro e
    have : (a &&& 2 ^ k).testBit k = false := by rw [e]; simp
    rw [Nat.testBit_and, hb2, Nat.testBit_two_pow] at this
    simp at this
  · have hb2 := Bool.eq_false_iff.2 hb2
    rw [hb2, decide_eq_false_iff_not]
    intro hn
    apply hn
    apply Nat.eq_of_testBit_eq
    intro i
    rw [Nat.testBit_and, Nat.testBit_two_pow]
    by_cases e : k = i
    · subst e
      simp [hb2]
    · simp [e]
theorem same_xor {a b : Nat} (h : a = b) : a ^^^ b = 0 := by rw [h]; exact Nat.xor_self b
theorem cbf_first {A B : List Int} (ha : small A) (hb : small B) {j : Nat} (hj : ((j : Int) ∈ A) ≠ ((j : Int) ∈ B)) (hl : ∀ i : Nat, i < j → ((i : Int) ∈ A ↔ (i : Int) ∈ B)) :
    cbf (lo A) (hi A) (lo B) (hi B) = decide ((j : Int) ∈ A) := by
  have hj128 : j < 128 := by
    by_cases h1 : (j : Int) ∈ A
    · have := ha _ h1; omega
    · by_cases h2 : (j : Int) ∈ B
      · have := hb _ h2; omega
      · exact absurd (propext ⟨fun h => absurd h h1, fun h => absurd h h2⟩) hj
  by_cases h64 : j < 64
  · obtain ⟨h1, h2⟩ := cbA_bit (lo_lt ha) (lo_lt hb) (j := j)
      (by rw [lo_bit A ha, lo_bit B hb]; intro e; apply hj; have e := decide_eq_decide.1 e; simp only [h64, true_and] at e; exact propext e)
      (fun i hi => by rw [lo_bit A ha, lo_bit B hb]; have := hl i hi; simp only [this])
    unfold cbf
    rw [if_pos h1, h2, lo_bit A ha]
    simp [h64]
  · have elo : lo A = lo B := by
      apply Nat.eq_of_testBit_eq
      intro i
      rw [lo_bit A ha, lo_bit B hb]
      by_cases hi : i < 64
      · have := hl i (by omega)
        simp only [this]
      · simp [hi]
    obtain ⟨h1, h2⟩ := cbA_bit (hi_lt ha) (hi_lt hb) (j := j - 64)
      (by rw [hi_bit A ha, hi_bit B hb]; intro e; apply hj; have e := decide_eq_decide.1 e; have e2 : j - 64 + 64 = j := by omega
          rw [e2] at e; exact propext e)
      (fun i hi => by rw [hi_bit A ha, hi_bit B hb]; have := hl (i + 64) (by omega); simp only [this])
    unfold cbf
    rw [if_neg (by rw [same_xor elo]; simp), if_pos h1, h2, hi_bit A ha]
    have e2 : j - 64 + 64 = j := by omega
    rw [e2]
theorem cbf_same {A B : List Int} (ha : small A) (h : ∀ x, x ∈ A ↔ x ∈ B) : cbf (lo A) (hi A) (lo B) (hi B) = false := by
  unfold cbf
  rw [if_neg (by rw [same_xor (lo_congr ha h)]; simp), if_neg (by rw [same_xor (hi_congr ha h)]; simp)]
theorem befL_first : ∀ (A B : List Int), A.length = B.length → A.Pairwise (· < ·) → B.Pairwise (· < ·) →
    (A = B ∧ befL A B = false) ∨ ∃ x, ((x ∈ A) ≠ (x ∈ B)) ∧ (∀ y, y < x → (y ∈ A ↔ y ∈ B)) ∧ befL A B = decide (x ∈ A)
  | [], [], _, _, _ => .inl ⟨rfl, rfl⟩
  | a :: A, b :: B, hl, hA, hB => by
    rw [List.pairwise_cons] at hA hB
    unfold befL
    by_cases e : a = b
    · subst e
      rw [if_neg (by simp)]
      rcases befL_first A B (by simpa using hl) hA.2 hB.2 with ⟨rfl, h⟩ | ⟨x, h1, h2, h3⟩
      · exact .inl ⟨rfl, h⟩
      · have hxa : x ≠ a := by
          rintro rfl
          apply h1
          have n1 : ¬ x ∈ A := fun h => by have := hA.1 x h; omega
          have n2 : ¬ x ∈ B := fun h => by have := hB.1 x h; omega
          simp [n1, n2]
        refine .inr ⟨x, ?_, ?_, ?_⟩
        · simpa [hxa] using h1
        · intro y hy
          rw [List.mem_cons, List.mem_cons, h2 y hy]
        · rw [h3]
          simp [hxa]
    · rw [if_pos e]
      right
      by_cases hlt : a < b
      · refine ⟨a, ?_, ?_, ?_⟩
        · have : ¬ a ∈ b :: B := by
            rw [List.mem_cons]
            rintro (h | h)
            · omega
            · have := hB.1 a h; omega
          simp [this]
        · intro y hy
          constructor
          · intro h
            rcases List.mem_cons.1 h with h | h
            · omega
            · have := hA.1 y h; omega
          · intro h
            rcases List.mem_cons.1 h with h | h
            · omega
            · have := hB.1 y h; omega
        · simp [hlt]
      · have hlt2 : b < a := by omega
        have hn : ¬ b ∈ a :: A := by
          rw [List.mem_cons]
          rintro (h | h)
          · omega
          · have := hA.1 b h; omega
        refine ⟨b, ?_, ?_, ?_⟩
        · simp [hn]
        · intro y hy
          constructor
          · intro h
            rcases List.mem_cons.1 h with h | h
            · omega
            · have := hA.1 y h; omega
          · intro h
            rcases List.mem_cons.1 h with h | h
            · omega
            · have := hB.1 y h; omega
        · rw [decide_eq_false hlt, decide_eq_false hn]
theorem cbf_befL {A B : List Int} (hl : A.length = B.length) (hA : A.Pairwise (· < ·)) (hB : B.Pairwise (· < ·)) (ha : small A) (hb : small B) : cbf (lo A) (hi A) (lo B) (hi B) = befL A B := by
  rcases befL_first A B hl hA hB with ⟨rfl, h⟩ | ⟨x, h1, h2, h3⟩
  · rw [h]
    exact cbf_same ha (fun _ => Iff.rfl)
  · have hx0 : 0 ≤ x := by
      by_cases h4 : x ∈ A
      · exact (ha x h4).1
      · by_cases h5 : x ∈ B
        · exact (hb x h5).1
        · exact absurd (propext ⟨fun h => absurd h h4, fun h => absurd h h5⟩) h1
    obtain ⟨j, rfl⟩ := Int.eq_ofNat_of_zero_le hx0
    rw [h3]
    exact cbf_first ha hb h1 (fun i hi => h2 _ (by omega))
theorem befL_eq {A B : List Int} (hl : A.length = B.length) (hA : A.Pairwise (· < ·)) (hB : B.Pairwise (· < ·)) : (befL A B = false ∧ befL B A = false) ↔ A = B := by
  constructor
  · rintro ⟨h1, h2⟩
    rcases befL_first A B hl hA hB with ⟨h, _⟩ | ⟨x, g1, g2, g3⟩
    · exact h
    · rcases befL_first B A hl.symm hB hA with ⟨h, _⟩ | ⟨y, k1, k2, k3⟩
      · exact h.symm
      · exfalso
        have hxA : ¬ x ∈ A := by rw [h1] at g3; exact of_decide_eq_false g3.symm
        have hxB : x ∈ B := by
          by_cases h : x ∈ B
          · exact h
          · exact absurd (propext ⟨fun h' => absurd h' hxA, fun h' => absurd h' h⟩) g1
        have hyB : ¬ y ∈ B := by rw [h2] at k3; exact of_decide_eq_false k3.symm
        have hyA : y ∈ A := by
          by_cases h : y ∈ A
          · exact h
          · exact absurd (propext ⟨fun h' => absurd h' hyB, fun h' => absurd h' h⟩) k1
        by_cases h : x < y
        · exact hxA ((k2 x h).1 hxB)
        · by_cases h' : y < x
          · exact hyB ((g2 y h').1 hyA)
          · have : x = y := by omega
            subst this
            exact hxA hyA
  · rintro rfl
    rcases befL_first A A rfl hA hA with ⟨_, h⟩ | ⟨x, h1, _, _⟩
    · exact ⟨h, h⟩
    · exact absurd rfl h1
theorem set_eq {A B : List Int} (hA : A.Pairwise (· < ·)) (hB : B.Pairwise (· < ·)) (ha : small A) (hb : small B) : (lo A = lo B ∧ hi A = hi B) ↔ A = B := by
  constructor
  · rintro ⟨h1, h2⟩
    refine asc_ext hA hB (fun y => ?_)
    have key : ∀ j : Nat, ((j : Int) ∈ A ↔ (j : Int) ∈ B) := by
      intro j
      by_cases h : j < 64
      · have e := lo_bit A ha j
        rw [h1, lo_bit B hb j] at e
        have e := decide_eq_decide.1 e
        simp only [h, true_and] at e
        exact e.symm
      · have e := hi_bit A ha (j - 64)
        rw [h2, hi_bit B hb (j - 64)] at e
        have e := decide_eq_decide.1 e
        have e2 : j - 64 + 64 = j := by omega
        rw [e2] at e
        exact e.symm
    constructor
    · intro h
      obtain ⟨j, rfl⟩ := Int.eq_ofNat_of_zero_le (ha y h).1
      exact (key j).1 h
    · intro h
      obtain ⟨j, rfl⟩ := Int.eq_ofNat_of_zero_le (hb y h).1
      exact (key j).2 h
  · rintro rfl
    exact ⟨rfl, rfl⟩
end Go.Proofs.YtnkndaapamenmaaGreat.P
