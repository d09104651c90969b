/- What the law FnCovers needs, part 2: words, walks of functions (each says that a call returns what the plain Lean function beside it says), plain lemmas. -/
import Derived.Test.YtlfipjdjmpdblaaKFnCoversA
import Derived.RowKit
namespace CC
open Go.RowKit
def prd : List Int → Int
  | [] => 1
  | q :: t => q * prd t
def sizeOk (q : Int) : Bool := decide (2 ≤ q) && decide (q ≤ 4)
def isSp (s : List Int) : Bool := decide (1 ≤ s.length) && decide (s.length ≤ 8) && s.all sizeOk && decide (prd s ≤ 1024)
theorem sizeOk_iff (q : Int) : sizeOk q = true ↔ q = 2 ∨ q = 3 ∨ q = 4 := by
  unfold sizeOk
  simp
  omega
def prw (x : Int) (l : List Int) : Int := l.foldl (fun a q => wrap64 (a * q)) x
theorem wrap_id {x : Int} (h0 : -9223372036854775808 ≤ x) (h1 : x ≤ 9223372036854775807) : wrap64 x = x := by
  unfold wrap64
  omega
theorem prd_pos : ∀ l : List Int, l.all sizeOk = true → 1 ≤ prd l
  | [], _ => by simp [prd]
  | q :: t, h => by
    simp only [List.all_cons, Bool.and_eq_true, sizeOk_iff] at h
    have := prd_pos t h.2
    simp only [prd]
    rcases h.1 with rfl | rfl | rfl <;> omega
theorem prw_eq : ∀ (l : List Int) (x : Int), 0 ≤ x → l.length ≤ 8 → x ≤ 4 ^ (8 - l.length) → l.all sizeOk = true → prw x l = x * prd l
  | [], x, _, _, _, _ => by simp [prw, prd]
  | q :: t, x, h0, hl, hx, h => by
    simp only [List.all_cons, Bool.and_eq_true, sizeOk_iff] at h
    simp only [List.length_cons] at hl hx
    have e : 8 - t.length = (8 - (t.length + 1)) + 1 := by omega
    have hx2 : x * q ≤ 4 ^ (8 - t.length) := by
      rw [e, Int.pow_succ]
      rcases h.1 with rfl | rfl | rfl <;> omega
    have hx0 : 0 ≤ x * q := by rcases h.1 with rfl | rfl | rfl <;> omega
    have hb : (4 : Int) ^ (8 - t.length) ≤ 65536 := by
      have : 8 - t.length ≤ 8 := by omega
      generalize 8 - t.length = m at this
      match m, this with
      | 0, _ | 1, _ | 2, _ | 3, _ | 4, _ | 5, _ | 6, _ | 7, _ | 8, _ => decide
    have hw : wrap64 (x * q) = x * q := wrap_id (by omega) (by omega)
    have ih := prw_eq t (x * q) hx0 (by omega) hx2 h.2
    show prw (wrap64 (x * q)) t = _
    rw [hw, ih, prd, Int.mul_assoc]
theorem pow48 {m : Nat} (h : m ≤ 8) : (4 : Int) ^ m ≤ 65536 := by
  match m, h with
  | 0, _ | 1, _ | 2, _ | 3, _ | 4, _ | 5, _ | 6, _ | 7, _ | 8, _ => decide
theorem isSp_iff (s : List Int) : isSp s = true ↔ 1 ≤ s.length ∧ s.length ≤ 8 ∧ s.all sizeOk = true ∧ prd s ≤ 1024 := by
  unfold isSp
  simp [and_assoc]
theorem isSp_len {s : List Int} (h : isSp s = true) : s.length ≤ 8 := ((isSp_iff s).1 h).2.1
theorem isSp_pos {s : List Int} (h : isSp s = true) : 1 ≤ s.length := ((isSp_iff s).1 h).1
theorem isSp_all {s : List Int} (h : isSp s = true) : s.all sizeOk = true := ((isSp_iff s).1 h).2.2.1
theorem isSp_prd {s : List Int} (h : isSp s = true) : prd s ≤ 1024 := ((isSp_iff s).1 h).2.2.2
theorem isSp_prd1 {s : List Int} (h : isSp s = true) : 1 ≤ prd s := prd_pos s (isSp_all h)
theorem prw_one {s : List Int} (hl : s.length ≤ 8) (h : s.all sizeOk = true) : prw 1 s = prd s := by
  rw [prw_eq s 1 (by omega) hl ?_ h, Int.one_mul]
  have : 8 - s.length ≤ 8 := by omega
  generalize 8 - s.length = m at this
  match m, this with
  | 0, _ | 1, _ | 2, _ | 3, _ | 4, _ | 5, _ | 6, _ | 7, _ | 8, _ => decide
end CC
namespace CC
open Go.RowKit
def hor : Int → List Int → List Int → Int
  | a, q :: s, x :: d => hor (a * q + x) s d
  | a, _, _ => a
def wd (s d : List Int) : Int := hor 0 s d
def dgr : List Int → Int → List Int
  | [], _ => []
  | q :: r, w => w % q :: dgr r (w / q)
def dg (s : List Int) (w : Int) : List Int := (dgr s.reverse w).reverse
theorem dgr_length : ∀ (r : List Int) (w : Int), (dgr r w).length = r.length
  | [], _ => rfl
  | q :: r, w => by simp [dgr, dgr_length r]
theorem dg_length (s : List Int) (w : Int) : (dg s w).length = s.length := by simp [dg, dgr_length]
def ham : List Int → List Int → Int
  | x :: a, y :: b => (if x = y then 0 else 1) + ham a b
  | _, _ => 0
def dist (s : List Int) (u w : Int) : Int := ham (dg s u) (dg s w)
def isW (s : List Int) (w : Int) : Bool := decide (0 ≤ w) && decide (w < prd s)
def asc : List Int → Bool
  | a :: b :: t => decide (a < b) && asc (b :: t)
  | _ => true
def isC (s c : List Int) : Bool := c.all (isW s) && asc c
theorem isW_iff (s : List Int) (w : Int) : isW s w = true ↔ 0 ≤ w ∧ w < prd s := by simp [isW]
theorem asc_count : ∀ (c : List Int) (lo hi : Int), asc c = true → (∀ x ∈ c, lo ≤ x ∧ x < hi) → lo ≤ hi → (c.length : Int) ≤ hi - lo
  | [], lo, hi, _, _, h => by simp; omega
  | [a], lo, hi, _, h, _ => by
    have := h a (by simp)
    simp
    omega
  | a :: b :: t, lo, hi, hs, h, _ => by
    simp only [asc, Bool.and_eq_true, decide_eq_true_eq] at hs
    have ha := h a (by simp)
    have hb := h b (by simp)
    have hall : ∀ x ∈ b :: t, a + 1 ≤ x ∧ x < hi := by
      have mono : ∀ (l : List Int) (p : Int), asc (p :: l) = true → ∀ x ∈ l, p < x := by
        intro l
        induction l with
        | nil => intro p _ x hx; cases hx
        | cons y l ih =>
          intro p hp x hx
          simp only [asc, Bool.and_eq_true, decide_eq_true_eq] at hp
          rcases List.mem_cons.1 hx with rfl | hx
          · exact hp.1
          · have := ih y hp.2 x hx
            omega
      intro x hx
      refine ⟨?_, (h x (List.mem_cons_of_mem _ hx)).2⟩
      rcases List.mem_cons.1 hx with rfl | hx'
      · omega
      · have := mono t b hs.2 x hx'
        omega
    have := asc_count (b :: t) (a + 1) hi hs.2 hall (by omega)
    simp only [List.length_cons] at this ⊢
    omega
theorem isC_length {s c : List Int} (hs : isSp s = true) (h : isC s c = true) : (c.length : Int) ≤ prd s := by
  simp only [isC, Bool.and_eq_true, List.all_eq_true, isW_iff] at h
  have := asc_count c 0 (prd s) h.2 (fun x hx => h.1 x hx) (by have := isSp_prd1 hs; omega)
  omega
theorem prd_append : ∀ (a b : List Int), prd (a ++ b) = prd a * prd b
  | [], b => by simp [prd]
  | q :: a, b => by simp [prd, prd_append a b, Int.mul_assoc]
theorem prd_reverse : ∀ (s : List Int), prd s.reverse = prd s
  | [] => rfl
  | q :: s => by
    simp only [List.reverse_cons, prd_append, prd, prd_reverse s]
    rw [Int.mul_one, Int.mul_comm]
end CC
namespace CC
theorem ham_append : ∀ (a b c d : List Int), a.length = b.length → ham (a ++ c) (b ++ d) = ham a b + ham c d
  | [], [], c, d, _ => by simp [ham]
  | x :: a, y :: b, c, d, h => by
    simp only [List.cons_append, ham]
    rw [ham_append a b c d (by simpa using h)]
    omega
  | [], _ :: _, _, _, h => by simp at h
  | _ :: _, [], _, _, h => by simp at h
theorem ham_self : ∀ a : List Int, ham a a = 0
  | [] => rfl
  | x :: a => by simp [ham, ham_self a]
theorem ham_reverse : ∀ (a b : List Int), a.length = b.length → ham a.reverse b.reverse = ham a b
  | [], [], _ => rfl
  | x :: a, y :: b, h => by
    have hl : a.length = b.length := by simpa using h
    simp only [List.reverse_cons, ham]
    rw [ham_append _ _ _ _ (by simpa using hl), ham_reverse a b hl]
    simp [ham]
    omega
  | [], _ :: _, h => by simp at h
  | _ :: _, [], h => by simp at h
theorem ham_comm : ∀ a b : List Int, ham a b = ham b a
  | [], [] => rfl
  | x :: a, y :: b => by
    simp only [ham]
    rw [ham_comm a b]
    by_cases h : x = y
    · simp [h]
    · have : ¬ y = x := fun e => h e.symm
      simp [h, this]
  | [], _ :: _ => rfl
  | _ :: _, [] => rfl
theorem ham_nonneg : ∀ a b : List Int, 0 ≤ ham a b
  | x :: a, y :: b => by
    have := ham_nonneg a b
    simp only [ham]
    by_cases h : x = y
    · simp [h]; omega
    · simp [h]; omega
  | [], [] => by simp [ham]
  | [], _ :: _ => by simp [ham]
  | _ :: _, [] => by simp [ham]
theorem ham_le : ∀ a b : List Int, ham a b ≤ a.length
  | x :: a, y :: b => by
    have := ham_le a b
    simp only [ham, List.length_cons]
    by_cases h : x = y
    · simp [h]; omega
    · simp [h]; omega
  | [], [] => by simp [ham]
  | [], _ :: _ => by simp [ham]
  | _ :: _, [] => by simp [ham]; omega
theorem dist_comm (s : List Int) (u w : Int) : dist s u w = dist s w u := ham_comm _ _
theorem dist_nonneg (s : List Int) (u w : Int) : 0 ≤ dist s u w := ham_nonneg _ _
theorem dist_le (s : List Int) (u w : Int) : dist s u w ≤ s.length := by
  have := ham_le (dg s u) (dg s w)
  rwa [dg_length] at this
end CC
namespace CC
end CC
