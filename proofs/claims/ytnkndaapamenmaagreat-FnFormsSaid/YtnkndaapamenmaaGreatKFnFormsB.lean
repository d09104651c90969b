/- What the law FnForms needs, part 2: words, walks of functions (each says that a call returns what the plain Lean function beside it says), plain lemmas. -/
import Derived.Test.YtnkndaapamenmaaGreatKFnFormsA
import Derived.RowKit
namespace CC
open Go.RowKit
def prd : List Int → Int
  | [] => 1
  | q :: t => q * prd t
def sizeOk (q : Int) : Bool := decide (2 ≤ q) && decide (q ≤ 4)
def isSp (s : List Int) : Bool := decide (1 ≤ s.length) && decide (s.length ≤ 8) && s.all sizeOk && decide (prd s ≤ 1024)
theorem sizeOk_iff (q : Int) : sizeOk q = true ↔ q = 2 ∨ q = 3 ∨ q = 4 := by
  unfold sizeOk
  simp
  omega
def prw (x : Int) (l : List Int) : Int := l.foldl (fun a q => wrap64 (a * q)) x
theorem wrap_id {x : Int} (h0 : -9223372036854775808 ≤ x) (h1 : x ≤ 9223372036854775807) : wrap64 x = x := by
  unfold wrap64
  omega
theorem prd_pos : ∀ l : List Int, l.all sizeOk = true → 1 ≤ prd l
  | [], _ => by simp [prd]
  | q :: t, h => by
    simp only [List.all_cons, Bool.and_eq_true, sizeOk_iff] at h
    have := prd_pos t h.2
    simp only [prd]
    rcases h.1 with rfl | rfl | rfl <;> omega
theorem prw_eq : ∀ (l : List Int) (x : Int), 0 ≤ x → l.length ≤ 8 → x ≤ 4 ^ (8 - l.length) → l.all sizeOk = true → prw x l = x * prd l
  | [], x, _, _, _, _ => by simp [prw, prd]
  | q :: t, x, h0, hl, hx, h => by
    simp only [List.all_cons, Bool.and_eq_true, sizeOk_iff] at h
    simp only [List.length_cons] at hl hx
    have e : 8 - t.length = (8 - (t.length + 1)) + 1 := by omega
    have hx2 : x * q ≤ 4 ^ (8 - t.length) := by
      rw [e, Int.pow_succ]
      rcases h.1 with rfl | rfl | rfl <;> omega
    have hx0 : 0 ≤ x * q := by rcases h.1 with rfl | rfl | rfl <;> omega
    have hb : (4 : Int) ^ (8 - t.length) ≤ 65536 := by
      have : 8 - t.length ≤ 8 := by omega
      generalize 8 - t.length = m at this
      match m, this with
      | 0, _ | 1, _ | 2, _ | 3, _ | 4, _ | 5, _ | 6, _ | 7, _ | 8, _ => decide
    have hw : wrap64 (x * q) = x * q := wrap_id (by omega) (by omega)
    have ih := prw_eq t (x * q) hx0 (by omega) hx2 h.2
    show prw (wrap64 (x * q)) t = _
    rw [hw, ih, prd, Int.mul_assoc]
theorem pow48 {m : Nat} (h : m ≤ 8) : (4 : Int) ^ m ≤ 65536 := by
  match m, h with
  | 0, _ | 1, _ | 2, _ | 3, _ | 4, _ | 5, _ | 6, _ | 7, _ | 8, _ => decide
theorem isSp_iff (s : List Int) : isSp s = true ↔ 1 ≤ s.length ∧ s.length ≤ 8 ∧ s.all sizeOk = true ∧ prd s ≤ 1024 := by
  unfold isSp
  simp [and_assoc]
theorem isSp_len {s : List Int} (h : isSp s = true) : s.length ≤ 8 := ((isSp_iff s).1 h).2.1
theorem isSp_pos {s : List Int} (h : isSp s = true) : 1 ≤ s.length := ((isSp_iff s).1 h).1
theorem isSp_all {s : List Int} (h : isSp s = true) : s.all sizeOk = true := ((isSp_iff s).1 h).2.2.1
theorem isSp_prd {s : List Int} (h : isSp s = true) : prd s ≤ 1024 := ((isSp_iff s).1 h).2.2.2
theorem isSp_prd1 {s : List Int} (h : isSp s = true) : 1 ≤ prd s := prd_pos s (isSp_all h)
theorem prw_one {s : List Int} (hl : s.length ≤ 8) (h : s.all sizeOk = true) : prw 1 s = prd s := by
  rw [prw_eq s 1 (by omega) hl ?_ h, Int.one_mul]
  have : 8 - s.length ≤ 8 := by omega
  generalize 8 - s.length = m at this
  match m, this with
  | 0, _ | 1, _ | 2, _ | 3, _ | 4, _ | 5, _ | 6, _ | 7, _ | 8, _ => decide
end CC
namespace CC
open Go.RowKit
def hor : Int → List Int → List Int → Int
  | a, q :: s, x :: d => hor (a * q + x) s d
  | a, _, _ => a
def inR : List Int → List Int → Bool
  | q :: s, x :: d => decide (0 ≤ x) && decide (x < q) && inR s d
  | _, _ => true
def wd (s d : List Int) : Int := hor 0 s d
def dgr : List Int → Int → List Int
  | [], _ => []
  | q :: r, w => w % q :: dgr r (w / q)
def dg (s : List Int) (w : Int) : List Int := (dgr s.reverse w).reverse
theorem dgr_length : ∀ (r : List Int) (w : Int), (dgr r w).length = r.length
  | [], _ => rfl
  | q :: r, w => by simp [dgr, dgr_length r]
theorem dg_length (s : List Int) (w : Int) : (dg s w).length = s.length := by simp [dg, dgr_length]
def ham : List Int → List Int → Int
  | x :: a, y :: b => (if x = y then 0 else 1) + ham a b
  | _, _ => 0
def dist (s : List Int) (u w : Int) : Int := ham (dg s u) (dg s w)
def isW (s : List Int) (w : Int) : Bool := decide (0 ≤ w) && decide (w < prd s)
def asc : List Int → Bool
  | a :: b :: t => decide (a < b) && asc (b :: t)
  | _ => true
def isC (s c : List Int) : Bool := c.all (isW s) && asc c
theorem isW_iff (s : List Int) (w : Int) : isW s w = true ↔ 0 ≤ w ∧ w < prd s := by simp [isW]
theorem asc_count : ∀ (c : List Int) (lo hi : Int), asc c = true → (∀ x ∈ c, lo ≤ x ∧ x < hi) → lo ≤ hi → (c.length : Int) ≤ hi - lo
  | [], lo, hi, _, _, h => by simp; omega
  | [a], lo, hi, _, h, _ => by
    have := h a (by simp)
    simp
    omega
  | a :: b :: t, lo, hi, hs, h, _ => by
    simp only [asc, Bool.and_eq_true, decide_eq_true_eq] at hs
    have ha := h a (by simp)
    have hb := h b (by simp)
    have hall : ∀ x ∈ b :: t, a + 1 ≤ x ∧ x < hi := by
      have mono : ∀ (l : List Int) (p : Int), asc (p :: l) = true → ∀ x ∈ l, p < x := by
        intro l
        induction l with
        | nil => intro p _ x hx; cases hx
        | cons y l ih =>
          intro p hp x hx
          simp only [asc, Bool.and_eq_true, decide_eq_true_eq] at hp
          rcases List.mem_cons.1 hx with rfl | hx
          · exact hp.1
          · have := ih y hp.2 x hx
            omega
      intro x hx
      refine ⟨?_, (h x (List.mem_cons_of_mem _ hx)).2⟩
      rcases List.mem_cons.1 hx with rfl | hx'
      · omega
      · have := mono t b hs.2 x hx'
        omega
    have := asc_count (b :: t) (a + 1) hi hs.2 hall (by omega)
    simp only [List.length_cons] at this ⊢
    omega
theorem isC_length {s c : List Int} (hs : isSp s = true) (h : isC s c = true) : (c.length : Int) ≤ prd s := by
  simp only [isC, Bool.and_eq_true, List.all_eq_true, isW_iff] at h
  have := asc_count c 0 (prd s) h.2 (fun x hx => h.1 x hx) (by have := isSp_prd1 hs; omega)
  omega
theorem hor_append : ∀ (s d s' d' : List Int) (a : Int), s.length = d.length → hor a (s ++ s') (d ++ d') = hor (hor a s d) s' d'
  | [], [], s', d', a, _ => by simp [hor]
  | q :: s, x :: d, s', d', a, h => by
    simp only [List.cons_append, hor]
    exact hor_append s d s' d' (a * q + x) (by simpa using h)
  | [], _ :: _, _, _, _, h => by simp at h
  | _ :: _, [], _, _, _, h => by simp at h
theorem wd_dgr : ∀ (r : List Int) (w : Int), r.all sizeOk = true → 0 ≤ w → w < prd r → hor 0 r.reverse (dgr r w).reverse = w
  | [], w, _, h0, h1 => by
    simp only [prd] at h1
    simp [hor, dgr]
    omega
  | q :: r, w, h, h0, h1 => by
    simp only [List.all_cons, Bool.and_eq_true] at h
    have hq := (sizeOk_iff q).1 h.1
    simp only [dgr, List.reverse_cons]
    rw [hor_append _ _ _ _ _ (by simp [dgr_length])]
    have hb : w / q < prd r := by
      simp only [prd] at h1
      rw [Int.mul_comm] at h1
      exact Int.ediv_lt_of_lt_mul (by omega) h1
    rw [wd_dgr r (w / q) h.2 (Int.ediv_nonneg h0 (by omega)) hb]
    simp only [hor]
    have := Int.mul_ediv_add_emod w q
    rw [Int.mul_comm]
    omega
theorem prd_append : ∀ (a b : List Int), prd (a ++ b) = prd a * prd b
  | [], b => by simp [prd]
  | q :: a, b => by simp [prd, prd_append a b, Int.mul_assoc]
theorem prd_reverse : ∀ (s : List Int), prd s.reverse = prd s
  | [] => rfl
  | q :: s => by
    simp only [List.reverse_cons, prd_append, prd, prd_reverse s]
    rw [Int.mul_one, Int.mul_comm]
theorem wd_dg {s : List Int} (hs : s.all sizeOk = true) {w : Int} (h0 : 0 ≤ w) (h1 : w < prd s) : wd s (dg s w) = w := by
  have := wd_dgr s.reverse w (by simpa using hs) h0 (by rwa [prd_reverse])
  rw [List.reverse_reverse] at this
  exact this
end CC
namespace CC
theorem ham_append : ∀ (a b c d : List Int), a.length = b.length → ham (a ++ c) (b ++ d) = ham a b + ham c d
  | [], [], c, d, _ => by simp [ham]
  | x :: a, y :: b, c, d, h => by
    simp only [List.cons_append, ham]
    rw [ham_append a b c d (by simpa using h)]
    omega
  | [], _ :: _, _, _, h => by simp at h
  | _ :: _, [], _, _, h => by simp at h
theorem ham_self : ∀ a : List Int, ham a a = 0
  | [] => rfl
  | x :: a => by simp [ham, ham_self a]
theorem ham_nonneg : ∀ a b : List Int, 0 ≤ ham a b
  | x :: a, y :: b => by
    have := ham_nonneg a b
    simp only [ham]
    by_cases h : x = y
    · simp [h]; omega
    · simp [h]; omega
  | [], [] => by simp [ham]
  | [], _ :: _ => by simp [ham]
  | _ :: _, [] => by simp [ham]
theorem ham_le : ∀ a b : List Int, ham a b ≤ a.length
  | x :: a, y :: b => by
    have := ham_le a b
    simp only [ham, List.length_cons]
    by_cases h : x = y
    · simp [h]; omega
    · simp [h]; omega
  | [], [] => by simp [ham]
  | [], _ :: _ => by simp [ham]
  | _ :: _, [] => by simp [ham]; omega
theorem dist_nonneg (s : List Int) (u w : Int) : 0 ≤ dist s u w := ham_nonneg _ _
theorem dist_le (s : List Int) (u w : Int) : dist s u w ≤ s.length := by
  have := ham_le (dg s u) (dg s w)
  rwa [dg_length] at this
end CC
namespace CC
theorem inR_append : ∀ (a b c d : List Int), a.length = c.length → inR (a ++ b) (c ++ d) = (inR a c && inR b d)
  | [], b, [], d, _ => by simp [inR]
  | q :: a, b, x :: c, d, h => by
    simp only [List.cons_append, inR]
    rw [inR_append a b c d (by simpa using h)]
    simp only [Bool.and_assoc]
  | [], _, _ :: _, _, h => by simp at h
  | _ :: _, _, [], _, h => by simp at h
theorem inR_reverse : ∀ (a c : List Int), a.length = c.length → inR a.reverse c.reverse = inR a c
  | [], [], _ => rfl
  | q :: a, x :: c, h => by
    have hl : a.length = c.length := by simpa using h
    simp only [List.reverse_cons]
    rw [inR_append _ _ _ _ (by simpa using hl), inR_reverse a c hl]
    simp only [inR, Bool.and_true]
    exact Bool.and_comm _ _
  | [], _ :: _, h => by simp at h
  | _ :: _, [], h => by simp at h
theorem inR_dgr : ∀ (r : List Int) (w : Int), r.all sizeOk = true → inR r (dgr r w) = true
  | [], w, _ => rfl
  | q :: r, w, h => by
    simp only [List.all_cons, Bool.and_eq_true] at h
    have hq := (sizeOk_iff q).1 h.1
    have a := Int.emod_nonneg w (show q ≠ 0 by omega)
    have b := Int.emod_lt_of_pos w (show 0 < q by omega)
    simp [dgr, inR, a, b, inR_dgr r (w / q) h.2]
theorem inR_dg {s : List Int} (hs : s.all sizeOk = true) (w : Int) : inR s (dg s w) = true := by
  have := inR_dgr s.reverse w (by simpa using hs)
  rw [← inR_reverse _ _ (by rw [dgr_length]), List.reverse_reverse] at this
  exact this
theorem inR_pad {s d z : List Int} (hl : d.length = s.length) (h : inR s d = true) : inR s (d ++ z) = true := by
  have := inR_append s [] d z hl.symm
  rw [List.append_nil, h] at this
  simpa [inR] using this
theorem hor_pad {s d z : List Int} (hl : d.length = s.length) (a : Int) : hor a s (d ++ z) = hor a s d := by
  have := hor_append s d [] z a hl.symm
  rw [List.append_nil] at this
  simpa [hor] using this
theorem hor_bound : ∀ (s d : List Int) (a : Int), s.all sizeOk = true → s.length = d.length → inR s d = true → 0 ≤ a → 0 ≤ hor a s d ∧ hor a s d < (a + 1) * prd s
  | [], [], a, _, _, _, h0 => by simp [hor, prd]; omega
  | q :: s, x :: d, a, hs, hl, hr, h0 => by
    simp only [List.all_cons, Bool.and_eq_true] at hs
    simp only [inR, Bool.and_eq_true, decide_eq_true_eq] at hr
    have hq := (sizeOk_iff q).1 hs.1
    have hp := prd_pos s hs.2
    have h1 : 0 ≤ a * q + x := by rcases hq with rfl | rfl | rfl <;> omega
    have h2 : a * q + x + 1 ≤ (a + 1) * q := by rcases hq with rfl | rfl | rfl <;> omega
    have ih := hor_bound s d (a * q + x) hs.2 (by simpa using hl) hr.2 h1
    refine ⟨ih.1, Int.lt_of_lt_of_le ih.2 ?_⟩
    rw [prd, ← Int.mul_assoc]
    exact Int.mul_le_mul_of_nonneg_right h2 (by omega)
  | [], _ :: _, _, _, h, _, _ => by simp at h
  | _ :: _, [], _, _, h, _, _ => by simp at h
theorem wd_word {s d : List Int} (hs : s.all sizeOk = true) (hl : s.length = d.length) (hr : inR s d = true) : isW s (wd s d) = true := by
  have := hor_bound s d 0 hs hl hr (by omega)
  rw [isW_iff]
  simpa [wd] using this
end CC
