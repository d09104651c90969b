/- How many words a ball has: the reference's product of counts is the ball's length. -/
import Derived.Test.YtbhgnphdhkmliaaQBall0
import Derived.Test.YtbhgnphdhkmliaaFspecl01Size
set_option linter.unusedVariables false
set_option linter.unusedSimpArgs false
namespace Go.Proofs.Ytbhgnphdhkmliaa.Q
open Go.RowKit Go.Proofs.Ytbhgnphdhkmliaa.P Go.Proofs.YtbhgnphdhkmliaaW.PrintWords CC

/-- How many words have so many digits that are not nought (the last size first). -/
def Wc : List Int → Nat → Int
  | [], 0 => 1
  | [], _ + 1 => 0
  | _ :: rs, 0 => Wc rs 0
  | q :: rs, k + 1 => Wc rs (k + 1) + Wc rs k * (q - 1)
theorem Wc_bound : ∀ (rs : List Int) (k : Nat), rs.all sizeOk = true → 0 ≤ Wc rs k ∧ Wc rs k ≤ 4 ^ rs.length
  | [], 0, _ => by simp [Wc]
  | [], k + 1, _ => by simp [Wc]
  | q :: rs, 0, h => by
    simp only [List.all_cons, Bool.and_eq_true] at h
    have := Wc_bound rs 0 h.2
    simp only [Wc, List.length_cons, Int.pow_succ]
    omega
  | q :: rs, k + 1, h => by
    simp only [List.all_cons, Bool.and_eq_true] at h
    have h1 := Wc_bound rs (k + 1) h.2
    have h2 := Wc_bound rs k h.2
    simp only [Wc, List.length_cons, Int.pow_succ]
    rcases (sizeOk_iff q).1 h.1 with rfl | rfl | rfl <;> omega
theorem Wc_far : ∀ (rs : List Int) (k : Nat), rs.length < k → Wc rs k = 0
  | [], 0, h => by simp at h
  | [], k + 1, _ => rfl
  | q :: rs, 0, h => by simp at h
  | q :: rs, k + 1, h => by
    simp only [List.length_cons] at h
    rw [Wc, Wc_far rs (k + 1) (by omega), Wc_far rs k (by omega)]
    omega

/-- How many digits of a number are not nought. -/
def wt (rs : List Int) (u : Int) : Int := ham (dgr rs 0) (dgr rs u)
theorem wt_nil (u : Int) : wt [] u = 0 := rfl
theorem wt_cons (q : Int) (rs : List Int) (u : Int) : wt (q :: rs) u = (if 0 = u % q then 0 else 1) + wt rs (u / q) := by
  simp only [wt, dgr, ham, Int.zero_emod, Int.zero_ediv]
theorem wt_nonneg (rs : List Int) (u : Int) : 0 ≤ wt rs u := ham_nonneg _ _
theorem wt_le (rs : List Int) (u : Int) : wt rs u ≤ rs.length := by
  have := ham_le (dgr rs 0) (dgr rs u)
  rw [dgr_length] at this
  exact this
theorem dist_wt (s : List Int) (u : Int) : dist s 0 u = wt s.reverse u := by
  unfold dist dg wt
  rw [ham_reverse _ _ (by rw [dgr_length, dgr_length])]

def cN (p : Nat → Bool) (n : Nat) : Nat := (List.range n).countP p
theorem cN_succ (p : Nat → Bool) (n : Nat) : cN p (n + 1) = cN p n + if p n then 1 else 0 := by
  unfold cN
  rw [List.range_succ, List.countP_append]
  simp [List.countP_cons]
theorem cN_congr {p r : Nat → Bool} {n : Nat} (h : ∀ i, i < n → p i = r i) : cN p n = cN r n := by
  unfold cN
  apply List.countP_congr
  intro i hi
  rw [h i (List.mem_range.1 hi)]
theorem cN_two (p : Nat → Bool) : ∀ n, cN p (2 * n) = cN (fun v => p (2 * v)) n + cN (fun v => p (2 * v + 1)) n
  | 0 => rfl
  | n + 1 => by
    rw [show 2 * (n + 1) = 2 * n + 1 + 1 by omega, cN_succ, cN_succ, cN_two p n, cN_succ, cN_succ]
    omega
theorem cN_three (p : Nat → Bool) : ∀ n, cN p (3 * n) = cN (fun v => p (3 * v)) n + cN (fun v => p (3 * v + 1)) n + cN (fun v => p (3 * v + 2)) n
  | 0 => rfl
  | n + 1 => by
    rw [show 3 * (n + 1) = 3 * n + 1 + 1 + 1 by omega, cN_succ, cN_succ, cN_succ, cN_three p n, cN_succ, cN_succ, cN_succ]
    omega
theorem cN_four (p : Nat → Bool) : ∀ n, cN p (4 * n) = cN (fun v => p (4 * v)) n + cN (fun v => p (4 * v + 1)) n + cN (fun v => p (4 * v + 2)) n + cN (fun v => p (4 * v + 3)) n
  | 0 => rfl
  | n + 1 => by
    rw [show 4 * (n + 1) = 4 * n + 1 + 1 + 1 + 1 by omega, cN_succ, cN_succ, cN_succ, cN_succ, cN_four p n, cN_succ, cN_succ, cN_succ, cN_succ]
    omega
theorem cN_false (n : Nat) : cN (fun _ => false) n = 0 := by simp [cN]

/-- The words of weight k. -/
def cw (rs : List Int) (k : Nat) : Nat := cN (fun u => decide (wt rs (u : Int) = (k : Int))) (prd rs).toNat
theorem dig0 (q : Int) (rs : List Int) (v : Nat) (hq : 0 < q) : wt (q :: rs) (q * v) = wt rs v := by
  rw [wt_cons, Int.mul_emod_right, if_pos rfl, Int.mul_ediv_cancel_left _ (by omega)]
  omega
theorem dig1 (q : Int) (rs : List Int) (v : Nat) (d : Int) (hd : 1 ≤ d) (hq : d < q) : wt (q :: rs) (q * v + d) = 1 + wt rs v := by
  have h1 : (q * (v : Int) + d) % q = d := by
    rw [Int.add_comm, Int.add_mul_emod_self_left]
    exact Int.emod_eq_of_lt (by omega) hq
  have h2 : (q * (v : Int) + d) / q = v := by
    rw [Int.add_comm, Int.add_mul_ediv_left _ _ (by omega), Int.ediv_eq_zero_of_lt (by omega) hq]
    omega
  rw [wt_cons, h1, h2, if_neg (by omega)]
theorem cw_Wc : ∀ (rs : List Int) (k : Nat), rs.all sizeOk = true → (cw rs k : Int) = Wc rs k
  | [], 0, _ => by decide
  | [], k + 1, _ => by
    have : cw [] (k + 1) = 0 := by
      unfold cw
      rw [cN_congr (r := fun _ => false) (fun i _ => decide_eq_false (by rw [wt_nil]; omega)), cN_false]
    rw [this]
    rfl
  | q :: rs, 0, h => by
    simp only [List.all_cons, Bool.and_eq_true] at h
    rw [Wc, ← cw_Wc rs 0 h.2]
    have hp := prd_pos rs h.2
    have e1 : ∀ (v : Nat) (d : Int), 1 ≤ d → d < q → decide (wt (q :: rs) (q * v + d) = ((0 : Nat) : Int)) = false := fun v d h1 h2 => by
      rw [dig1 q rs v d h1 h2]
      have := wt_nonneg rs v
      simp
      omega
    have e0 : ∀ (v : Nat), decide (wt (q :: rs) (q * v) = ((0 : Nat) : Int)) = decide (wt rs v = ((0 : Nat) : Int)) := fun v => by
      rw [dig0 q rs v (by have := (sizeOk_iff q).1 h.1; omega)]
    unfold cw
    rcases (sizeOk_iff q).1 h.1 with rfl | rfl | rfl
    · rw [prd, show (2 * prd rs).toNat = 2 * (prd rs).toNat by omega, cN_two]
      rw [cN_congr (p := fun v => decide (wt (2 :: rs) ((2 * v : Nat) : Int) = ((0 : Nat) : Int))) (r := fun u => decide (wt rs (u : Int) = ((0 : Nat) : Int))) (fun i _ => by simpa using e0 i), cN_congr (p := fun v => decide (wt (2 :: rs) ((2 * v + 1 : Nat) : Int) = ((0 : Nat) : Int))) (r := fun _ => false) (fun i _ => by simpa using e1 i 1 (by omega) (by omega)), cN_false]
      omega
    · rw [prd, show (3 * prd rs).toNat = 3 * (prd rs).toNat by omega, cN_three]
      rw [cN_congr (p := fun v => decide (wt (3 :: rs) ((3 * v : Nat) : Int) = ((0 : Nat) : Int))) (r := fun u => decide (wt rs (u : Int) = ((0 : Nat) : Int))) (fun i _ => by simpa using e0 i), cN_congr (p := fun v => decide (wt (3 :: rs) ((3 * v + 1 : Nat) : Int) = ((0 : Nat) : Int))) (r := fun _ => false) (fun i _ => by simpa using e1 i 1 (by omega) (by omega)), cN_congr (p := fun v => decide (wt (3 :: rs) ((3 * v + 2 : Nat) : Int) = ((0 : Nat) : Int))) (r := fun _ => false) (fun i _ => by simpa using e1 i 2 (by omega) (by omega)), cN_false]
      omega
    · rw [prd, show (4 * prd rs).toNat = 4 * (prd rs).toNat by omega, cN_four]
      rw [cN_congr (p := fun v => decide (wt (4 :: rs) ((4 * v : Nat) : Int) = ((0 : Nat) : Int))) (r := fun u => decide (wt rs (u : Int) = ((0 : Nat) : Int))) (fun i _ => by simpa using e0 i), cN_congr (p := fun v => decide (wt (4 :: rs) ((4 * v + 1 : Nat) : Int) = ((0 : Nat) : Int))) (r := fun _ => false) (fun i _ => by simpa using e1 i 1 (by omega) (by omega)), cN_congr (p := fun v => decide (wt (4 :: rs) ((4 * v + 2 : Nat) : Int) = ((0 : Nat) : Int))) (r := fun _ => false) (fun i _ => by simpa using e1 i 2 (by omega) (by omega)), cN_congr (p := fun v => decide (wt (4 :: rs) ((4 * v + 3 : Nat) : Int) = ((0 : Nat) : Int))) (r := fun _ => false) (fun i _ => by simpa using e1 i 3 (by omega) (by omega)), cN_false]
      omega
  | q :: rs, k + 1, h => by
    simp only [List.all_cons, Bool.and_eq_true] at h
    rw [Wc, ← cw_Wc rs (k + 1) h.2, ← cw_Wc rs k h.2]
    have hp := prd_pos rs h.2
    have e1 : ∀ (v : Nat) (d : Int), 1 ≤ d → d < q → decide (wt (q :: rs) (q * v + d) = ((k + 1 : Nat) : Int)) = decide (wt rs v = (k : Int)) := fun v d h1 h2 => by
      rw [dig1 q rs v d h1 h2, decide_eq_decide]
      omega
    have e0 : ∀ (v : Nat), decide (wt (q :: rs) (q * v) = ((k + 1 : Nat) : Int)) = decide (wt rs v = ((k + 1 : Nat) : Int)) := fun v => by
      rw [dig0 q rs v (by have := (sizeOk_iff q).1 h.1; omega)]
    unfold cw
    rcases (sizeOk_iff q).1 h.1 with rfl | rfl | rfl
    · rw [prd, show (2 * prd rs).toNat = 2 * (prd rs).toNat by omega, cN_two]
      rw [cN_congr (p := fun v => decide (wt (2 :: rs) ((2 * v : Nat) : Int) = ((k + 1 : Nat) : Int))) (r := fun u => decide (wt rs (u : Int) = ((k + 1 : Nat) : Int))) (fun i _ => by simpa using e0 i), cN_congr (p := fun v => decide (wt (2 :: rs) ((2 * v + 1 : Nat) : Int) = ((k + 1 : Nat) : Int))) (r := fun u => decide (wt rs (u : Int) = (k : Int))) (fun i _ => by simpa using e1 i 1 (by omega) (by omega))]
      omega
    · rw [prd, show (3 * prd rs).toNat = 3 * (prd rs).toNat by omega, cN_three]
      rw [cN_congr (p := fun v => decide (wt (3 :: rs) ((3 * v : Nat) : Int) = ((k + 1 : Nat) : Int))) (r := fun u => decide (wt rs (u : Int) = ((k + 1 : Nat) : Int))) (fun i _ => by simpa using e0 i), cN_congr (p := fun v => decide (wt (3 :: rs) ((3 * v + 1 : Nat) : Int) = ((k + 1 : Nat) : Int))) (r := fun u => decide (wt rs (u : Int) = (k : Int))) (fun i _ => by simpa using e1 i 1 (by omega) (by omega)), cN_congr (p := fun v => decide (wt (3 :: rs) ((3 * v + 2 : Nat) : Int) = ((k + 1 : Nat) : Int))) (r := fun u => decide (wt rs (u : Int) = (k : Int))) (fun i _ => by simpa using e1 i 2 (by omega) (by omega))]
      omega
    · rw [prd, show (4 * prd rs).toNat = 4 * (prd rs).toNat by omega, cN_four]
      rw [cN_congr (p := fun v => decide (wt (4 :: rs) ((4 * v : Nat) : Int) = ((k + 1 : Nat) : Int))) (r := fun u => decide (wt rs (u : Int) = ((k + 1 : Nat) : Int))) (fun i _ => by simpa using e0 i), cN_congr (p := fun v => decide (wt (4 :: rs) ((4 * v + 1 : Nat) : Int) = ((k + 1 : Nat) : Int))) (r := fun u => decide (wt rs (u : Int) = (k : Int))) (fun i _ => by simpa using e1 i 1 (by omega) (by omega)), cN_congr (p := fun v => decide (wt (4 :: rs) ((4 * v + 2 : Nat) : Int) = ((k + 1 : Nat) : Int))) (r := fun u => decide (wt rs (u : Int) = (k : Int))) (fun i _ => by simpa using e1 i 2 (by omega) (by omega)), cN_congr (p := fun v => decide (wt (4 :: rs) ((4 * v + 3 : Nat) : Int) = ((k + 1 : Nat) : Int))) (r := fun u => decide (wt rs (u : Int) = (k : Int))) (fun i _ => by simpa using e1 i 3 (by omega) (by omega))]
      omega

/-- Words lighter than n. -/
def cl (rs : List Int) (n : Int) : Nat := cN (fun u => decide (wt rs (u : Int) < n)) (prd rs).toNat
theorem cl_succ (rs : List Int) (n : Nat) : cl rs ((n + 1 : Nat) : Int) = cl rs (n : Int) + cw rs n := by
  unfold cl cw
  generalize (prd rs).toNat = N
  induction N with
  | zero => rfl
  | succ m ih =>
    rw [cN_succ, cN_succ, cN_succ, ih]
    simp only [decide_eq_true_eq]
    by_cases h1 : wt rs (m : Int) < (n : Int)
    · have h2 : ¬ wt rs (m : Int) = (n : Int) := by omega
      have h3 : wt rs (m : Int) < ((n + 1 : Nat) : Int) := by omega
      rw [if_pos h1, if_neg h2, if_pos h3]
      omega
    · by_cases h2 : wt rs (m : Int) = (n : Int)
      · have h3 : wt rs (m : Int) < ((n + 1 : Nat) : Int) := by omega
        rw [if_neg h1, if_pos h2, if_pos h3]
        omega
      · have h3 : ¬ wt rs (m : Int) < ((n + 1 : Nat) : Int) := by omega
        rw [if_neg h1, if_neg h2, if_neg h3]
        omega
theorem ball_cl {s : List Int} (hs : isSp s = true) (r : Int) : (ballL s 0 r).length = cl s.reverse (r + 1) := by
  unfold ballL selL cl cN NW
  rw [List.length_map, prd_reverse, List.countP_eq_length_filter]
  congr 1
  apply List.filter_congr
  intro i _
  show decide (dist s 0 (i : Int) ≤ r) = decide (wt s.reverse (i : Int) < r + 1)
  rw [dist_wt, decide_eq_decide]
  omega
theorem cl_far {rs : List Int} {m r : Int} (hm : (rs.length : Int) < m) (hr : (rs.length : Int) < r) : cl rs m = cl rs r := by
  unfold cl
  apply cN_congr
  intro i _
  have := wt_le rs (i : Int)
  rw [decide_eq_decide]
  omega
theorem cl_zero (rs : List Int) : cl rs 0 = 0 := by
  unfold cl
  rw [cN_congr (r := fun _ => false) (fun i _ => ?_), cN_false]
  have := wt_nonneg rs (i : Int)
  simp
  omega

/-- A list told by a function. -/
def fL (f : Nat → Int) (n : Nat) : List Int := (List.range n).map f
theorem fL_length (f : Nat → Int) (n : Nat) : (fL f n).length = n := by simp [fL]
theorem fL_rd (f : Nat → Int) {n k : Nat} (h : k < n) : rd (fL f n) (k : Int) = f k := by
  simp [rd, fL, List.getD_eq_getElem?_getD, h]
theorem fL_set (f : Nat → Int) (n k : Nat) (v : Int) : (fL f n).set k v = fL (fun j => if j = k then v else f j) n := by
  apply List.ext_getElem (by simp [fL])
  intro j h1 h2
  simp only [fL, List.getElem_set, List.getElem_map, List.getElem_range]
  by_cases h : k = j
  · rw [if_pos h, if_pos h.symm]
  · rw [if_neg h, if_neg (fun e => h e.symm)]
theorem fL_congr {f g : Nat → Int} {n : Nat} (h : ∀ j, j < n → f j = g j) : fL f n = fL g n := by
  unfold fL
  apply List.map_congr_left
  intro j hj
  exact h j (List.mem_range.1 hj)
/-- The counts while one more size is taken in: above j the new ones, below the old. -/
def mid (q : Int) (rs : List Int) (j k : Nat) : Int := if j < k then Wc (q :: rs) k else Wc rs k
theorem all_take {s : List Int} (h : s.all sizeOk = true) (n : Nat) : (s.take n).reverse.all sizeOk = true := by
  rw [List.all_reverse, List.all_eq_true]
  intro x hx
  exact List.all_eq_true.1 h x (List.mem_of_mem_take hx)
theorem Wc_small {s : List Int} (h : s.all sizeOk = true) {n : Nat} (hn : n ≤ 8) (k : Nat) : 0 ≤ Wc (s.take n).reverse k ∧ Wc (s.take n).reverse k ≤ 65536 := by
  have h1 := Wc_bound (s.take n).reverse k (all_take h n)
  have h2 : (s.take n).reverse.length ≤ n := by
    rw [List.length_reverse]
    exact List.length_take_le _ _
  have h3 := pow48 (m := (s.take n).reverse.length) (by omega)
  omega
theorem l01Size_in {s : List Int} (hs : s.all sizeOk = true) (hl : s.length ≤ 8) (r R : Int) {i : Nat} (hi : i < s.length) : ∀ (j : Nat), j ≤ i + 1 →
    Ev (fun k => spec_l01Size.l0 k r (fL (mid (rd s (i : Int)) (s.take i).reverse 0) (s.length + 1)) ((i + 1 : Nat) : Int) s) R →
    Ev (fun k => spec_l01Size.l1 k r (fL (mid (rd s (i : Int)) (s.take i).reverse j) (s.length + 1)) (i : Int) (j : Int) s) R
  | 0, _, hev => by
    refine Ev.step (fun k => by simp only [spec_l01Size.l1]; exact rfl) ?_
    refine Ev.iff_neg (by omega) ?_
    rw [wrap_nat (by unfold maxLen; omega)]
    exact hev
  | j + 1, hj, hev => by
    refine Ev.step (fun k => by simp only [spec_l01Size.l1]; exact rfl) ?_
    have e1 : wrap64 (((j + 1 : Nat) : Int) - 1) = (j : Int) := by
      rw [wrap_id (by omega) (by omega)]
      omega
    have hq := all_rd hs hi
    have w0 := Wc_small hs (n := i) (by omega) j
    have w1 := Wc_small hs (n := i) (by omega) (j + 1)
    rw [e1]
    refine Ev.iff_pos (by omega) ?_
    refine Ev.iff_pos (by omega) ?_
    refine Ev.iff_pos (by rw [fL_length]; omega) ?_
    refine Ev.iff_pos (by omega) ?_
    refine Ev.iff_pos (by rw [fL_length]; omega) ?_
    refine Ev.iff_pos (by omega) ?_
    refine Ev.iff_pos (by omega) ?_
    rw [fL_rd _ (by omega), fL_rd _ (by omega), Int.toNat_natCast, fL_set]
    have e2 : wrap64 (mid (rd s (i : Int)) (s.take i).reverse (j + 1) (j + 1) + wrap64 (mid (rd s (i : Int)) (s.take i).reverse (j + 1) j * wrap64 (rd s (i : Int) - 1))) = Wc (rd s (i : Int) :: (s.take i).reverse) (j + 1) := by
      unfold mid
      rw [if_neg (by omega), if_neg (by omega), Wc, wrap_id (x := rd s (i : Int) - 1) (by omega) (by omega)]
      rcases hq with e | e | e <;> rw [e] <;> rw [wrap_id (x := _ * _) (by omega) (by omega), wrap_id (by omega) (by omega)]
    rw [e2]
    have e3 : fL (fun k => if k = j + 1 then Wc (rd s (i : Int) :: (s.take i).reverse) (j + 1) else mid (rd s (i : Int)) (s.take i).reverse (j + 1) k) (s.length + 1) = fL (mid (rd s (i : Int)) (s.take i).reverse j) (s.length + 1) := by
      apply fL_congr
      intro k _
      unfold mid
      by_cases h : k = j + 1
      · subst h
        rw [if_pos rfl, if_pos (by omega)]
      · rw [if_neg h]
        by_cases h2 : j + 1 < k
        · rw [if_pos h2, if_pos (by omega)]
        · rw [if_neg h2, if_neg (by omega)]
    rw [e3]
    exact l01Size_in hs hl r R hi j (by omega) hev
theorem l01Size_out {s : List Int} (hs : s.all sizeOk = true) (hl : s.length ≤ 8) (r R : Int)
    (hev : Ev (fun k => spec_l01Size.l2 k r (fL (Wc s.reverse) (s.length + 1)) 0 0) R) : ∀ (m i : Nat), i + m = s.length →
    Ev (fun k => spec_l01Size.l0 k r (fL (Wc (s.take i).reverse) (s.length + 1)) (i : Int) s) R
  | 0, i, hm => by
    refine Ev.step (fun k => by simp only [spec_l01Size.l0]; exact rfl) ?_
    refine Ev.iff_neg (by omega) ?_
    rw [List.take_of_length_le (by omega)]
    exact hev
  | m + 1, i, hm => by
    have hi : i < s.length := by omega
    refine Ev.step (fun k => by simp only [spec_l01Size.l0]; exact rfl) ?_
    refine Ev.iff_pos (by omega) ?_
    rw [wrap_nat (by unfold maxLen; omega)]
    have ih := l01Size_out hs hl r R hev m (i + 1) (by omega)
    have e1 : (s.take (i + 1)).reverse = rd s (i : Int) :: (s.take i).reverse := by
      rw [take_rd s (by omega), List.reverse_append]
      rfl
    have hlen : (s.take i).reverse.length = i := by
      rw [List.length_reverse, List.length_take]
      omega
    have e2 : fL (Wc (s.take i).reverse) (s.length + 1) = fL (mid (rd s (i : Int)) (s.take i).reverse (i + 1)) (s.length + 1) := by
      apply fL_congr
      intro k _
      unfold mid
      by_cases h : i + 1 < k
      · rw [if_pos h, Wc_far _ _ (by omega), Wc_far _ _ (by rw [List.length_cons]; omega)]
      · rw [if_neg h]
    have e3 : fL (mid (rd s (i : Int)) (s.take i).reverse 0) (s.length + 1) = fL (Wc (s.take (i + 1)).reverse) (s.length + 1) := by
      apply fL_congr
      intro k _
      unfold mid
      rw [e1]
      by_cases h : 0 < k
      · rw [if_pos h]
      · rw [if_neg h]
        have : k = 0 := by omega
        subst this
        rfl
    rw [e2]
    refine l01Size_in hs hl r R hi (i + 1) (by omega) ?_
    rw [e3]
    exact ih
theorem l01Size_sum {s : List Int} (hs : isSp s = true) {r : Int} (h0 : 0 ≤ r) (h1 : r ≤ 1024) : ∀ (m n : Nat), n + m = s.length + 1 → (n : Int) ≤ r + 1 →
    Ev (fun k => spec_l01Size.l2 k r (fL (Wc s.reverse) (s.length + 1)) (cl s.reverse (n : Int)) (n : Int)) (cl s.reverse (r + 1))
  | 0, n, hm, hn => by
    refine Ev.step (fun k => by simp only [spec_l01Size.l2]; exact rfl) ?_
    refine Ev.iff_neg (by rw [fL_length]; omega) ?_
    rw [cl_far (m := (n : Int)) (r := r + 1) (by rw [List.length_reverse]; omega) (by rw [List.length_reverse]; omega)]
    exact Ev.now _
  | m + 1, n, hm, hn => by
    have hl := isSp_len hs
    refine Ev.step (fun k => by simp only [spec_l01Size.l2]; exact rfl) ?_
    refine Ev.iff_pos (by rw [fL_length]; omega) ?_
    by_cases h : (n : Int) ≤ r
    · refine Ev.iff_pos h ?_
      refine Ev.iff_pos (by omega) ?_
      have hall : s.reverse.all sizeOk = true := by
        rw [List.all_reverse]
        exact isSp_all hs
      have hb := cl_succ s.reverse n
      have hle : cl s.reverse ((n + 1 : Nat) : Int) ≤ (prd s.reverse).toNat := by
        unfold cl cN
        have := List.countP_le_length (p := fun (u : Nat) => decide (wt s.reverse (u : Int) < ((n + 1 : Nat) : Int))) (l := List.range (prd s.reverse).toNat)
        rwa [List.length_range] at this
      rw [prd_reverse] at hle
      have hp := isSp_prd hs
      rw [fL_rd _ (by omega), ← cw_Wc _ _ hall, wrap_nat (by unfold maxLen; omega), wrap_id (by omega) (by omega)]
      have := l01Size_sum hs h0 h1 m (n + 1) (by omega) (by omega)
      have e : ((cl s.reverse (n : Int) : Nat) : Int) + (cw s.reverse n : Nat) = (cl s.reverse ((n + 1 : Nat) : Int) : Nat) := by omega
      rw [e]
      exact this
    · refine Ev.iff_neg h ?_
      have : r + 1 = (n : Int) := by omega
      rw [this]
      exact Ev.now _
theorem l01Size_ev {s : List Int} (hs : isSp s = true) {r : Int} (h0 : 0 ≤ r) (h1 : r ≤ 1024) : Ev (fun k => spec_l01Size.f k s r) ((ballL s 0 r).length : Int) := by
  unfold spec_l01Size.f
  have hl := isSp_len hs
  have e : wrap64 ((s.length : Int) + 1) = ((s.length + 1 : Nat) : Int) := wrap_nat (by unfold maxLen; omega)
  rw [e, Int.toNat_natCast]
  refine Ev.iff_pos (by omega) ?_
  refine Ev.iff_pos (by omega) ?_
  refine Ev.bindc rfl ?_
  refine Ev.iff_pos (by simp) ?_
  rw [ball_cl hs]
  have h2 := l01Size_sum hs h0 h1 (s.length + 1) 0 (by omega) (by omega)
  have e0 : ((cl s.reverse ((0 : Nat) : Int) : Nat) : Int) = 0 := by
    have := cl_zero s.reverse
    simpa using this
  rw [e0] at h2
  have := l01Size_out (isSp_all hs) hl r _ h2 s.length 0 (by omega)
  have e1 : (List.replicate (s.length + 1) (0 : Int)).set (0 : Int).toNat 1 = fL (Wc (s.take 0).reverse) (s.length + 1) := by
    apply List.ext_getElem (by simp [fL])
    intro j h1 h2
    cases j with
    | zero => simp [fL, Wc]
    | succ j => simp [fL, Wc]
  rw [e1]
  exact this
end Go.Proofs.Ytbhgnphdhkmliaa.Q
