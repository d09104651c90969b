/- Digits and distances: the program's eight digits are the model's; what the reference answers. -/
import Derived.Test.YtjepdabecbmfgaaQWord
import Derived.Test.YtjepdabecbmfgaaHArr
import Derived.Test.YtjepdabecbmfgaaFspecl01Distance
set_option linter.unusedVariables false
set_option linter.unusedSimpArgs false
namespace Go.Proofs.Ytjepdabecbmfgaa.Q
open Go.RowKit Go.Proofs.Ytjepdabecbmfgaa.P Go.Proofs.YtjepdabecbmfgaaW.PrintWords CC

theorem take_rd (s : List Int) {n : Nat} (hn : n < s.length) : s.take (n + 1) = s.take n ++ [rd s (n : Int)] := by
  rw [List.take_add_one, rd_nat]
  simp [List.getD_eq_getElem?_getD, hn]

theorem dloop_eq (s : List Int) : ∀ (n : Nat) (x : Int) (ar : List Int), n ≤ s.length → n ≤ ar.length → dloop s n x ar = (dgr (s.take n).reverse x).reverse ++ ar.drop n
  | 0, x, ar, _, _ => by simp [dloop, dgr]
  | n + 1, x, ar, h1, h2 => by
    simp only [dloop]
    rw [dloop_eq s n _ _ (by omega) (by simp; omega), take_rd s (by omega), List.reverse_append]
    simp only [List.reverse_cons, List.reverse_nil, List.nil_append, List.singleton_append, dgr]
    rw [List.append_assoc]
    congr 1
    rw [List.drop_eq_getElem_cons (show n < (ar.set n (x % rd s (n : Int))).length by simp; omega), List.drop_set]
    simp

theorem dig8_eq {s : List Int} (hl : s.length ≤ 8) (x : Int) : dig8 s x = dg s x ++ List.replicate (8 - s.length) 0 := by
  unfold dig8 dg
  rw [dloop_eq s s.length x _ (Nat.le_refl _) (by simpa using hl), List.drop_replicate, List.take_length]

theorem ham_dig8 {s : List Int} (hl : s.length ≤ 8) (x y : Int) : ham (dig8 s x) (dig8 s y) = dist s x y := by
  rw [dig8_eq hl, dig8_eq hl, ham_append _ _ _ _ (by rw [dg_length, dg_length]), ham_self]
  simp [dist]

theorem tmod_pos {x q : Int} (h : 0 ≤ x) : Int.tmod x q = x % q := Int.tmod_eq_emod_of_nonneg h
theorem tdiv_pos {x q : Int} (h : 0 ≤ x) (hq : 0 ≤ q) : Int.tdiv x q = x / q := Int.tdiv_eq_ediv_of_nonneg h

theorem div_bounds {x q : Int} (h0 : 0 ≤ x) (h1 : x ≤ 1024) (hq : q = 2 ∨ q = 3 ∨ q = 4) : 0 ≤ x / q ∧ x / q ≤ 1024 ∧ wrap64 (Int.tdiv x q) = x / q ∧ Int.tmod x q = x % q := by
  have h2 : 0 ≤ x / q ∧ x / q ≤ 1024 := by rcases hq with rfl | rfl | rfl <;> omega
  refine ⟨h2.1, h2.2, ?_, tmod_pos h0⟩
  rw [tdiv_pos h0 (by omega), wrap_id (by omega) (by omega)]

theorem pred_nat (n : Nat) (h : n ≤ 100) : wrap64 (((n : Nat) : Int) - 1) = (n : Int) - 1 := wrap_id (by omega) (by omega)

theorem l01Distance_l {s : List Int} (hs : s.all sizeOk = true) (hl : s.length ≤ 8) : ∀ (n : Nat) (u w acc : Int), n ≤ s.length → 0 ≤ u → u ≤ 1024 → 0 ≤ w → w ≤ 1024 → 0 ≤ acc → acc + n ≤ 100 →
    Ev (fun k => spec_l01Distance.l0 k u w acc ((n : Int) - 1) s) (acc + ham (dgr (s.take n).reverse u) (dgr (s.take n).reverse w))
  | 0, u, w, acc, _, _, _, _, _, _, _ => by
    refine Ev.step (f := fun k => some acc) (fun k => ?_) (by simpa [dgr, ham] using Ev.now _)
    simp only [spec_l01Distance.l0]
    rw [if_neg (by omega)]
  | n + 1, u, w, acc, hn, u0, u1, w0, w1, a0, a1 => by
    have hq := all_rd hs (show n < s.length by omega)
    obtain ⟨b0, b1, b2, b3⟩ := div_bounds u0 u1 hq
    obtain ⟨d0, d1, d2, d3⟩ := div_bounds w0 w1 hq
    have e : ((n + 1 : Nat) : Int) - 1 = (n : Int) := by omega
    rw [e]
    refine Ev.step (fun k => by simp only [spec_l01Distance.l0]; exact rfl) ?_
    refine Ev.iff_pos (by omega) (Ev.iff_pos (by omega) (Ev.iff_pos (by omega) (Ev.iff_neg (by omega) ?_)))
    rw [b2, b3, d2, d3, pred_nat n (by omega), take_rd s (by omega), List.reverse_append]
    simp only [List.reverse_cons, List.reverse_nil, List.nil_append, List.singleton_append, dgr, ham]
    by_cases h : u % rd s (n : Int) = w % rd s (n : Int)
    · refine Ev.iff_pos h ?_
      rw [if_pos h]
      have := l01Distance_l hs hl n (u / rd s (n : Int)) (w / rd s (n : Int)) acc (by omega) b0 b1 d0 d1 a0 (by omega)
      simpa using this
    · refine Ev.iff_neg h ?_
      rw [if_neg h, wrap_id (x := acc + 1) (by omega) (by omega), ← Int.add_assoc]
      exact l01Distance_l hs hl n (u / rd s (n : Int)) (w / rd s (n : Int)) (acc + 1) (by omega) b0 b1 d0 d1 (by omega) (by omega)

theorem isW_b {s : List Int} (hs : isSp s = true) {x : Int} (h : isW s x = true) : 0 ≤ x ∧ x ≤ 1024 := by
  have h1 := (isW_iff s x).1 h
  have h2 := isSp_prd hs
  omega

theorem l01Distance_ev {s : List Int} (hs : isSp s = true) {u w : Int} (hu : isW s u = true) (hw : isW s w = true) : Ev (fun k => spec_l01Distance.f k s u w) (dist s u w) := by
  have hl := isSp_len hs
  obtain ⟨u0, u1⟩ := isW_b hs hu
  obtain ⟨w0, w1⟩ := isW_b hs hw
  unfold spec_l01Distance.f
  have e : wrap64 ((s.length : Int) - 1) = (s.length : Int) - 1 := wrap_id (by omega) (by omega)
  rw [e]
  have := l01Distance_l (isSp_all hs) hl s.length u w 0 (Nat.le_refl _) u0 u1 w0 w1 (by omega) (by omega)
  rw [List.take_length, Int.zero_add] at this
  unfold dist dg
  rw [ham_reverse _ _ (by rw [dgr_length, dgr_length])]
  exact this
end Go.Proofs.Ytjepdabecbmfgaa.Q
