/- The program's eight digits are the model's. -/
import Derived.Test.YtbhgnphdhkmliaaHArr
set_option linter.unusedVariables false
set_option linter.unusedSimpArgs false
namespace Go.Proofs.Ytbhgnphdhkmliaa.P
open Go.RowKit Go.Proofs.YtbhgnphdhkmliaaW.PrintWords Go.Proofs.YtbhgnphdhkmliaaW.PrintLast Go.Proofs.YtbhgnphdhkmliaaW.PrintMore CC

theorem take_rd (s : List Int) {n : Nat} (hn : n < s.length) : s.take (n + 1) = s.take n ++ [rd s (n : Int)] := by
  rw [List.take_add_one]
  simp [rd, List.getD_eq_getElem?_getD, hn]

theorem dloop_eq (s : List Int) : ∀ (n : Nat) (x : Int) (ar : List Int), n ≤ s.length → n ≤ ar.length → dloop s n x ar = (dgr (s.take n).reverse x).reverse ++ ar.drop n
  | 0, x, ar, _, _ => by simp [dloop, dgr]
  | n + 1, x, ar, h1, h2 => by
    simp only [dloop]
    rw [dloop_eq s n _ _ (by omega) (by simp; omega), take_rd s (by omega), List.reverse_append]
    simp only [List.reverse_cons, List.reverse_nil, List.nil_append, List.singleton_append, dgr]
    rw [List.append_assoc]
    congr 1
    rw [List.drop_eq_getElem_cons (show n < (ar.set n (x % rd s (n : Int))).length by simp; omega), List.drop_set]
    simp

theorem dig8_eq {s : List Int} (hl : s.length ≤ 8) (x : Int) : dig8 s x = dg s x ++ List.replicate (8 - s.length) 0 := by
  unfold dig8 dg
  rw [dloop_eq s s.length x _ (Nat.le_refl _) (by simpa using hl), List.drop_replicate, List.take_length]

theorem ham_dig8 {s : List Int} (hl : s.length ≤ 8) (x y : Int) : ham (dig8 s x) (dig8 s y) = dist s x y := by
  rw [dig8_eq hl, dig8_eq hl, ham_append _ _ _ _ (by rw [dg_length, dg_length]), ham_self]
  simp [dist]

theorem dig8_inR {s : List Int} (hs : isSp s = true) (x : Int) : inR s (dig8 s x) = true := by
  rw [dig8_eq (isSp_len hs)]
  exact inR_pad (dg_length _ _) (inR_dg (isSp_all hs) x)

/-- Digits in range, place by place. -/
theorem inR_of : ∀ (s d : List Int), (∀ k : Nat, k < s.length → k < d.length → 0 ≤ rd d (k : Int) ∧ rd d (k : Int) < rd s (k : Int)) → inR s d = true
  | [], _, _ => by simp [inR]
  | _ :: _, [], _ => by simp [inR]
  | q :: s, x :: d, h => by
    have h0 := h 0 (by simp) (by simp)
    have e0 : rd (x :: d) ((0 : Nat) : Int) = x := by simp [rd]
    have e1 : rd (q :: s) ((0 : Nat) : Int) = q := by simp [rd]
    rw [e0, e1] at h0
    have ih := inR_of s d (fun k hk hk2 => by
      have := h (k + 1) (by simpa using hk) (by simpa using hk2)
      have f0 : rd (x :: d) ((k + 1 : Nat) : Int) = rd d (k : Int) := by simp only [rd, Int.toNat_natCast]; rfl
      have f1 : rd (q :: s) ((k + 1 : Nat) : Int) = rd s (k : Int) := by simp only [rd, Int.toNat_natCast]; rfl
      rwa [f0, f1] at this)
    simp [inR, h0.1, h0.2, ih]
end Go.Proofs.Ytbhgnphdhkmliaa.P
