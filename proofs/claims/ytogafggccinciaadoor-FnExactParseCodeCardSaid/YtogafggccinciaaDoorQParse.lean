/- Words and codes out of texts: what the reference's l01ReadWord, l01Read, ParseCode answer. -/
import Derived.Test.YtogafggccinciaaDoorQSplit
import Derived.Test.YtogafggccinciaaDoorQWordOf
import Derived.Test.YtogafggccinciaaDoorQGiven
import Derived.Test.YtogafggccinciaaDoorQWord
import Derived.Test.YtogafggccinciaaDoorFspecl01ReadWord
import Derived.Test.YtogafggccinciaaDoorFspecl01Read
import Derived.Test.YtogafggccinciaaDoorFspecParseCode
set_option linter.unusedVariables false
set_option linter.unusedSimpArgs false
namespace Go.Proofs.YtogafggccinciaaDoor.Q
open Go.RowKit Go.Proofs.YtogafggccinciaaDoor.P Go.Proofs.YtogafggccinciaaDoorW.PrintWords CC
/-- The digits of a text. -/
def btl (a : ByteArray) (n : Nat) : List Int := (List.range n).map fun (i : Nat) => bt a (i : Int) - 48
theorem btl_length (a : ByteArray) (n : Nat) : (btl a n).length = n := by simp [btl]
theorem btl_succ (a : ByteArray) (n : Nat) : btl a (n + 1) = btl a n ++ [bt a (n : Int) - 48] := by simp [btl, List.range_succ]
theorem btl_rd (a : ByteArray) {n k : Nat} (h : k < n) : rd (btl a n) (k : Int) = bt a (k : Int) - 48 := by simp [rd, btl, List.getD_eq_getElem?_getD, h]
theorem bt_wrap (a : ByteArray) (i : Int) : wrap64 (wrap64 (bt a i) - 48) = bt a i - 48 := by
  have := bt_range a i
  rw [wrap_id (x := bt a i) (by omega) (by omega), wrap_id (by omega) (by omega)]
theorem pcs_size : ∀ (N : Nat) (B : ByteArray), B.size ≤ N → B.size + 1 = ((pcs B).map fun p => p.size + 1).sum
  | N, B, hN => by
    rcases Go.Lib.indexB_cases B comma with h | ⟨i, h, hi⟩
    · rw [pcs_miss h]
      simp
    · have h1 : comma.size = 1 := rfl
      rw [h1] at hi
      rw [pcs_hit h]
      cases N with
      | zero => omega
      | succ N =>
        have ih := pcs_size N (B.extract (i + 1) B.size) (by rw [ByteArray.size_extract]; omega)
        rw [ByteArray.size_extract] at ih
        rw [List.map_cons, List.sum_cons, ← ih, ByteArray.size_extract]
        omega
def readW (s : List Int) (p : ByteArray) : Int := if p.size = s.length ∧ inR s (btl p p.size) = true then wd s (btl p p.size) else -1
theorem rd_c0 (x : Int) (l : List Int) : rd (x :: l) ((0 : Nat) : Int) = x := by simp [rd]
theorem rd_cS (x : Int) (l : List Int) (k : Nat) : rd (x :: l) ((k + 1 : Nat) : Int) = rd l (k : Int) := by
  simp only [rd, Int.toNat_natCast, List.getD_eq_getElem?_getD, List.getElem?_cons_succ]
theorem inR_take : ∀ (s d : List Int) (n : Nat), n < s.length → d.length = s.length → inR s d = true → 0 ≤ rd d (n : Int) ∧ rd d (n : Int) < rd s (n : Int)
  | [], _, n, h, _, _ => by simp at h
  | q :: s, [], n, _, h, _ => by simp at h
  | q :: s, x :: d, 0, _, _, h => by
    simp only [inR, Bool.and_eq_true, decide_eq_true_eq] at h
    rw [rd_c0, rd_c0]
    exact h.1
  | q :: s, x :: d, n + 1, h1, h2, h => by
    simp only [inR, Bool.and_eq_true, decide_eq_true_eq] at h
    rw [rd_cS, rd_cS]
    exact inR_take s d n (by simpa using h1) (by simpa using h2) h.2
theorem inR_of : ∀ (s d : List Int), d.length = s.length → (∀ k : Nat, k < s.length → 0 ≤ rd d (k : Int) ∧ rd d (k : Int) < rd s (k : Int)) → inR s d = true
  | [], _, _, _ => by simp [inR]
  | q :: s, [], h, _ => by simp at h
  | q :: s, x :: d, h, h0 => by
    have z := h0 0 (by simp)
    rw [rd_c0, rd_c0] at z
    have ih := inR_of s d (by simpa using h) (fun k hk => by
      have := h0 (k + 1) (by simpa using hk)
      rwa [rd_cS, rd_cS] at this)
    simp only [inR, Bool.and_eq_true, decide_eq_true_eq]
    exact ⟨z, ih⟩
theorem readWord_l {s : List Int} (hs : isSp s = true) {p : ByteArray} (hp : p.size = s.length) : ∀ (m n : Nat), n + m = s.length → (∀ k : Nat, k < n → 0 ≤ bt p (k : Int) - 48 ∧ bt p (k : Int) - 48 < rd s (k : Int)) →
    Ev (fun k => spec_l01ReadWord.l0 k p (btl p n) (n : Int) s) (readW s p)
  | 0, n, hm, h0 => by
    have hl := isSp_len hs
    have hn : n = s.length := by omega
    subst hn
    have hr : inR s (btl p p.size) = true := by
      refine inR_of s _ (by rw [btl_length, hp]) fun k hk => ?_
      rw [btl_rd p (by omega)]
      exact h0 k hk
    have e : readW s p = wd s (btl p s.length) := by
      unfold readW
      rw [if_pos ⟨hp, hr⟩, hp]
    rw [e]
    rw [hp] at hr
    refine Ev.step (fun k => by simp only [spec_l01ReadWord.l0]; exact rfl) ?_
    refine Ev.iff_neg (by omega) ?_
    exact Ev.bind (l01Word_ev (isSp_all hs) hl (btl_length _ _) hr) (Ev.now _)
  | m + 1, n, hm, h0 => by
    have hl := isSp_len hs
    have hn : n < s.length := by omega
    have hq := all_rd (isSp_all hs) hn
    refine Ev.step (fun k => by simp only [spec_l01ReadWord.l0]; exact rfl) ?_
    refine Ev.iff_pos (by omega) (Ev.iff_pos (by omega) (Ev.iff_pos (by omega) ?_))
    rw [bt_wrap, wrap_id (x := rd s (n : Int) - 1) (by omega) (by omega)]
    refine Ev.bindc (l01In_eq _ _ _) ?_
    by_cases hc : 0 ≤ bt p (n : Int) - 48 ∧ bt p (n : Int) - 48 < rd s (n : Int)
    · have ih := readWord_l hs hp m (n + 1) (by omega) (fun k hk => by
        by_cases e : k = n
        · subst e
          exact hc
        · exact h0 k (by omega))
      rw [btl_succ] at ih
      refine Ev.iff_pos (by rw [decide_eq_true_eq]; omega) (Ev.iff_pos (by rw [btl_length]; omega) ?_)
      rw [wrap_nat (by unfold maxLen; omega)]
      exact ih
    · have e : readW s p = -1 := by
        unfold readW
        rw [if_neg]
        rintro ⟨_, h2⟩
        have h3 := inR_take s (btl p p.size) n hn (by rw [btl_length, hp]) h2
        rw [btl_rd p (by omega)] at h3
        exact hc h3
      rw [e]
      refine Ev.iff_neg (by rw [decide_eq_true_eq]; omega) ?_
      exact Ev.now _
theorem readWord_ev {s : List Int} (hs : isSp s = true) (p : ByteArray) : Ev (fun k => spec_l01ReadWord.f k s p) (readW s p) := by
  unfold spec_l01ReadWord.f
  by_cases hp : p.size = s.length
  · refine Ev.iff_pos (by omega) ?_
    exact readWord_l hs hp s.length 0 (by omega) (fun k hk => by omega)
  · have e : readW s p = -1 := by
      unfold readW
      rw [if_neg (fun z => hp z.1)]
    rw [e]
    exact Ev.iff_neg (by omega) (Ev.now _)
end Go.Proofs.YtogafggccinciaaDoor.Q
