/- WordOf: what the reference and the program answer, in plain Lean. -/
import Derived.Test.YtjepdabecbmfgaaQWord
import Derived.Test.YtjepdabecbmfgaaFspecWordOf
import Derived.Test.YtjepdabecbmfgaaFimplWordOf
set_option linter.unusedVariables false
set_option linter.unusedSimpArgs false
namespace Go.Proofs.Ytjepdabecbmfgaa.Q
open Go.RowKit Go.Proofs.Ytjepdabecbmfgaa.P Go.Proofs.YtjepdabecbmfgaaW.PrintWords CC

def rWordOf (s d : List Int) : Int × Int := if isSp s then if d.length = s.length then if inR s d then (wd s d, 0) else (0, 2) else (0, 2) else (0, 1)

theorem specWordOf_l {s d : List Int} (hs : s.all sizeOk = true) (hl : s.length ≤ 8) (hd : d.length = s.length) : ∀ (m n : Nat), n + m = s.length → inR s d = inR (s.drop n) (d.drop n) →
    Ev (fun k => spec_WordOf.l0 k d (n : Int) s) (if inR s d then (wd s d, 0) else (0, 2))
  | 0, n, hm, hr => by
    rw [drop_all (s := s) (by omega)] at hr
    simp only [inR] at hr
    simp only [hr, if_true]
    refine Ev.step (f := fun k => (spec_l01Word.f k s d).bind fun t => some (t, 0)) (fun k => ?_) (Ev.bind (l01Word_ev hs hl hd hr) (Ev.now _))
    simp only [spec_WordOf.l0]
    rw [if_neg (by omega)]
  | m + 1, n, hm, hr => by
    have hn : n < s.length := by omega
    have hn2 : n < d.length := by omega
    have hq := all_rd hs hn
    rw [drop_cons s hn, drop_cons d hn2] at hr
    simp only [inR] at hr
    by_cases h : 0 ≤ rd d (n : Int) ∧ rd d (n : Int) < rd s (n : Int)
    · refine Ev.step (f := fun k => spec_WordOf.l0 k d ((n + 1 : Nat) : Int) s) (fun k => ?_) (specWordOf_l hs hl hd m (n + 1) (by omega) (by rw [hr]; simp [h.1, h.2]))
      simp only [spec_WordOf.l0]
      rw [if_pos (by omega), if_pos (by omega), if_pos (by omega), wrap_id (x := rd s (n : Int) - 1) (by omega) (by omega), l01In_eq, Option.bind_some, if_pos (by simp; omega), wrap_nat (by unfold maxLen; omega)]
    · have hr2 : inR s d = false := by
        rw [hr]
        by_cases h0 : 0 ≤ rd d (n : Int)
        · have h1 : ¬ rd d (n : Int) < rd s (n : Int) := fun h1 => h ⟨h0, h1⟩
          simp [h1]
        · simp [h0]
      simp only [hr2]
      refine Ev.step (f := fun k => some (0, 2)) (fun k => ?_) (by simpa using Ev.now _)
      simp only [spec_WordOf.l0]
      rw [if_pos (by omega), if_pos (by omega), if_pos (by omega), wrap_id (x := rd s (n : Int) - 1) (by omega) (by omega), l01In_eq, Option.bind_some, if_neg (by simp; omega)]

theorem specWordOf_ev (s d : List Int) : Ev (fun k => spec_WordOf.f k s d) (rWordOf s d) := by
  unfold spec_WordOf.f rWordOf
  refine Ev.bind (l01Is_ev s) ?_
  by_cases h : isSp s = true
  · simp only [h, if_true]
    by_cases hd : d.length = s.length
    · refine Ev.iff_pos (by omega) ?_
      rw [if_pos hd]
      exact specWordOf_l (isSp_all h) (isSp_len h) hd s.length 0 (by omega) (by simp)
    · refine Ev.iff_neg (by omega) ?_
      rw [if_neg hd]
      exact Ev.now _
  · simp only [h, if_false]
    exact Ev.now _

theorem implWordOf_l {s d : List Int} (hs : s.all sizeOk = true) (hl : s.length ≤ 8) (hd : d.length = s.length) : ∀ (m n : Nat) (a : Int), n + m = s.length → 0 ≤ a → a + 1 ≤ 4 ^ n →
    Ev (fun k => impl_WordOf.l0 k a d (d.length : Int) (n : Int) s) (if inR (s.drop n) (d.drop n) then (hor a (s.drop n) (d.drop n), 0) else (0, 2))
  | 0, n, a, hm, h0, h1 => by
    rw [drop_all (s := s) (by omega)]
    simp only [inR, if_true, hor]
    refine Ev.step (f := fun k => some (a, 0)) (fun k => ?_) (Ev.now _)
    simp only [impl_WordOf.l0]
    rw [if_neg (by omega)]
  | m + 1, n, a, hm, h0, h1 => by
    have hn : n < s.length := by omega
    have hn2 : n < d.length := by omega
    have hq := all_rd hs hn
    rw [drop_cons s hn, drop_cons d hn2]
    simp only [inR]
    by_cases h00 : rd d (n : Int) < 0
    · have : ¬ 0 ≤ rd d (n : Int) := by omega
      simp only [this, decide_false, Bool.false_and]
      refine Ev.step (f := fun k => some (0, 2)) (fun k => ?_) (by simpa using Ev.now _)
      simp only [impl_WordOf.l0]
      rw [if_pos (by omega), if_pos (by omega), if_pos (by omega), if_pos h00]
    by_cases h01 : rd d (n : Int) < rd s (n : Int)
    · obtain ⟨e, b0, b1⟩ := hor_step (n := n) (by omega) hq h0 h1 (by omega) h01
      have h02 : 0 ≤ rd d (n : Int) := by omega
      simp only [h01, h02, decide_true, Bool.true_and]
      refine Ev.step (f := fun k => impl_WordOf.l0 k (a * rd s (n : Int) + rd d (n : Int)) d (d.length : Int) ((n + 1 : Nat) : Int) s) (fun k => ?_) ?_
      · simp only [impl_WordOf.l0]
        rw [if_pos (by omega), if_pos (by omega), if_pos (by omega), if_neg h00, if_pos (by omega), if_neg (by omega), e, wrap_nat (by unfold maxLen; omega)]
      · exact implWordOf_l hs hl hd m (n + 1) _ (by omega) b0 b1
    · simp only [h01, decide_false, Bool.and_false, Bool.false_and]
      refine Ev.step (f := fun k => some (0, 2)) (fun k => ?_) (by simpa using Ev.now _)
      simp only [impl_WordOf.l0]
      rw [if_pos (by omega), if_pos (by omega), if_pos (by omega), if_neg h00, if_pos (by omega), if_pos (by omega)]

theorem implWordOf_ev (s d : List Int) (hd : d.length ≤ 1048576) : Ev (fun k => impl_WordOf.f k s d) (rWordOf s d) := by
  unfold impl_WordOf.f rWordOf
  refine Ev.bind (isSpace_ev s) ?_
  by_cases h : isSp s = true
  · simp only [h, if_true]
    by_cases hd : d.length = s.length
    · refine Ev.iff_pos (by omega) ?_
      rw [if_pos hd]
      have := implWordOf_l (isSp_all h) (isSp_len h) hd s.length 0 0 (by omega) (by omega) (by simp)
      simpa [wd] using this
    · refine Ev.iff_neg (by omega) ?_
      rw [if_neg hd]
      exact Ev.now _
  · simp only [h, if_false]
    exact Ev.now _
end Go.Proofs.Ytjepdabecbmfgaa.Q
