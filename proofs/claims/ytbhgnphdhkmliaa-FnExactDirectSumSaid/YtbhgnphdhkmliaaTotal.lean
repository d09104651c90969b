/- The small functions of the laws, over all that a law's own function has in memory. -/
import Derived.Test.YtbhgnphdhkmliaaEnv
set_option linter.unusedVariables false
set_option linter.unusedSimpArgs false
namespace Go.Proofs.Ytbhgnphdhkmliaa.P
open Go.RowKit Go.Proofs.YtbhgnphdhkmliaaW.PrintWords Go.Proofs.YtbhgnphdhkmliaaW.PrintLast Go.Proofs.YtbhgnphdhkmliaaW.PrintMore CC
namespace Env
variable {w0 w : World} {R : List (Value × List Int)} {B : List (Nat × Value × Nat)}
theorem len (h : Env w0 w R B) (i : Nat) {A : Option Addr} {n c : Nat} {xs : List Int} (hi : R[i]? = some (.slice A n c, xs)) : n = xs.length := (Kd.R_reads' (h.rows _ (List.mem_of_getElem? hi))).1
theorem toSpace (h : Env w0 w R B) {A : Option Addr} {c : Nat} {l : List Int} (hr : Kd.C (Kd.int .i64) w A l.length l) (hc : l.length ≤ c) (hl : l.length ≤ 1048576) :
    Calls Try.prog 11 #[.agg #[.slice A l.length c]] w fun e w' => ∃ A' c', e = .returned (.agg #[.slice A' l.length c']) ∧ Aside0 (Env w0 w' ((.slice A' l.length c', l) :: R) B) := by
  obtain ⟨k, hk⟩ := (Q.toSpace_ev l hl).rounds
  refine (laws_toSpace.calls k A c l l w hr hc hk).mono ?_
  rintro e w' ⟨v, rfl, hR, hb⟩
  obtain ⟨A', c', rfl⟩ := Kd.R_slice hR
  exact ⟨A', c', rfl, ⟨h.row hR hb⟩⟩
theorem toInt64S (h : Env w0 w R B) {A : Option Addr} {c : Nat} {l : List Int} (hr : Kd.C (Kd.int .i64) w A l.length l) (hc : l.length ≤ c) (hl : l.length ≤ 1048576) :
    Calls Try.prog 12 #[.slice A l.length c] w fun e w' => ∃ A' c', e = .returned (.slice A' l.length c') ∧ Aside0 (Env w0 w' ((.slice A' l.length c', l) :: R) B) := by
  obtain ⟨k, hk⟩ := (Q.toInt64S_ev l hl).rounds
  refine (laws_toInt64S.calls k A c l l w hr hc hk).mono ?_
  rintro e w' ⟨v, rfl, hR, hb⟩
  obtain ⟨A', c', rfl⟩ := Kd.R_slice hR
  exact ⟨A', c', rfl, ⟨h.row hR hb⟩⟩
theorem eqSpace (h : Env w0 w R B) (i j : Nat) {A A' : Option Addr} {n n' c c' : Nat} {l : List Int} (hi : R[i]? = some (.slice A n c, l)) (hj : R[j]? = some (.slice A' n' c', l)) (hl : l.length ≤ 1048576) :
    Calls Try.prog 14 #[.agg #[.slice A n c], .agg #[.slice A' n' c']] w fun e w' => e = .returned (.bool true) ∧ Aside0 (Env w0 w' R B) := by
  obtain rfl := h.len i hi
  obtain rfl := h.len j hj
  obtain ⟨k, hk⟩ := (Q.eqSpace_ev l l (by unfold maxLen; omega)).rounds
  rw [decide_eq_true rfl] at hk
  refine (laws_eqSpace.calls k A c l A' c' l true w (h.reads i hi).2 (h.reads i hi).1 (h.reads j hj).2 (h.reads j hj).1 hk).mono ?_
  rintro e w' ⟨rfl, hb⟩
  exact ⟨rfl, ⟨h.step hb⟩⟩
theorem eqInt64S (h : Env w0 w R B) (i j : Nat) {A A' : Option Addr} {n n' c c' : Nat} {l : List Int} (hi : R[i]? = some (.slice A n c, l)) (hj : R[j]? = some (.slice A' n' c', l)) (hl : l.length ≤ 1048576) :
    Calls Try.prog 15 #[.slice A n c, .slice A' n' c'] w fun e w' => e = .returned (.bool true) ∧ Aside0 (Env w0 w' R B) := by
  obtain rfl := h.len i hi
  obtain rfl := h.len j hj
  obtain ⟨k, hk⟩ := (Q.eqInt64S_ev l l (by unfold maxLen; omega)).rounds
  rw [decide_eq_true rfl] at hk
  refine (laws_eqInt64S.calls k A c l A' c' l true w (h.reads i hi).2 (h.reads i hi).1 (h.reads j hj).2 (h.reads j hj).1 hk).mono ?_
  rintro e w' ⟨rfl, hb⟩
  exact ⟨rfl, ⟨h.step (by first | exact hb | exact hb.below)⟩⟩
theorem markSpace (h : Env w0 w R B) (i : Nat) {u : Value} {l : List Int} (hi : R[i]? = some (u, l)) (m : Int) (hl : l.length ≤ 1048576) (h0 : 0 ≤ m) (h1 : m ≤ 1073741824) :
    Calls Try.prog 16 #[.agg #[u], .int .i64 m] w fun e w' => e = .returned (.int .i64 (m + l.length)) ∧ Aside0 (Env w0 w' (R.set i (u, Q.iota m l.length)) B) := by
  obtain ⟨k, hk⟩ := (Q.markSpace_ev l m (by omega) h0 (by omega)).rounds
  have hR := Kd.R_tight rfl (h.rows _ (List.mem_of_getElem? hi))
  refine (laws_markSpace.calls k _ u l m _ _ w0 w h.below hR hk).mono ?_
  rintro e w' ⟨rfl, hR2, hb, hkp⟩
  exact ⟨rfl, ⟨h.mark i hi hR2 hb hkp⟩⟩
theorem markInt64S (h : Env w0 w R B) (i : Nat) {u : Value} {l : List Int} (hi : R[i]? = some (u, l)) (m : Int) (hl : l.length ≤ 1048576) (h0 : 0 ≤ m) (h1 : m ≤ 1073741824) :
    Calls Try.prog 17 #[u, .int .i64 m] w fun e w' => e = .returned (.int .i64 (m + l.length)) ∧ Aside0 (Env w0 w' (R.set i (u, Q.iota m l.length)) B) := by
  obtain ⟨k, hk⟩ := (Q.markInt64S_ev l m (by omega) h0 (by omega)).rounds
  have hR := Kd.R_tight rfl (h.rows _ (List.mem_of_getElem? hi))
  refine (laws_markInt64S.calls k _ u l m _ _ w0 w h.below hR hk).mono ?_
  rintro e w' ⟨rfl, hR2, hb, hkp⟩
  exact ⟨rfl, ⟨h.mark i hi hR2 hb hkp⟩⟩
theorem heldSpace (h : Env w0 w R B) (i : Nat) {A : Option Addr} {n c L : Nat} {m : Int} (hi : R[i]? = some (.slice A n c, Q.iota m L)) (h0 : 0 ≤ m) (h1 : m ≤ 1073741824) (hl : L ≤ 1048576) :
    Calls Try.prog 18 #[.agg #[.slice A n c], .int .i64 m] w fun e w' => e = .returned (.int .i64 (m + L)) ∧ Aside0 (Env w0 w' R B) := by
  obtain rfl := h.len i hi
  obtain ⟨k, hk⟩ := (Q.heldSpace_ev L m h0 (by omega)).rounds
  refine (laws_heldSpace.calls k A c _ m _ w (h.reads i hi).2 (h.reads i hi).1 hk).mono ?_
  rintro e w' ⟨rfl, hb⟩
  exact ⟨rfl, ⟨h.step (by first | exact hb | exact hb.below)⟩⟩
theorem heldInt64S (h : Env w0 w R B) (i : Nat) {A : Option Addr} {n c L : Nat} {m : Int} (hi : R[i]? = some (.slice A n c, Q.iota m L)) (h0 : 0 ≤ m) (h1 : m ≤ 1073741824) (hl : L ≤ 1048576) :
    Calls Try.prog 19 #[.slice A n c, .int .i64 m] w fun e w' => e = .returned (.int .i64 (m + L)) ∧ Aside0 (Env w0 w' R B) := by
  obtain rfl := h.len i hi
  obtain ⟨k, hk⟩ := (Q.heldInt64S_ev L m h0 (by omega)).rounds
  refine (laws_heldInt64S.calls k A c _ m _ w (h.reads i hi).2 (h.reads i hi).1 hk).mono ?_
  rintro e w' ⟨rfl, hb⟩
  exact ⟨rfl, ⟨h.step (by first | exact hb | exact hb.below)⟩⟩
theorem szSpace (h : Env w0 w R B) {A : Option Addr} {c : Nat} {l : List Int} (hr : Kd.C (Kd.int .i64) w A l.length l) (hc : l.length ≤ c) (a : Int) (hl : l.length ≤ maxLen) (h0 : 0 ≤ a) (h1 : a ≤ 1048576) :
    Calls Try.prog 9 #[.agg #[.slice A l.length c], .int .i64 a] w fun e w' => e = .returned (.int .i64 (if a < l.length then -1 else a - l.length)) ∧ Aside0 (Env w0 w' R B) := by
  refine (laws_szSpace.calls A c l a _ w hr hc (Q.szSpace_eq l a hl h0 h1)).mono ?_
  rintro e w' ⟨rfl, hb⟩
  exact ⟨rfl, ⟨h.step (by first | exact hb | exact hb.below)⟩⟩
end Env
end Go.Proofs.Ytbhgnphdhkmliaa.P
