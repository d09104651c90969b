/- ParseCode: what the reference and the program answer. -/
import Derived.Test.YtogafggccinciaaDoorQParse
import Derived.Test.YtogafggccinciaaDoorQCode
import Derived.Test.YtogafggccinciaaDoorFimplParseCode
set_option linter.unusedVariables false
set_option linter.unusedSimpArgs false
namespace Go.Proofs.YtogafggccinciaaDoor.Q
open Go.RowKit Go.Proofs.YtogafggccinciaaDoor.P Go.Proofs.YtogafggccinciaaDoorW.PrintWords CC
def parseL (s : List Int) (T : ByteArray) : List Int := (pcs T).map (readW s)
def rParse (s : List Int) (T : ByteArray) : List Int × Int := if isSp s then if isC s (parseL s T) then (parseL s T, 0) else ([], 6) else ([], 1)
theorem parseL_len (s : List Int) (T : ByteArray) : (parseL s T).length ≤ T.size + 1 := by
  unfold parseL
  rw [List.length_map]
  exact pcs_len T
theorem rdOf_nat (xs : List ByteArray) {n : Nat} (h : n < xs.length) : rdOf ByteArray.empty xs (n : Int) = xs[n] := by simp [rdOf, List.getD_eq_getElem?_getD, h]
theorem take_map (s : List Int) (P : List ByteArray) {n : Nat} (h : n < P.length) : (P.take (n + 1)).map (readW s) = (P.take n).map (readW s) ++ [readW s (rdOf ByteArray.empty P (n : Int))] := by
  rw [rdOf_nat P h, List.take_add_one, List.getElem?_eq_getElem h, List.map_append]
  rfl
theorem l01Code_l2 {s c : List Int} (hs : isSp s = true) (hc : c.length ≤ 2097152) : ∀ (m n : Nat), n + 1 + m = c.length →
    Ev (fun k => spec_l01Code.l0 k c ((n + 1 : Nat) : Int) s) ((c.drop (n + 1)).all (isW s) && asc (c.drop n))
  | 0, n, hm => by
    rw [drop_cons c (show n < c.length by omega), drop_all (s := c) (n := n + 1) (by omega)]
    refine Ev.step (f := fun k => some true) (fun k => ?_) (by simpa [asc] using Ev.now _)
    simp only [spec_l01Code.l0]
    rw [if_neg (by omega)]
  | m + 1, n, hm => by
    have hn : n < c.length := by omega
    have hn2 : n + 1 < c.length := by omega
    rw [drop_cons c hn, drop_cons c hn2, List.all_cons]
    refine Ev.step (fun k => by simp only [spec_l01Code.l0]; exact rfl) ?_
    refine Ev.iff_pos (by omega) (Ev.iff_pos (by omega) (Ev.bind (l01N_sp hs) (Ev.bindc (isW_in hs _) ?_)))
    cases h : isW s (rd c ((n + 1 : Nat) : Int)) with
    | false => simpa using Ev.now _
    | true =>
      rw [asc, Bool.true_and]
      refine Ev.iff_pos rfl (Ev.iff_pos (by omega) ?_)
      rw [prev_nat (by unfold maxLen; omega)]
      refine Ev.iff_pos (by omega) (Ev.iff_pos (by omega) ?_)
      by_cases hlt : rd c (n : Int) < rd c ((n + 1 : Nat) : Int)
      · refine Ev.iff_neg (by omega) ?_
        rw [wrap_nat (by unfold maxLen; omega)]
        have := l01Code_l2 hs hc m (n + 1) (by omega)
        rw [drop_cons c hn2] at this
        rw [decide_eq_true hlt, Bool.true_and]
        exact this
      · refine Ev.iff_pos (by omega) ?_
        rw [decide_eq_false hlt, Bool.false_and, Bool.and_false]
        exact Ev.now _

theorem l01Code_ev2 {s c : List Int} (hs : isSp s = true) (hc : c.length ≤ 2097152) : Ev (fun k => spec_l01Code.f k s c) (isC s c) := by
  unfold spec_l01Code.f isC
  cases c with
  | nil =>
    refine Ev.step (f := fun k => some true) (fun k => ?_) (Ev.now _)
    simp only [spec_l01Code.l0]
    rw [if_neg (by simp)]
  | cons a t =>
    refine Ev.step (fun k => by simp only [spec_l01Code.l0]; exact rfl) ?_
    refine Ev.iff_pos (by simp only [List.length_cons]; omega) (Ev.iff_pos (by omega) (Ev.bind (l01N_sp hs) (Ev.bindc (isW_in hs _) ?_)))
    have e : rd (a :: t) 0 = a := by simp [rd]
    rw [e, List.all_cons]
    cases h : isW s a with
    | false => simpa using Ev.now _
    | true =>
      refine Ev.iff_pos rfl (Ev.iff_neg (by omega) ?_)
      have := l01Code_l2 hs hc t.length 0 (by simp only [List.length_cons]; omega)
      rw [show wrap64 (0 + 1) = ((0 + 1 : Nat) : Int) from by simp [wrap64], Bool.true_and]
      simpa using this

theorem read_l {s : List Int} (hs : isSp s = true) {P : List ByteArray} (hP : P.length ≤ 2097152) : ∀ (m n : Nat), n + m = P.length →
    Ev (fun k => spec_l01Read.l0 k P ((P.take n).map (readW s)) (P.length : Int) (n : Int) s) (P.map (readW s), isC s (P.map (readW s)))
  | 0, n, hm => by
    have hn : n = P.length := by omega
    subst hn
    refine Ev.step (fun k => by simp only [spec_l01Read.l0]; exact rfl) ?_
    rw [List.take_length]
    refine Ev.iff_neg (by omega) ?_
    exact Ev.bind (l01Code_ev2 hs (by rw [List.length_map]; exact hP)) (Ev.now _)
  | m + 1, n, hm => by
    have hn : n < P.length := by omega
    have ih := read_l hs hP m (n + 1) (by omega)
    rw [take_map s P hn] at ih
    refine Ev.step (fun k => by simp only [spec_l01Read.l0]; exact rfl) ?_
    refine Ev.iff_pos (by omega) (Ev.iff_pos (by omega) (Ev.iff_pos (by omega) ?_))
    refine Ev.bind (readWord_ev hs _) ?_
    refine Ev.iff_pos (by rw [List.length_map, List.length_take]; omega) ?_
    rw [wrap_nat (by unfold maxLen; omega)]
    exact ih
theorem specParse_ev (s : List Int) {T : ByteArray} (hT : T.size ≤ 1048576) : Ev (fun k => spec_ParseCode.f k s T) (rParse s T) := by
  unfold spec_ParseCode.f rParse
  refine Ev.bind (l01Is_ev s) ?_
  by_cases hs : isSp s = true
  · have hl := pcs_len T
    have h := read_l hs (P := pcs T) (by omega) (pcs T).length 0 (by omega)
    have hr : Ev (fun k => spec_l01Read.f k s T) (parseL s T, isC s (parseL s T)) := by
      unfold spec_l01Read.f
      exact Ev.bind (specSplit_ev (by omega)) h
    rw [if_pos hs]
    refine Ev.iff_pos hs (Ev.bind hr ?_)
    by_cases hc : isC s (parseL s T) = true
    · simp only [if_pos hc]
      exact Ev.now _
    · simp only [if_neg hc]
      exact Ev.now _
  · rw [if_neg hs]
    exact Ev.iff_neg hs (Ev.now _)
/-- Is every piece a word? -/
def goodP (s : List Int) (p : ByteArray) : Prop := p.size = s.length ∧ inR s (btl p p.size) = true
theorem readW_good {s : List Int} {p : ByteArray} (h : goodP s p) : readW s p = wd s (btl p p.size) := by
  unfold readW
  exact if_pos h
theorem bad_code {s : List Int} {P : List ByteArray} {p : ByteArray} (hp : p ∈ P) (h : ¬ goodP s p) : ¬ isC s (P.map (readW s)) = true := by
  intro hc
  have h1 := isC_words hc (readW s p) (List.mem_map_of_mem hp)
  have e : readW s p = -1 := by
    unfold readW
    exact if_neg h
  rw [e] at h1
  have := (isW_iff s (-1)).1 h1
  omega
theorem long_code {s : List Int} (hs : isSp s = true) {T : ByteArray} (hT : 9216 < T.size) : ¬ isC s (parseL s T) = true := by
  intro hc
  have hgood : ∀ p ∈ pcs T, goodP s p := fun p hp => Classical.byContradiction fun z => bad_code hp z hc
  have hlen := isC_len hs hc
  unfold parseL at hlen
  rw [List.length_map] at hlen
  have hl := isSp_len hs
  have hz := pcs_size T.size T (Nat.le_refl _)
  have key : ∀ L : List ByteArray, (∀ p ∈ L, p.size ≤ 8) → (L.map fun p => p.size + 1).sum ≤ 9 * L.length := by
    intro L
    induction L with
    | nil => intro _; simp
    | cons p L ih =>
      intro h
      have h1 := h p (by simp)
      have h2 := ih (fun q hq => h q (by simp [hq]))
      simp only [List.map_cons, List.sum_cons, List.length_cons]
      omega
  have := key (pcs T) (fun p hp => by have := (hgood p hp).1; omega)
  omega
theorem parse_in {s : List Int} {P : List ByteArray} {p : ByteArray} (hp8 : p.size ≤ 8) (acc : List Int) (n : Nat) (R : List Int × Int)
    (go : Ev (fun k => (impl_WordOf.f k s (btl p p.size)).bind fun b => if b.2 = 0 then (if acc.length < 17592186044416 then impl_ParseCode.l0 k (acc ++ [b.1]) P (P.length : Int) (wrap64 ((n : Int) + 1)) s else none) else some ([], 6)) R) : ∀ (m i : Nat), i + m = p.size →
    Ev (fun k => impl_ParseCode.l1 k acc p (btl p i) P (P.length : Int) (n : Int) (p.size : Int) (i : Int) s) R
  | 0, i, hm => by
    have hi : i = p.size := by omega
    subst hi
    refine Ev.step (fun k => by simp only [impl_ParseCode.l1]; exact rfl) ?_
    exact Ev.iff_neg (by omega) go
  | m + 1, i, hm => by
    have ih := parse_in hp8 acc n R go m (i + 1) (by omega)
    rw [btl_succ] at ih
    refine Ev.step (fun k => by simp only [impl_ParseCode.l1]; exact rfl) ?_
    refine Ev.iff_pos (by omega) (Ev.iff_pos (by omega) (Ev.iff_pos (by omega) (Ev.iff_pos (by rw [btl_length]; omega) ?_)))
    rw [bt_wrap, wrap_nat (by unfold maxLen; omega)]
    exact ih
theorem parse_l {s : List Int} (hs : isSp s = true) {P : List ByteArray} (hP : P.length ≤ 1048576) : ∀ (m n : Nat), n + m = P.length →
    Ev (fun k => impl_ParseCode.l0 k ((P.take n).map (readW s)) P (P.length : Int) (n : Int) s) (if isC s (P.map (readW s)) then (P.map (readW s), 0) else ([], 6))
  | 0, n, hm => by
    have hn : n = P.length := by omega
    subst hn
    refine Ev.step (fun k => by simp only [impl_ParseCode.l0]; exact rfl) ?_
    rw [List.take_length]
    refine Ev.iff_neg (by omega) ?_
    refine Ev.bind (isCode_ev hs (by rw [List.length_map]; exact hP)) ?_
    by_cases hc : isC s (P.map (readW s)) = true
    · simp only [if_pos hc]
      exact Ev.now _
    · simp only [if_neg hc]
      exact Ev.now _
  | m + 1, n, hm => by
    have hn : n < P.length := by omega
    have hl := isSp_len hs
    have ih := parse_l hs hP m (n + 1) (by omega)
    rw [take_map s P hn] at ih
    have hmem : rdOf ByteArray.empty P (n : Int) ∈ P := by
      rw [rdOf_nat P hn]
      exact List.getElem_mem hn
    refine Ev.step (fun k => by simp only [impl_ParseCode.l0]; exact rfl) ?_
    refine Ev.iff_pos (by omega) (Ev.iff_pos (by omega) (Ev.iff_pos (by omega) ?_))
    generalize rdOf ByteArray.empty P (n : Int) = p at *
    by_cases hp : p.size = s.length
    · refine Ev.iff_pos (by omega) ?_
      refine parse_in (p := p) (by omega) _ n _ ?_ p.size 0 (by omega)
      refine Ev.bind (implWordOf_ev s (btl p p.size) (by rw [btl_length]; omega)) ?_
      by_cases hr : inR s (btl p p.size) = true
      · have e : rWordOf s (btl p p.size) = (wd s (btl p p.size), 0) := by
          unfold rWordOf
          rw [if_pos hs, if_pos (by rw [btl_length]; exact hp), if_pos hr]
        rw [e]
        refine Ev.iff_pos (by first | rfl | trivial) (Ev.iff_pos (by rw [List.length_map, List.length_take]; omega) ?_)
        rw [readW_good ⟨hp, hr⟩] at ih
        rw [wrap_nat (by unfold maxLen; omega)]
        exact ih
      · have e : rWordOf s (btl p p.size) = (0, 2) := by
          unfold rWordOf
          rw [if_pos hs, if_pos (by rw [btl_length]; exact hp), if_neg hr]
        rw [e]
        refine Ev.iff_neg (by decide) ?_
        rw [if_neg (bad_code hmem (fun z => hr z.2))]
        exact Ev.now _
    · refine Ev.iff_neg (by omega) ?_
      rw [if_neg (bad_code hmem (fun z => hp z.1))]
      exact Ev.now _
theorem implParse_ev (s : List Int) {T : ByteArray} (hT : T.size ≤ 1048576) : Ev (fun k => impl_ParseCode.f k s T) (rParse s T) := by
  unfold impl_ParseCode.f rParse
  refine Ev.bind (isSpace_ev s) ?_
  by_cases hs : isSp s = true
  · rw [if_pos hs]
    refine Ev.iff_pos hs ?_
    by_cases hl : (T.size : Int) > 9216
    · rw [if_neg (long_code hs (by omega))]
      exact Ev.iff_pos hl (Ev.now _)
    · have hpl := pcs_len T
      refine Ev.iff_neg hl (Ev.bindc (implSplit_eq (by omega)) ?_)
      exact parse_l hs (P := pcs T) (by omega) (pcs T).length 0 (by omega)
  · rw [if_neg hs]
    exact Ev.iff_neg hs (Ev.now _)
theorem rParse_len (s : List Int) (T : ByteArray) : (rParse s T).1.length ≤ 1048576 := by
  unfold rParse
  by_cases hs : isSp s = true
  · rw [if_pos hs]
    by_cases hc : isC s (parseL s T) = true
    · rw [if_pos hc]
      have := isC_len hs hc
      show (parseL s T).length ≤ 1048576
      omega
    · rw [if_neg hc]
      simp
  · rw [if_neg hs]
    simp
end Go.Proofs.YtogafggccinciaaDoor.Q
