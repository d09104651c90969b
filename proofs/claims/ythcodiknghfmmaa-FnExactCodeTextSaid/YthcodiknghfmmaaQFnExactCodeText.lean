/- The plain law of CodeText: the program's and the reference's CodeText answer alike. -/
import Derived.Test.YthcodiknghfmmaaQDigits
import Derived.Test.YthcodiknghfmmaaQGiven
import Derived.Test.YthcodiknghfmmaaHCodeText
import Derived.Test.YthcodiknghfmmaaFspecCodeText
import Derived.Test.YthcodiknghfmmaaFimplCodeText
import Derived.Test.YthcodiknghfmmaaFspecl01Text
import Derived.Test.YthcodiknghfmmaaFspecl01WordText
import Derived.Test.YthcodiknghfmmaaFspecl01Dec
import Derived.Test.YthcodiknghfmmaaFlawsFnExactCodeText
set_option linter.unusedVariables false
set_option linter.unusedSimpArgs false
namespace Go.Proofs.Ythcodiknghfmmaa.Q
open Go.RowKit Go.Proofs.Ythcodiknghfmmaa.P Go.Proofs.YthcodiknghfmmaaW.PrintWords CC
theorem strOfNums_appendT (a b : List Int) : strOfNums (a ++ b) = strOfNums a ++ strOfNums b := by
  apply ByteArray.ext
  simp [strOfNums]
theorem strOfNums_nilT : strOfNums [] = (⟨#[]⟩ : ByteArray) := by simp [strOfNums]
theorem strOfNums_sizeT (a : List Int) : (strOfNums a).size = a.length := by simp [strOfNums, ByteArray.size]
theorem l01Dec_evT {q : Int} (h0 : 0 ≤ q) (h1 : q ≤ 9) : Ev (fun k => spec_l01Dec.f k q) (strOfNums [48 + q]) := by
  refine Ev.step (f := fun k => some (strOfNums [48 + q])) (fun k => ?_) (Ev.now _)
  simp only [spec_l01Dec.f]
  rw [if_neg (by omega), if_pos (by omega), wrap_id (x := 48 + q) (by omega) (by omega), Int.emod_eq_of_lt (by omega) (by omega)]
def spellT (l : List Int) : List Int := l.map fun q => 48 + q
theorem spellT_take (s : List Int) {n : Nat} (hn : n < s.length) : spellT (s.take (n + 1)) = spellT (s.take n) ++ [48 + rd s (n : Int)] := by
  unfold spellT
  rw [List.take_add_one, List.map_append, rd_nat, List.getElem?_eq_getElem hn, List.getD_eq_getElem?_getD, List.getElem?_eq_getElem hn]
  rfl
theorem wtx_dg {s : List Int} (hs : isSp s = true) (x : Int) : wtx s x = spellT (dg s x) := by
  unfold wtx spellT
  rw [dig8_eq (isSp_len hs), List.take_append_of_le_length (by rw [dg_length]; exact Nat.le_refl _), List.take_of_length_le (by rw [dg_length]; exact Nat.le_refl _)]
theorem l01WordText_l {d : List Int} (hd : ∀ n : Nat, n < d.length → 0 ≤ rd d (n : Int) ∧ rd d (n : Int) ≤ 9) (hl : d.length ≤ 8) : ∀ (m n : Nat), n + m = d.length →
    Ev (fun k => spec_l01WordText.l0 k d (strOfNums (spellT (d.take n))) (d.length : Int) (n : Int)) (strOfNums (spellT d))
  | 0, n, hm => by
    refine Ev.step (fun k => by simp only [spec_l01WordText.l0]; exact rfl) ?_
    refine Ev.iff_neg (by omega) ?_
    rw [List.take_of_length_le (by omega)]
    exact Ev.now _
  | m + 1, n, hm => by
    have hn : n < d.length := by omega
    have hq := hd n hn
    refine Ev.step (fun k => by simp only [spec_l01WordText.l0]; exact rfl) ?_
    refine Ev.iff_pos (by omega) (Ev.iff_pos (by omega) (Ev.iff_pos (by omega) (Ev.bind (l01Dec_evT (q := rd d (n : Int)) (by omega) (by omega)) ?_)))
    refine Ev.iff_pos ?_ ?_
    · rw [strOfNums_sizeT, strOfNums_sizeT]
      have : (d.take n).length ≤ n := List.length_take_le _ _
      simp [spellT]
      omega
    · rw [wrap_nat (by unfold maxLen; omega), ← strOfNums_appendT, ← spellT_take d hn]
      exact l01WordText_l hd hl m (n + 1) (by omega)
theorem l01WordText_ev {s : List Int} (hs : isSp s = true) {x : Int} (hx : isW s x = true) : Ev (fun k => spec_l01WordText.f k s x) (strOfNums (wtx s x)) := by
  unfold spec_l01WordText.f
  rw [wtx_dg hs]
  have hl := isSp_len hs
  refine Ev.bind (l01Digits_ev hs hx) ?_
  have := l01WordText_l (d := dg s x) (fun n hn => by
    rw [dg_length] at hn
    have h1 := inR_rd s (dg s x) n (inR_dg (isSp_all hs) x) hn (by rw [dg_length]; exact hn)
    have h2 := all_rd (isSp_all hs) hn
    omega) (by rw [dg_length]; exact hl) (dg s x).length 0 (by omega)
  simpa [spellT, strOfNums_nilT] using this
theorem joinTail_snoc (sep y : List UInt8) (r : List (List UInt8)) : Lib.joinTail sep (r ++ [y]) = Lib.joinTail sep r ++ (sep ++ y) := by simp [Lib.joinTail]
theorem join_snoc (sep y : List UInt8) (l : List (List UInt8)) (h : l ≠ []) : Lib.join (l ++ [y]) sep = Lib.join l sep ++ (sep ++ y) := by
  cases l with
  | nil => exact absurd rfl h
  | cons x r => rw [List.cons_append, Lib.join_cons, Lib.join_cons, joinTail_snoc, List.append_assoc]
def tB (s : List Int) (x : Int) : List UInt8 := (strOfNums (wtx s x)).data.toList
/-- The text of the first words. -/
def tx (s C : List Int) (n : Nat) : ByteArray := ⟨(Lib.join ((C.take n).map (tB s)) [44]).toArray⟩
theorem tx_zero (s C : List Int) : tx s C 0 = (⟨#[]⟩ : ByteArray) := by unfold tx; rw [List.take_zero, List.map_nil, Lib.join_nil]
theorem tx_one (s C : List Int) (h : 0 < C.length) : tx s C 1 = strOfNums (wtx s (rd C ((0 : Nat) : Int))) := by
  unfold tx
  rw [take_rd8 h, List.take_zero, List.nil_append, List.map_cons, List.map_nil, Lib.join_one]
  apply ByteArray.ext
  simp [tB]
theorem tx_succ (s C : List Int) {n : Nat} (h : n < C.length) (h0 : 0 < n) : tx s C (n + 1) = (tx s C n ++ (⟨#[44]⟩ : ByteArray)) ++ strOfNums (wtx s (rd C (n : Int))) := by
  unfold tx
  rw [take_rd8 h, List.map_append, List.map_cons, List.map_nil, join_snoc _ _ _ (by
    intro e
    have := congrArg List.length e
    rw [List.length_map, List.length_take, List.length_nil] at this
    omega)]
  apply ByteArray.ext
  simp [tB]
theorem tx_size {s : List Int} (hs : isSp s = true) {C : List Int} (hC : C.length ≤ 1048576) (n : Nat) : (tx s C n).size ≤ 140737488355328 := by
  have := join_len hs (C := C.take n) (by have := List.length_take_le n C; rw [List.length_take]; omega)
  unfold tx
  show (Lib.join ((C.take n).map (tB s)) [44]).toArray.size ≤ _
  rw [List.size_toArray]
  exact this
theorem wtx_size {s : List Int} (hs : isSp s = true) (x : Int) : (strOfNums (wtx s x)).size ≤ 8 := by
  have := wtx_len hs x
  rw [Array.length_toList] at this
  exact this
theorem l01Text_l {s C : List Int} (hs : isSp s = true) (hC : isC s C = true) : ∀ (m n : Nat), n + m = C.length →
    Ev (fun k => spec_l01Text.l0 k C (tx s C n) (C.length : Int) (n : Int) s) (tx s C C.length)
  | 0, n, hm => by
    have : n = C.length := by omega
    subst this
    refine Ev.step (fun k => by simp only [spec_l01Text.l0]; exact rfl) ?_
    refine Ev.iff_neg (by omega) ?_
    exact Ev.now _
  | m + 1, n, hm => by
    have hn : n < C.length := by omega
    have hl := isC_len hs hC
    have ih := l01Text_l hs hC m (n + 1) (by omega)
    have hz := tx_size hs (C := C) (by omega) n
    have hw := wtx_size hs (rd C (n : Int))
    refine Ev.step (fun k => by simp only [spec_l01Text.l0]; exact rfl) ?_
    refine Ev.iff_pos (by omega) ?_
    rw [wrap_nat (by unfold maxLen; omega)]
    by_cases h0 : n = 0
    · subst h0
      refine Ev.iff_neg (by omega) (Ev.iff_pos (by omega) (Ev.iff_pos (by omega) ?_))
      refine Ev.bind (l01WordText_ev hs (isC_rd hC hn)) ?_
      refine Ev.iff_pos (by omega) ?_
      rw [tx_one s C (by omega)] at ih
      rw [tx_zero]
      have e : (⟨#[]⟩ : ByteArray) ++ strOfNums (wtx s (rd C ((0 : Nat) : Int))) = strOfNums (wtx s (rd C ((0 : Nat) : Int))) := by
        apply ByteArray.ext
        simp
      rw [e]
      exact ih
    · refine Ev.iff_pos (by omega) (Ev.iff_pos (by omega) (Ev.iff_pos (by omega) (Ev.iff_pos (by omega) ?_)))
      refine Ev.bind (l01WordText_ev hs (isC_rd hC hn)) ?_
      refine Ev.iff_pos (by rw [ByteArray.size_append]; have : (⟨#[44]⟩ : ByteArray).size = 1 := rfl; omega) ?_
      rw [tx_succ s C hn (by omega)] at ih
      exact ih
theorem l01Text_ev {s C : List Int} (hs : isSp s = true) (hC : isC s C = true) : Ev (fun k => spec_l01Text.f k s C) (cText s C) := by
  unfold spec_l01Text.f
  have := l01Text_l hs hC C.length 0 (by omega)
  rw [tx_zero] at this
  have e : tx s C C.length = cText s C := by unfold tx cText; rw [List.take_length]; rfl
  rw [e] at this
  exact this
def rText (s C : List Int) : ByteArray × Int := if rCode s C [] = 0 then if C.length = 0 then (⟨#[]⟩, 5) else (cText s C, 0) else (⟨#[]⟩, rCode s C [])
theorem specCodeText_ev (s : List Int) {C : List Int} (hcl : C.length ≤ 1048576) : Ev (fun k => spec_CodeText.f k s C) (rText s C) := by
  unfold spec_CodeText.f rText
  refine Ev.bind (l01Given_ev s hcl) ?_
  by_cases h : rCode s C [] = 0
  · obtain ⟨hs, hC, _⟩ := rCode_zero h
    refine Ev.iff_pos h ?_
    rw [if_pos h, h]
    refine Ev.step (fun k => by simp only [spec_CodeText.j0]; exact rfl) ?_
    by_cases h0 : C.length = 0
    · refine Ev.iff_pos (by simp [h0]) (Ev.iff_neg (by decide) ?_)
      rw [if_pos h0]
      exact Ev.now _
    · refine Ev.iff_neg (by simp only [beq_iff_eq]; omega) (Ev.iff_pos (by first | rfl | trivial) ?_)
      rw [if_neg h0]
      exact Ev.bind (l01Text_ev hs hC) (Ev.now _)
  · refine Ev.iff_neg h ?_
    rw [if_neg h]
    refine Ev.step (fun k => by simp only [spec_CodeText.j0]; exact rfl) ?_
    refine Ev.iff_neg (by simp) (Ev.iff_neg h ?_)
    exact Ev.now _
theorem implCodeText_ev (s : List Int) {C : List Int} (hcl : C.length ≤ 1048576) : Ev (fun k => impl_CodeText.f k s C) (rText s C) := by
  unfold impl_CodeText.f rText
  refine Ev.bind (codeCode_ev s hcl (by decide)) ?_
  by_cases h : rCode s C [] = 0
  · obtain ⟨hs, hC, _⟩ := rCode_zero h
    refine Ev.iff_pos h ?_
    rw [if_pos h]
    by_cases h0 : C.length = 0
    · refine Ev.iff_pos (by omega) ?_
      rw [if_pos h0]
      exact Ev.now _
    · refine Ev.iff_neg (by omega) ?_
      rw [if_neg h0]
      refine Ev.bindc (a := cText s C) ?_ (Ev.now _)
      unfold impl_codeText.f
      rw [if_pos ⟨hs, by rw [List.all_eq_true]; exact isC_words hC, by omega, hcl⟩]
  · refine Ev.iff_neg h ?_
    rw [if_neg h]
    exact Ev.now _
theorem FnExactCodeText (l0_0 : List Int) (m0 : l0_0.length ≤ maxLen) (w0 : ∀ x ∈ l0_0, (Lit.int .i64 x).wf = true) (l1 : List Int) (m1 : l1.length ≤ maxLen) (b1 : l1.length * 8 ≤ 140737488351232) (w1 : ∀ x ∈ l1, (Lit.int .i64 x).wf = true) : ∃ k, laws_FnExactCodeText.f k l0_0 l1 = some true := by
  refine Ev.rounds (r := true) ?_
  unfold laws_FnExactCodeText.f
  by_cases c1 : (l1.length : Int) > 1048576
  · exact Ev.iff_pos c1 (Ev.now _)
  refine Ev.iff_neg c1 ?_
  have k1 : l1.length ≤ 1048576 := by omega
  have km1 : l1.length < maxLen := by unfold maxLen; omega
  refine Ev.bindc (szSpace_eq _ _ m0 (by omega) (by omega)) ?_
  by_cases h0 : (1048576 : Int) < (l0_0.length : Int)
  · exact Ev.iff_pos (by rw [if_pos h0]; omega) (Ev.now _)
  rw [if_neg h0]
  refine Ev.iff_neg (by omega) ?_
  have hl0 : l0_0.length ≤ 1048576 := by omega
  have hm0 : l0_0.length < maxLen := by unfold maxLen; omega
  repeat' first
    | exact Ev.now _
    | refine Ev.bind (toInt64S_ev _ k1) ?_
    | refine Ev.bind (toSpace_ev _ hl0) ?_
    | refine Ev.bind (specCodeText_ev _ k1) ?_
    | refine Ev.bind (implCodeText_ev _ k1) ?_
    | (refine Ev.bind (eqSpace_ev _ _ ?_) ?_; (· (first | omega | (unfold maxLen; omega) | (simp only [iota_length]; omega) | (simp only [iota_length]; unfold maxLen; omega))))
    | (refine Ev.bind (eqInt64S_ev _ _ ?_) ?_; (· (first | omega | (unfold maxLen; omega) | (simp only [iota_length]; omega) | (simp only [iota_length]; unfold maxLen; omega))))
    | (refine Ev.iff_pos ?_ ?_; (· (first | (simp; done) | omega)))
    | (refine Ev.iff_neg ?_ ?_; (· (first | (simp; done) | omega)))
    | refine Ev.step (show ∀ k, laws_FnExactCodeText.j0 (k + 1) _ _ _ _ _ = _ from fun k => by rw [laws_FnExactCodeText.j0]) ?_
end Go.Proofs.Ythcodiknghfmmaa.Q
