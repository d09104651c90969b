/- Sums of words: the program's is the model's; what the reference answers. -/
import Derived.Test.YtccolbomlgokiaaQWords
import Derived.Test.YtccolbomlgokiaaQDigits
import Derived.Test.YtccolbomlgokiaaHSum
import Derived.Test.YtccolbomlgokiaaFspecl01Sum
set_option linter.unusedVariables false
set_option linter.unusedSimpArgs false
namespace Go.Proofs.Ytccolbomlgokiaa.Q
open Go.RowKit Go.Proofs.Ytccolbomlgokiaa.P Go.Proofs.YtccolbomlgokiaaW.PrintWords CC
theorem upd8_gen (g : Nat → Int) {n : Nat} (hn : n ≤ 8) : upd8 g n = genL g n ++ List.replicate (8 - n) 0 := by
  apply List.ext_getElem?
  intro k
  by_cases h8 : k < 8
  · by_cases hk : k < n
    · rw [List.getElem?_append_left (by rw [genL_length]; exact hk)]
      simp [upd8, genL, h8, hk]
    · rw [List.getElem?_append_right (by rw [genL_length]; omega), genL_length, List.getElem?_replicate, if_pos (by omega)]
      simp [upd8, h8, hk]
  · rw [List.getElem?_eq_none (by rw [upd8_length]; omega), List.getElem?_eq_none (by simp [genL_length]; omega)]
/-- The digits of a sum. -/
def sumL (s a b : List Int) : List Int := genL (fun k => (rd a (k : Int) + rd b (k : Int)) % rd s (k : Int)) s.length
/-- The sum of two words. -/
def sumW (s : List Int) (u w : Int) : Int := wd s (sumL s (dg s u) (dg s w))
theorem sumL_inR {s : List Int} (hs : s.all sizeOk = true) (a b : List Int) : inR s (sumL s a b) = true := by
  refine genL_inR fun k hk => ?_
  have hq := all_rd hs hk
  exact ⟨Int.emod_nonneg _ (by omega), Int.emod_lt_of_pos _ (by omega)⟩
theorem sumL_length (s a b : List Int) : (sumL s a b).length = s.length := genL_length _ _
theorem rd_dig8 {s : List Int} (hl : s.length ≤ 8) (x : Int) {k : Nat} (hk : k < s.length) : rd (dig8 s x) (k : Int) = rd (dg s x) (k : Int) := by
  rw [dig8_eq hl, rd_nat, rd_nat, List.getD_eq_getElem?_getD, List.getElem?_append_left (by rw [dg_length]; exact hk), List.getD_eq_getElem?_getD]
theorem hor_sum8 {s : List Int} (hs : isSp s = true) (u w : Int) : hor 0 s (sum8 s (dig8 s u) (dig8 s w)) = sumW s u w := by
  unfold sum8 sumW sumL wd
  rw [upd8_gen _ (isSp_len hs), hor_pad (genL_length _ _)]
  congr 1
  apply genL_congr
  intro k hk
  rw [rd_dig8 (isSp_len hs) u hk, rd_dig8 (isSp_len hs) w hk]
theorem sumW_isW {s : List Int} (hs : isSp s = true) (u w : Int) : isW s (sumW s u w) = true :=
  wd_word (isSp_all hs) (sumL_length _ _ _).symm (sumL_inR (isSp_all hs) _ _)

theorem l01Sum_l {s a b : List Int} (hs : s.all sizeOk = true) (hl : s.length ≤ 8) (ha : a.length = s.length) (hb : b.length = s.length) (hr : inR s a = true) (hr2 : inR s b = true) : ∀ (m n : Nat), n + m = s.length →
    Ev (fun k => spec_l01Sum.l0 k (genL (fun k => (rd a (k : Int) + rd b (k : Int)) % rd s (k : Int)) n ++ a.drop n) b (a.length : Int) (n : Int) s) (wd s (sumL s a b))
  | 0, n, hm => by
    obtain rfl : n = s.length := by omega
    refine Ev.step (fun k => by simp only [spec_l01Sum.l0]; exact rfl) (Ev.iff_neg (by omega) ?_)
    rw [List.drop_eq_nil_of_le (by omega), List.append_nil]
    exact Ev.bind (l01Word_ev hs hl (sumL_length s a b) (sumL_inR hs a b)) (Ev.now _)
  | m + 1, n, hm => by
    have hn : n < s.length := by omega
    have hq := all_rd hs hn
    obtain ⟨r0, r1⟩ := inR_rd s a n hr hn (by omega)
    obtain ⟨r2, r3⟩ := inR_rd s b n hr2 hn (by omega)
    refine Ev.step (fun k => by simp only [spec_l01Sum.l0]; exact rfl) ?_
    have hlen : (genL (fun k => (rd a (k : Int) + rd b (k : Int)) % rd s (k : Int)) n ++ a.drop n).length = s.length := by
      simp [genL_length]
      omega
    rw [genL_old (by omega)]
    refine Ev.iff_pos (by omega) (Ev.iff_pos (by omega) (Ev.iff_pos (by omega) (Ev.iff_pos (by omega) (Ev.iff_pos (by omega) (Ev.iff_neg (by omega) ?_)))))
    rw [wrap_id (x := rd a (n : Int) + rd b (n : Int)) (by omega) (by omega), tmod_pos (by omega), wrap_nat (by unfold maxLen; omega), Int.toNat_natCast]
    have := genL_set (g := fun k => (rd a (k : Int) + rd b (k : Int)) % rd s (k : Int)) (n := n) (d := a) (by omega)
    rw [this]
    exact l01Sum_l hs hl ha hb hr hr2 m (n + 1) (by omega)

theorem l01Sum_ev {s : List Int} (hs : isSp s = true) {u w : Int} (hu : isW s u = true) (hw : isW s w = true) : Ev (fun k => spec_l01Sum.f k s u w) (sumW s u w) := by
  unfold spec_l01Sum.f
  refine Ev.bind (l01Digits_ev hs hu) (Ev.bind (l01Digits_ev hs hw) ?_)
  have := l01Sum_l (isSp_all hs) (isSp_len hs) (dg_length s u) (dg_length s w) (inR_dg (isSp_all hs) u) (inR_dg (isSp_all hs) w) s.length 0 (by omega)
  simpa [genL, sumW] using this

end Go.Proofs.Ytccolbomlgokiaa.Q
