/- The plain law of OrderPlaces: the program's and the reference's OrderPlaces answer alike. -/
import Derived.Test.YtbhgnphdhkmliaaQOrder
import Derived.Test.YtbhgnphdhkmliaaQDigits
import Derived.Test.YtbhgnphdhkmliaaQWord
import Derived.Test.YtbhgnphdhkmliaaHPlaces
import Derived.Test.YtbhgnphdhkmliaaFspecl03Places
import Derived.Test.YtbhgnphdhkmliaaFspecOrderPlaces
import Derived.Test.YtbhgnphdhkmliaaFlawsFnExactOrderPlaces
set_option linter.unusedVariables false
set_option linter.unusedSimpArgs false
namespace Go.Proofs.Ytbhgnphdhkmliaa.Q
open Go.RowKit Go.Proofs.Ytbhgnphdhkmliaa.P Go.Proofs.YtbhgnphdhkmliaaW.PrintWords CC

theorem rd_app_left {a b : List Int} {n : Nat} (h : n < a.length) : rd (a ++ b) (n : Int) = rd a (n : Int) := by
  rw [rd_nat, rd_nat, List.getD_eq_getElem?_getD, List.getElem?_append_left h, List.getD_eq_getElem?_getD]
theorem putN_pad {p : List Int} {L : Nat} (hp : ∀ j : Nat, j < p.length → 0 ≤ rd p (j : Int) ∧ rd p (j : Int) < L) (e z : List Int) (he : e.length = L) (hpl : p.length ≤ L) (k : Nat) : ∀ n, n ≤ p.length → putN (L + k) (e ++ z) p n = putN L e p n ++ List.replicate k 0
  | 0, _ => by simp [putN]
  | n + 1, h => by
    have hb := hp n (by omega)
    rw [putN, putN, putN_pad hp e z he hpl k n (by omega), rd_app_left (by omega), List.set_append_left _ _ (by rw [putN_length]; omega)]
theorem plW_wd {s p : List Int} (hs : isSp s = true) (h : ordQ p s.length = true) (x : Int) : plW s p x = wd (ospL s p) (putN p.length (dg s x) p p.length) := by
  obtain ⟨hl, _, _, _⟩ := ordQ_facts h
  have hl8 := isSp_len hs
  have hd := dg_length s x
  unfold plW wd
  have e8 : 8 = p.length + (8 - p.length) := by omega
  rw [dig8_eq hl8, show putN 8 = putN (p.length + (8 - p.length)) from by rw [← e8], putN_pad (ordQ_rd h) (dg s x) _ (by omega) (Nat.le_refl _) (8 - p.length) p.length (Nat.le_refl _), hor_pad (by rw [putN_length, ospL_len])]
theorem specPl_l2 {s p c : List Int} (hs : isSp s = true) (h : ordQ p s.length = true) {m : Nat} (x : Int) {r : List Int × List Int} {x10 : List Int}
    (hnext : Ev (fun j => (spec_l01Word.f j (ospL s p) (putN p.length (dg s x) p p.length)).bind fun t => (spec_l01Put.f j x10 t).bind fun t2 => spec_l03Places.l1 j c p t2 (c.length : Int) (wrap64 ((m : Int) + 1)) s (ospL s p)) r) : ∀ (k n : Nat), n + k = p.length →
    Ev (fun j => spec_l03Places.l2 j c p x10 (dg s x) (putN p.length (dg s x) p n) (c.length : Int) (m : Int) (p.length : Int) (n : Int) s (ospL s p)) r
  | 0, n, hm => by
    obtain rfl : n = p.length := by omega
    refine Ev.step (fun k => by simp only [spec_l03Places.l2]; exact rfl) ?_
    refine Ev.iff_neg (by omega) ?_
    exact hnext
  | k + 1, n, hm => by
    obtain ⟨hl, _, _, _⟩ := ordQ_facts h
    have ih := specPl_l2 hs h x hnext k (n + 1) (by omega)
    have hb := ordQ_rd h n (by omega)
    have hd := dg_length s x
    have hl8 := isSp_len hs
    refine Ev.step (fun k => by simp only [spec_l03Places.l2]; exact rfl) ?_
    refine Ev.iff_pos (by omega) (Ev.iff_pos (by omega) (Ev.iff_pos (by omega) (Ev.iff_pos (by omega) (Ev.iff_pos hb.1 (Ev.iff_pos (by rw [putN_length]; exact hb.2) ?_)))))
    rw [wrap_nat (by unfold maxLen; omega)]
    exact ih
theorem specPl_l1 {s p c : List Int} (hs : isSp s = true) (h : ordQ p s.length = true) (hc : isC s c = true) : ∀ (k m : Nat), m + k = c.length →
    Ev (fun j => spec_l03Places.l1 j c p (ordL ((c.take m).map (plW s p))) (c.length : Int) (m : Int) s (ospL s p)) (ospL s p, ordL (c.map (plW s p)))
  | 0, m, hm => by
    refine Ev.step (fun k => by simp only [spec_l03Places.l1]; exact rfl) ?_
    refine Ev.iff_neg (by omega) ?_
    rw [List.take_of_length_le (by omega)]
    exact Ev.now _
  | k + 1, m, hm => by
    obtain ⟨hl, _, _, _⟩ := ordQ_facts h
    have hlt : m < c.length := by omega
    have hcl := isC_len hs hc
    have hl8 := isSp_len hs
    have ih := specPl_l1 hs h hc k (m + 1) (by omega)
    rw [take_rd8 hlt, List.map_append] at ih
    have hol := ordL_len ((c.take m).map (plW s p))
    have hl2 : (c.take m).length ≤ m := List.length_take_le _ _
    rw [List.length_map] at hol
    refine Ev.step (fun k => by simp only [spec_l03Places.l1]; exact rfl) ?_
    refine Ev.iff_pos (by omega) (Ev.iff_pos (by omega) (Ev.iff_pos (by omega) ?_))
    refine Ev.bind (l01Digits_ev hs (isC_rd hc hlt)) ?_
    refine Ev.iff_pos (by omega) (Ev.iff_pos (by omega) ?_)
    rw [Int.toNat_natCast]
    generalize hx : rd c (m : Int) = x at *
    have hdi := inR_dg (isSp_all hs) x
    have hd := dg_length s x
    have hox := ospL_isSp hs h
    refine specPl_l2 hs h x ?_ p.length 0 (by omega)
    refine Ev.bind (l01Word_ev (isSp_all hox) (isSp_len hox) (by rw [putN_length, ospL_len]) (putN_inR hs h hdi (by omega) (Nat.le_refl _))) ?_
    refine Ev.bind (l01Put_ev (ordL_pw _) (by omega) _) ?_
    rw [wrap_nat (by unfold maxLen; omega), ordL_put, ← plW_wd hs h]
    exact ih
theorem specPl_l0 {s p c : List Int} (hs : isSp s = true) (h : ordQ p s.length = true) (hc : isC s c = true) : ∀ (k m : Nat), m + k = p.length →
    Ev (fun j => spec_l03Places.l0 j c p (p.length : Int) (m : Int) s (putN p.length s p m)) (ospL s p, ordL (c.map (plW s p)))
  | 0, m, hm => by
    obtain rfl : m = p.length := by omega
    refine Ev.step (fun k => by simp only [spec_l03Places.l0]; exact rfl) ?_
    refine Ev.iff_neg (by omega) ?_
    have := specPl_l1 hs h hc c.length 0 (by omega)
    rw [List.take_zero, List.map_nil, ordL_asc List.Pairwise.nil] at this
    exact this
  | k + 1, m, hm => by
    obtain ⟨hl, _, _, _⟩ := ordQ_facts h
    have ih := specPl_l0 hs h hc k (m + 1) (by omega)
    have hb := ordQ_rd h m (by omega)
    have hl8 := isSp_len hs
    refine Ev.step (fun k => by simp only [spec_l03Places.l0]; exact rfl) ?_
    refine Ev.iff_pos (by omega) (Ev.iff_pos (by omega) (Ev.iff_pos (by omega) (Ev.iff_pos (by omega) (Ev.iff_pos hb.1 (Ev.iff_pos (by rw [putN_length]; exact hb.2) ?_)))))
    rw [wrap_nat (by unfold maxLen; omega)]
    exact ih
theorem specPl_ev {s p c : List Int} (hs : isSp s = true) (h : ordQ p s.length = true) (hc : isC s c = true) : Ev (fun j => spec_l03Places.f j s c p) (ospL s p, ordL (c.map (plW s p))) := by
  obtain ⟨hl, _, _, _⟩ := ordQ_facts h
  have hl8 := isSp_len hs
  unfold spec_l03Places.f
  refine Ev.iff_pos (by omega) (Ev.iff_pos (by omega) ?_)
  rw [Int.toNat_natCast]
  exact specPl_l0 hs h hc p.length 0 (by omega)
theorem specOrderPlaces_ev (s : List Int) {c p : List Int} (hcl : c.length ≤ 1048576) (hpl : p.length ≤ 1048576) : Ev (fun k => spec_OrderPlaces.f k s c p) (placesR s c p) := by
  unfold spec_OrderPlaces.f placesR
  refine Ev.bind (l01Given_ev s hcl) ?_
  by_cases h : rCode s c [] = 0
  · obtain ⟨hs, hc, _⟩ := rCode_zero h
    have hl8 := isSp_len hs
    rw [if_pos h]
    refine Ev.iff_pos h ?_
    refine Ev.bind (l03Order_ev (by omega) (by omega) hpl) ?_
    rw [h]
    by_cases ho : ordQ p s.length = true
    · rw [if_pos ho, ho]
      refine Ev.step (fun k => by simp only [spec_OrderPlaces.j0]; exact rfl) ?_
      refine Ev.iff_neg (by simp) (Ev.iff_pos (by first | rfl | trivial) ?_)
      exact Ev.bind (specPl_ev hs ho hc) (Ev.now _)
    · rw [if_neg ho, Bool.eq_false_iff.2 ho]
      refine Ev.step (fun k => by simp only [spec_OrderPlaces.j0]; exact rfl) ?_
      refine Ev.iff_pos (by first | rfl | trivial | simp) (Ev.iff_neg (by decide) (Ev.now _))
  · rw [if_neg h]
    refine Ev.iff_neg h ?_
    refine Ev.step (fun k => by simp only [spec_OrderPlaces.j0]; exact rfl) ?_
    exact Ev.iff_neg (by simp) (Ev.iff_neg h (Ev.now _))
theorem implPlaces_eq (s : List Int) {c p : List Int} (hcl : c.length ≤ 1048576) (hpl : p.length ≤ 1048576) : impl_OrderPlaces.f s c p = some (placesR s c p) := by
  unfold impl_OrderPlaces.f
  rw [if_pos ⟨hcl, hpl⟩]
theorem placesR_len (s : List Int) {c p : List Int} (hcl : c.length ≤ 1048576) (hpl : p.length ≤ 1048576) : (placesR s c p).1.length ≤ 1048576 ∧ (placesR s c p).2.1.length ≤ 1048576 := by
  unfold placesR
  by_cases h : rCode s c [] = 0
  · rw [if_pos h]
    have h2 := ordL_len (c.map (plW s p))
    rw [List.length_map] at h2
    split
    · exact ⟨by show (ospL s p).length ≤ _; rw [ospL_len]; exact hpl, Nat.le_trans h2 hcl⟩
    · simp
  · rw [if_neg h]
    simp
theorem FnExactOrderPlaces (l0_0 : List Int) (m0 : l0_0.length ≤ maxLen) (w0 : ∀ x ∈ l0_0, (Lit.int .i64 x).wf = true) (l1 : List Int) (m1 : l1.length ≤ maxLen) (b1 : l1.length * 8 ≤ 140737488351232) (w1 : ∀ x ∈ l1, (Lit.int .i64 x).wf = true) (l2 : List Int) (m2 : l2.length ≤ maxLen) (b2 : l2.length * 8 ≤ 140737488351232) (w2 : ∀ x ∈ l2, (Lit.int .i64 x).wf = true) : ∃ k, laws_FnExactOrderPlaces.f k l0_0 l1 l2 = some true := by
  refine Ev.rounds (r := true) ?_
  unfold laws_FnExactOrderPlaces.f
  by_cases c1 : (l1.length : Int) > 1048576
  · exact Ev.iff_pos c1 (Ev.now _)
  refine Ev.iff_neg c1 ?_
  have k1 : l1.length ≤ 1048576 := by omega
  have km1 : l1.length < maxLen := by unfold maxLen; omega
  by_cases c2 : (l2.length : Int) > 1048576
  · exact Ev.iff_pos c2 (Ev.now _)
  refine Ev.iff_neg c2 ?_
  have k2 : l2.length ≤ 1048576 := by omega
  have km2 : l2.length < maxLen := by unfold maxLen; omega
  refine Ev.bindc (szSpace_eq _ _ m0 (by omega) (by omega)) ?_
  by_cases h0 : (1048576 : Int) < (l0_0.length : Int)
  · exact Ev.iff_pos (by rw [if_pos h0]; omega) (Ev.now _)
  rw [if_neg h0]
  refine Ev.iff_neg (by omega) ?_
  have hl0 : l0_0.length ≤ 1048576 := by omega
  have hm0 : l0_0.length < maxLen := by unfold maxLen; omega
  have hr0 := (placesR_len l0_0 k1 k2).1
  have hr1 := (placesR_len l0_0 k1 k2).2
  repeat' first
    | exact Ev.now _
    | refine Ev.bind (toInt64S_ev _ k1) ?_
    | refine Ev.bind (toInt64S_ev _ k2) ?_
    | refine Ev.bind (toSpace_ev _ hl0) ?_
    | refine Ev.bind (specOrderPlaces_ev _ k1 k2) ?_
    | refine Ev.bind (Ev.const (implPlaces_eq _ k1 k2)) ?_
    | (refine Ev.bind (eqSpace_ev _ _ ?_) ?_; (· (first | omega | (unfold maxLen; omega) | (simp only [iota_length]; omega) | (simp only [iota_length]; unfold maxLen; omega))))
    | (refine Ev.bind (eqInt64S_ev _ _ ?_) ?_; (· (first | omega | (unfold maxLen; omega) | (simp only [iota_length]; omega) | (simp only [iota_length]; unfold maxLen; omega))))
    | (refine Ev.bind (markSpace_ev _ _ ?_ ?_ ?_) ?_; (· (first | omega | (unfold maxLen; omega) | (simp only [iota_length]; omega) | (simp only [iota_length]; unfold maxLen; omega))); (· (first | omega | (unfold maxLen; omega) | (simp only [iota_length]; omega) | (simp only [iota_length]; unfold maxLen; omega))); (· (first | omega | (unfold maxLen; omega) | (simp only [iota_length]; omega) | (simp only [iota_length]; unfold maxLen; omega))))
    | (refine Ev.bind (markInt64S_ev _ _ ?_ ?_ ?_) ?_; (· (first | omega | (unfold maxLen; omega) | (simp only [iota_length]; omega) | (simp only [iota_length]; unfold maxLen; omega))); (· (first | omega | (unfold maxLen; omega) | (simp only [iota_length]; omega) | (simp only [iota_length]; unfold maxLen; omega))); (· (first | omega | (unfold maxLen; omega) | (simp only [iota_length]; omega) | (simp only [iota_length]; unfold maxLen; omega))))
    | (refine Ev.bind (heldSpace_ev _ _ ?_ ?_) ?_; (· (first | omega | (unfold maxLen; omega) | (simp only [iota_length]; omega) | (simp only [iota_length]; unfold maxLen; omega))); (· (first | omega | (unfold maxLen; omega) | (simp only [iota_length]; omega) | (simp only [iota_length]; unfold maxLen; omega))))
    | (refine Ev.bind (heldInt64S_ev _ _ ?_ ?_) ?_; (· (first | omega | (unfold maxLen; omega) | (simp only [iota_length]; omega) | (simp only [iota_length]; unfold maxLen; omega))); (· (first | omega | (unfold maxLen; omega) | (simp only [iota_length]; omega) | (simp only [iota_length]; unfold maxLen; omega))))
    | (refine Ev.iff_pos ?_ ?_; (· (first | (simp; done) | omega)))
    | (refine Ev.iff_neg ?_ ?_; (· (first | (simp; done) | omega)))
    | refine Ev.step (show ∀ k, laws_FnExactOrderPlaces.j0 (k + 1) _ _ _ _ _ _ _ _ _ _ _ _ _ = _ from fun k => by rw [laws_FnExactOrderPlaces.j0]) ?_
    | refine Ev.step (show ∀ k, laws_FnExactOrderPlaces.j1 (k + 1) _ _ _ _ _ _ _ _ _ = _ from fun k => by rw [laws_FnExactOrderPlaces.j1]) ?_
    | refine Ev.step (show ∀ k, laws_FnExactOrderPlaces.j2 (k + 1) _ _ _ _ = _ from fun k => by rw [laws_FnExactOrderPlaces.j2]) ?_
end Go.Proofs.Ytbhgnphdhkmliaa.Q
