/- Balls of one radius are of one size, whatever word they are around. -/
import Derived.Test.YtbhgnphdhkmliaaQSize
import Derived.Test.YtbhgnphdhkmliaaHGreedy0
set_option linter.unusedVariables false
set_option linter.unusedSimpArgs false
namespace Go.Proofs.Ytbhgnphdhkmliaa.Q
open Go.RowKit Go.Proofs.Ytbhgnphdhkmliaa.P Go.Proofs.YtbhgnphdhkmliaaW.PrintWords CC

theorem ham_step {q : Int} (rs : List Int) (w : Int) (v : Nat) (d : Int) (h0 : 0 ≤ d) (hd : d < q) : ham (dgr (q :: rs) w) (dgr (q :: rs) (q * v + d)) = (if w % q = d then 0 else 1) + ham (dgr rs (w / q)) (dgr rs v) := by
  have e1 : (q * (v : Int) + d) % q = d := by rw [Int.mul_add_emod_self_left, Int.emod_eq_of_lt h0 hd]
  have e2 : (q * (v : Int) + d) / q = v := by rw [Int.mul_add_ediv_left _ _ (by omega), Int.ediv_eq_zero_of_lt h0 hd, Int.add_zero]
  simp only [dgr, ham, e1, e2]
/-- So many words of rs whose distance to w, and e more, is such. -/
def tE (rs : List Int) (w : Int) (p : Int → Bool) (e : Int) : Nat := cN (fun v => p (e + ham (dgr rs w) (dgr rs (v : Int)))) (prd rs).toNat
theorem any_cons (q : Int) (rs : List Int) (hq : q = 2 ∨ q = 3 ∨ q = 4) (hn : 0 ≤ prd rs) (w : Int) (p : Int → Bool) (e : Int) : (tE (q :: rs) w p e : Int) = tE rs (w / q) p e + (q - 1) * tE rs (w / q) p (e + 1) := by
  have hs : ∀ (v : Nat) (d : Int), 0 ≤ d → d < q → p (e + ham (dgr (q :: rs) w) (dgr (q :: rs) (q * v + d))) = p ((if w % q = d then e else e + 1) + ham (dgr rs (w / q)) (dgr rs v)) := fun v d h0 h1 => by
    rw [ham_step rs w v d h0 h1]
    congr 1
    split <;> omega
  have hm0 := Int.emod_nonneg w (show q ≠ 0 by omega)
  have hm1 := Int.emod_lt_of_pos w (show 0 < q by omega)
  have hc : ∀ (d : Int) (g : Nat → Bool), 0 ≤ d → d < q → (∀ v : Nat, g v = p (e + ham (dgr (q :: rs) w) (dgr (q :: rs) (q * v + d)))) → cN g (prd rs).toNat = if w % q = d then tE rs (w / q) p e else tE rs (w / q) p (e + 1) := fun d g h0 h1 h2 => by
    rw [cN_congr (r := fun v => p ((if w % q = d then e else e + 1) + ham (dgr rs (w / q)) (dgr rs (v : Int)))) (fun v _ => by rw [h2 v, hs v d h0 h1])]
    unfold tE
    split <;> rfl
  rcases hq with rfl | rfl | rfl
  · have : tE (2 :: rs) w p e = (if w % 2 = 0 then tE rs (w / 2) p e else tE rs (w / 2) p (e + 1)) + (if w % 2 = 1 then tE rs (w / 2) p e else tE rs (w / 2) p (e + 1)) := by
      show cN _ (prd (2 :: rs)).toNat = _
      rw [prd, show (2 * prd rs).toNat = 2 * (prd rs).toNat by omega, cN_two]
      rw [hc 0 _ (by omega) (by omega) (fun v => by simp), hc 1 _ (by omega) (by omega) (fun v => by simp)]
    rw [this]
    rcases (show w % 2 = 0 ∨ w % 2 = 1 by omega) with h | h <;> simp [h] <;> omega
  · have : tE (3 :: rs) w p e = (if w % 3 = 0 then tE rs (w / 3) p e else tE rs (w / 3) p (e + 1)) + (if w % 3 = 1 then tE rs (w / 3) p e else tE rs (w / 3) p (e + 1)) + (if w % 3 = 2 then tE rs (w / 3) p e else tE rs (w / 3) p (e + 1)) := by
      show cN _ (prd (3 :: rs)).toNat = _
      rw [prd, show (3 * prd rs).toNat = 3 * (prd rs).toNat by omega, cN_three]
      rw [hc 0 _ (by omega) (by omega) (fun v => by simp), hc 1 _ (by omega) (by omega) (fun v => by simp), hc 2 _ (by omega) (by omega) (fun v => by simp)]
    rw [this]
    rcases (show w % 3 = 0 ∨ w % 3 = 1 ∨ w % 3 = 2 by omega) with h | h | h <;> simp [h] <;> omega
  · have : tE (4 :: rs) w p e = (if w % 4 = 0 then tE rs (w / 4) p e else tE rs (w / 4) p (e + 1)) + (if w % 4 = 1 then tE rs (w / 4) p e else tE rs (w / 4) p (e + 1)) + (if w % 4 = 2 then tE rs (w / 4) p e else tE rs (w / 4) p (e + 1)) + (if w % 4 = 3 then tE rs (w / 4) p e else tE rs (w / 4) p (e + 1)) := by
      show cN _ (prd (4 :: rs)).toNat = _
      rw [prd, show (4 * prd rs).toNat = 4 * (prd rs).toNat by omega, cN_four]
      rw [hc 0 _ (by omega) (by omega) (fun v => by simp), hc 1 _ (by omega) (by omega) (fun v => by simp), hc 2 _ (by omega) (by omega) (fun v => by simp), hc 3 _ (by omega) (by omega) (fun v => by simp)]
    rw [this]
    rcases (show w % 4 = 0 ∨ w % 4 = 1 ∨ w % 4 = 2 ∨ w % 4 = 3 by omega) with h | h | h | h <;> simp [h] <;> omega
theorem any_word : ∀ (rs : List Int), rs.all sizeOk = true → ∀ (w w' : Int) (p : Int → Bool) (e : Int), tE rs w p e = tE rs w' p e
  | [], _, _, _, _, _ => rfl
  | q :: rs, h, w, w', p, e => by
    simp only [List.all_cons, Bool.and_eq_true] at h
    have hp := prd_pos rs h.2
    have h1 := any_cons q rs ((sizeOk_iff q).1 h.1) (by omega) w p e
    have h2 := any_cons q rs ((sizeOk_iff q).1 h.1) (by omega) w' p e
    rw [any_word rs h.2 (w / q) (w' / q) p e, any_word rs h.2 (w / q) (w' / q) p (e + 1)] at h1
    omega
theorem near_any {s : List Int} (hs : isSp s = true) (r : Int) (w : Nat) : (List.range (prd s).toNat).countP (nrb s r w) = (ballL s 0 r).length := by
  have hall : s.reverse.all sizeOk = true := by rw [List.all_reverse]; exact isSp_all hs
  have e : ∀ x : Int, (List.range (prd s).toNat).countP (fun u : Nat => decide (ham (dig8 s x) (dig8 s (u : Int)) ≤ r)) = tE s.reverse x (fun d => decide (d ≤ r)) 0 := fun x => by
    unfold tE cN
    rw [prd_reverse]
    apply List.countP_congr
    intro u _
    rw [ham_dig8 (isSp_len hs)]
    unfold dist dg
    rw [ham_reverse _ _ (by rw [dgr_length, dgr_length]), Int.zero_add]
  have h1 := e (w : Int)
  have h2 := e 0
  rw [any_word s.reverse hall (w : Int) 0, ← h2] at h1
  unfold nrb
  rw [h1]
  unfold ballL selL NW
  rw [List.length_map, List.countP_eq_length_filter]
  congr 1
  apply List.filter_congr
  intro i _
  rw [ham_dig8 (isSp_len hs)]
/-- While nothing is covered each word covers as many as any other. -/
theorem gn_start {s : List Int} (hs : isSp s = true) (r : Int) {P : Nat} (hP : (prd s).toNat = P) : gnL s r P (List.replicate P false) = List.replicate P ((ballL s 0 r).length : Int) := by
  subst hP
  rw [List.eq_replicate_iff]
  refine ⟨gnL_len s r _ _, fun b hb => ?_⟩
  unfold gnL at hb
  rw [List.mem_map] at hb
  obtain ⟨w, _, rfl⟩ := hb
  unfold gnF
  rw [← near_any hs r w]
  congr 1
  apply List.countP_congr
  intro u _
  have : (List.replicate (prd s).toNat false).getD u false = false := by
    rw [List.getD_eq_getElem?_getD, List.getElem?_replicate]
    split <;> rfl
  rw [this]
  rfl
end Go.Proofs.Ytbhgnphdhkmliaa.Q
