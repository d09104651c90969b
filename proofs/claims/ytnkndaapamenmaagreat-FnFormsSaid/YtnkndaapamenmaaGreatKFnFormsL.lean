/- What the law FnForms needs, part 12: words, walks of functions (each says that a call returns what the plain Lean function beside it says), plain lemmas. -/
import Derived.Test.YtnkndaapamenmaaGreatKFnFormsK
import Derived.Laws.Bits64b
set_option linter.unusedVariables false
set_option linter.unusedSimpArgs false
namespace Go.Proofs.YtnkndaapamenmaaGreat.Q
open Go.RowKit Go.Proofs.YtnkndaapamenmaaGreat.P Go.Proofs.YtnkndaapamenmaaGreatW.PrintWords CC
structure Src (cd : List Int) (a h : Int) : Prop where
  bytes : ∀ x ∈ cd, 0 ≤ x ∧ x ≤ 255
  len : cd.length ≤ maxLen
  a0 : 0 ≤ a
  a1 : a ≤ cd.length
  h0 : 0 ≤ h
  h1 : h < 18446744073709551616
theorem and_low (x : Int) (h0 : 0 ≤ x) (h1 : x < 18446744073709551616) : 0 ≤ Go.bits .and .u64 x 16777215 ∧ Go.bits .and .u64 x 16777215 ≤ 16777215 := by
  obtain ⟨n, rfl⟩ : ∃ n : Nat, x = (n : Int) := ⟨x.toNat, by omega⟩
  have h := bits_and_u64_nat n 16777215 (by omega) (by omega)
  have e : ((16777215 : Nat) : Int) = 16777215 := rfl
  rw [e] at h
  rw [h]
  have := Nat.and_le_right (n := n) (m := 16777215)
  omega
theorem u64_in (x : Int) : 0 ≤ IntKind.u64.wrap x ∧ IntKind.u64.wrap x < 18446744073709551616 := by rw [IntKind.wrap_u64]; omega
theorem next_tot {cd : List Int} {a h : Int} (hs : Src cd a h) (n : Int) : ∃ v a' h', spec_l01Next.f cd a h n = some (v, a', h') ∧ Src cd a' h' ∧ (n < 1 → v = 0) ∧ (1 ≤ n → 0 ≤ v ∧ v < n) := by
  unfold spec_l01Next.f
  by_cases hn : n < 1
  · rw [if_pos hn]
    exact ⟨0, a, h, rfl, hs, fun _ => rfl, fun z => by omega⟩
  rw [if_neg hn]
  have hh := u64_in (IntKind.u64.wrap (h * 6364136223846793005) + 1442695040888963407)
  generalize IntKind.u64.wrap (IntKind.u64.wrap (h * 6364136223846793005) + 1442695040888963407) = H at *
  have hb := and_low (H / 8589934592) (by omega) (by omega)
  generalize Go.bits .and .u64 (H / 8589934592) 16777215 = X at *
  have hX : wrap64 X = X := wrap_id (by omega) (by omega)
  have hlen := hs.len
  unfold maxLen at hlen
  by_cases ha : a < (cd.length : Int)
  · rw [if_pos ha, if_pos hs.a0, if_neg (by omega)]
    have hy : 0 ≤ rd cd a ∧ rd cd a ≤ 255 := by
      have h0 := hs.a0
      have : a.toNat < cd.length := by omega
      have e : rd cd a = cd[a.toNat] := by simp [rd, List.getD_eq_getElem?_getD, this]
      rw [e]
      exact hs.bytes _ (List.getElem_mem this)
    have hY : wrap64 (rd cd a) = rd cd a := wrap_id (by omega) (by omega)
    have hZ : wrap64 (X + rd cd a) = X + rd cd a := wrap_id (by omega) (by omega)
    have h0 := hs.a0
    rw [hX, hY, hZ, wrap_id (x := a + 1) (by omega) (by omega), Int.tmod_eq_emod_of_nonneg (by omega)]
    refine ⟨_, _, _, rfl, ⟨hs.bytes, hs.len, by omega, by omega, hh.1, hh.2⟩, fun z => by omega, fun _ => ⟨Int.emod_nonneg _ (by omega), Int.emod_lt_of_pos _ (by omega)⟩⟩
  · rw [if_neg ha, if_neg (by omega), hX, Int.tmod_eq_emod_of_nonneg (by omega)]
    exact ⟨_, _, _, rfl, ⟨hs.bytes, hs.len, hs.a0, hs.a1, hh.1, hh.2⟩, fun z => by omega, fun _ => ⟨Int.emod_nonneg _ (by omega), Int.emod_lt_of_pos _ (by omega)⟩⟩
theorem pick_tot {cd : List Int} {a h : Int} (hs : Src cd a h) {l : List Int} (hl : l ≠ []) : ∃ v a' h', spec_l01Pick.f cd a h l = some (v, a', h') ∧ Src cd a' h' ∧ v ∈ l := by
  obtain ⟨v, a', h', e, hs', _, h2⟩ := next_tot hs (l.length : Int)
  have hp : 1 ≤ (l.length : Int) := by
    have := List.length_pos_iff.2 hl
    omega
  have hv := h2 hp
  unfold spec_l01Pick.f
  rw [e]
  simp only [Option.bind_some]
  rw [if_pos hv.1, if_pos hv.2]
  refine ⟨_, _, _, rfl, hs', ?_⟩
  have : v.toNat < l.length := by omega
  have e2 : rd l v = l[v.toNat] := by simp [rd, List.getD_eq_getElem?_getD, this]
  rw [e2]
  exact List.getElem_mem this
structure Drawn (x : List Int) (most : Int) : Prop where
  all : x.all sizeOk = true
  l0 : 1 ≤ x.length
  l1 : x.length ≤ 8
  prd : prd x ≤ most
theorem drawOf_end {cd : List Int} {most a h : Int} {x : List Int} (hs : Src cd a h) (hm0 : 2 ≤ most) (hx : x.all sizeOk = true) (hl : x.length ≤ 8) (hp : CC.prd x ≤ most) :
    ∃ x' a' h', (if (x.length : Int) = 0 then (if x.length < 17592186044416 then (some ((x ++ [2]), a, h)) else (none)) else (some (x, a, h))) = some (x', a', h') ∧ Src cd a' h' ∧ Drawn x' most := by
  by_cases h0 : (x.length : Int) = 0
  · have : x = [] := List.eq_nil_of_length_eq_zero (by omega)
    subst this
    rw [if_pos h0, if_pos (by simp)]
    exact ⟨_, _, _, rfl, hs, ⟨by decide, by simp, by simp, by show CC.prd [2] ≤ most; simp [CC.prd]; omega⟩⟩
  · rw [if_neg h0]
    exact ⟨_, _, _, rfl, hs, ⟨hx, by omega, hl, hp⟩⟩
theorem drawOf_l {cd : List Int} {most kind : Int} (hm0 : 2 ≤ most) (hm1 : most ≤ 256) (hk : kind = 0 ∨ kind = 2 ∨ kind = 3) : ∀ (m : Nat) (a h : Int) (x : List Int), Src cd a h → x.all sizeOk = true → x.length + m ≤ 8 → CC.prd x ≤ most →
    ∃ x' a' h', Ev (fun k => spec_l01DrawOf.l0 k most kind (m : Int) cd a h x) (x', a', h') ∧ Src cd a' h' ∧ Drawn x' most
  | 0, a, h, x, hs, hx, hl, hp => by
    obtain ⟨x', a', h', e, hs', hd⟩ := drawOf_end hs hm0 hx (by omega) hp
    refine ⟨x', a', h', ?_, hs', hd⟩
    refine Ev.step (fun k => by simp only [spec_l01DrawOf.l0]; exact rfl) ?_
    refine Ev.iff_neg (by omega) ?_
    rw [e]
    exact Ev.now _
  | m + 1, a, h, x, hs, hx, hl, hp => by
    have hN := l01N_ev x (by unfold maxLen; omega)
    rw [prw_one (by omega) hx] at hN
    have hp0 := prd_pos x hx
    have hw : wrap64 (((m + 1 : Nat) : Int) - 1) = (m : Int) := by rw [wrap_id (by omega) (by omega)]; omega
    have more : ∀ (q a h : Int), q = 2 ∨ q = 3 ∨ q = 4 → Src cd a h → ∃ x' a' h', Ev (fun k => (if (wrap64 (CC.prd x * q)) > most then (if (x.length : Int) = 0 then (if x.length < 17592186044416 then (some ((x ++ [2]), a, h)) else (none)) else (some (x, a, h))) else (if x.length < 17592186044416 then (spec_l01DrawOf.l0 k most kind (m : Int) cd a h (x ++ [q])) else (none)))) (x', a', h') ∧ Src cd a' h' ∧ Drawn x' most := fun q a h hq hs => by
      have hpq : CC.prd x * q ≤ 1024 ∧ 0 ≤ CC.prd x * q := by rcases hq with rfl | rfl | rfl <;> omega
      by_cases hb : wrap64 (CC.prd x * q) > most
      · obtain ⟨x', a', h', e, hs', hd⟩ := drawOf_end hs hm0 hx (by omega) hp
        exact ⟨x', a', h', Ev.iff_pos hb (by rw [e]; exact Ev.now _), hs', hd⟩
      · have hb2 := hb
        rw [wrap_id (by omega) (by omega)] at hb2
        obtain ⟨x', a', h', e, hs', hd⟩ := drawOf_l hm0 hm1 hk m a h (x ++ [q]) hs (by rw [List.all_append, hx]; simpa using (sizeOk_iff q).2 hq) (by rw [List.length_append, List.length_singleton]; omega) (by rw [prd_append]; simp only [CC.prd, Int.mul_one]; omega)
        exact ⟨x', a', h', Ev.iff_neg hb (Ev.iff_pos (by omega) e), hs', hd⟩
    by_cases h0 : kind = 0
    · obtain ⟨q, a1, h1, e1, hs1, hq⟩ := pick_tot hs (l := [2, 2, 3, 4]) (by simp)
      simp only [List.mem_cons, List.not_mem_nil, or_false] at hq
      obtain ⟨x', a', h', e, hs', hd⟩ := more q a1 h1 (by omega) hs1
      refine ⟨x', a', h', ?_, hs', hd⟩
      refine Ev.step (fun k => by simp only [spec_l01DrawOf.l0]; exact rfl) ?_
      refine Ev.iff_pos (by omega) (Ev.iff_pos h0 ?_)
      refine Ev.bindc e1 ?_
      refine Ev.bind hN ?_
      rw [hw]
      exact e
    · obtain ⟨x', a', h', e, hs', hd⟩ := more kind a h (by omega) hs
      refine ⟨x', a', h', ?_, hs', hd⟩
      refine Ev.step (fun k => by simp only [spec_l01DrawOf.l0]; exact rfl) ?_
      refine Ev.iff_pos (by omega) (Ev.iff_neg h0 ?_)
      refine Ev.bind hN ?_
      rw [hw]
      exact e
theorem drawOf_tot {cd : List Int} {most a h : Int} (hs : Src cd a h) (hm0 : 2 ≤ most) (hm1 : most ≤ 256) : ∃ x' a' h', Ev (fun k => spec_l01DrawOf.f k cd a h most) (x', a', h') ∧ Src cd a' h' ∧ Drawn x' most := by
  obtain ⟨kd, a1, h1, e1, hs1, hk⟩ := pick_tot hs (l := [0, 2, 2, 3, 3]) (by simp)
  obtain ⟨v, a2, h2, e2, hs2, _, hv⟩ := next_tot hs1 8
  have hv2 := hv (by omega)
  simp only [List.mem_cons, List.not_mem_nil, or_false] at hk
  obtain ⟨n, rfl⟩ : ∃ n : Nat, v = (n : Int) := ⟨v.toNat, by omega⟩
  obtain ⟨x', a', h', e, hs', hd⟩ := drawOf_l hm0 hm1 (kind := kd) (by omega) (n + 1) a2 h2 [] hs2 rfl (by simp; omega) (by simp [CC.prd]; omega)
  refine ⟨x', a', h', ?_, hs', hd⟩
  unfold spec_l01DrawOf.f
  refine Ev.bindc e1 (Ev.bindc e2 ?_)
  rw [show wrap64 (1 + (n : Int)) = ((n + 1 : Nat) : Int) from by rw [wrap_id (by omega) (by omega)]; omega]
  exact e
theorem bad_l (cd : List Int) (a h : Int) : ∀ (m : Nat) (x : List Int), x.length + m = 6 → ∃ x', Ev (fun k => spec_l01Bad.l0 k cd a h x) (x', a, h) ∧ x'.length ≤ 8
  | 0, x, hm => by
    refine ⟨x, ?_, by omega⟩
    refine Ev.step (fun k => by simp only [spec_l01Bad.l0]; exact rfl) ?_
    exact Ev.iff_neg (by omega) (Ev.now _)
  | m + 1, x, hm => by
    obtain ⟨x', e, hl⟩ := bad_l cd a h m (x ++ [4]) (by rw [List.length_append, List.length_singleton]; omega)
    refine ⟨x', ?_, hl⟩
    refine Ev.step (fun k => by simp only [spec_l01Bad.l0]; exact rfl) ?_
    exact Ev.iff_pos (by omega) (Ev.iff_pos (by omega) e)
theorem bad_more (cd : List Int) (a h : Int) (x : List Int) (hl : x.length ≤ 8) : ∃ x', Ev (fun k => spec_l01Bad.l0 k cd a h x) (x', a, h) ∧ x'.length ≤ 8 := by
  by_cases h6 : x.length ≤ 6
  · exact bad_l cd a h (6 - x.length) x (by omega)
  · refine ⟨x, ?_, hl⟩
    refine Ev.step (fun k => by simp only [spec_l01Bad.l0]; exact rfl) ?_
    exact Ev.iff_neg (by omega) (Ev.now _)
theorem bad_tot {cd : List Int} {a h : Int} (hs : Src cd a h) {x : List Int} (h0 : 1 ≤ x.length) (hl : x.length ≤ 8) : ∃ x' a' h', Ev (fun k => spec_l01Bad.f k cd a h x) (x', a', h') ∧ Src cd a' h' ∧ x'.length ≤ 8 := by
  obtain ⟨v, a1, h1, e1, hs1, _, _⟩ := next_tot hs 50
  by_cases v0 : v = 0
  · refine ⟨[], a1, h1, ?_, hs1, by simp⟩
    unfold spec_l01Bad.f
    refine Ev.bindc (l01Own_eq x (by omega)) (Ev.bindc e1 ?_)
    exact Ev.iff_pos v0 (Ev.now _)
  by_cases v1 : v = 1
  · obtain ⟨i, a2, h2, e2, hs2, _, hi⟩ := next_tot hs1 (x.length : Int)
    obtain ⟨q, a3, h3, e3, hs3, _⟩ := pick_tot hs2 (l := [1, 5, 0, (-1), 1099511627776]) (by simp)
    have hi2 := hi (by omega)
    refine ⟨x.set i.toNat q, a3, h3, ?_, hs3, by rw [List.length_set]; exact hl⟩
    unfold spec_l01Bad.f
    refine Ev.bindc (l01Own_eq x (by omega)) (Ev.bindc e1 ?_)
    refine Ev.iff_neg v0 (Ev.iff_pos v1 ?_)
    refine Ev.bindc e2 (Ev.bindc e3 ?_)
    exact Ev.iff_pos hi2.1 (Ev.iff_pos hi2.2 (Ev.now _))
  by_cases v2 : v = 2
  · obtain ⟨x', e, hx⟩ := bad_more cd a1 h1 x hl
    refine ⟨x', a1, h1, ?_, hs1, hx⟩
    unfold spec_l01Bad.f
    refine Ev.bindc (l01Own_eq x (by omega)) (Ev.bindc e1 ?_)
    exact Ev.iff_neg v0 (Ev.iff_neg v1 (Ev.iff_pos v2 e))
  · refine ⟨x, a1, h1, ?_, hs1, hl⟩
    unfold spec_l01Bad.f
    refine Ev.bindc (l01Own_eq x (by omega)) (Ev.bindc e1 ?_)
    exact Ev.iff_neg v0 (Ev.iff_neg v1 (Ev.iff_neg v2 (Ev.now _)))
theorem badCode_tot2 {cd : List Int} {a h : Int} (hs : Src cd a h) {x L : List Int} (hx : x.length ≤ 8) (hL : L.length ≤ 1048575) : ∃ L' a' h', Ev (fun k => spec_l01BadCode.f k cd a h x L) (L', a', h') ∧ Src cd a' h' ∧ L'.length ≤ L.length + 1 := by
  obtain ⟨v, a1, h1, e1, hs1, _, _⟩ := next_tot hs 30
  by_cases v0 : v = 0
  · obtain ⟨q, a3, h3, e3, hs3, _⟩ := pick_tot hs1 (l := [(-1), prw 1 x, 0, 1099511627776]) (by simp)
    refine ⟨L ++ [q], a3, h3, ?_, hs3, by rw [List.length_append, List.length_singleton]; omega⟩
    unfold spec_l01BadCode.f
    refine Ev.bindc (l01Own_eq L (by omega)) (Ev.bindc e1 ?_)
    refine Ev.iff_pos v0 ?_
    refine Ev.bind (l01N_ev x (by unfold maxLen; omega)) ?_
    refine Ev.bindc e3 ?_
    exact Ev.iff_pos (by omega) (Ev.now _)
  by_cases v1 : v = 1
  · by_cases hl : (L.length : Int) > 1
    · refine ⟨L.set (0 : Int).toNat (rd L 1), a1, h1, ?_, hs1, by rw [List.length_set]; omega⟩
      unfold spec_l01BadCode.f
      refine Ev.bindc (l01Own_eq L (by omega)) (Ev.bindc e1 ?_)
      exact Ev.iff_neg v0 (Ev.iff_pos v1 (Ev.iff_pos hl (Ev.iff_pos (by omega) (Ev.iff_pos (by omega) (Ev.now _)))))
    · refine ⟨L, a1, h1, ?_, hs1, by omega⟩
      unfold spec_l01BadCode.f
      refine Ev.bindc (l01Own_eq L (by omega)) (Ev.bindc e1 ?_)
      exact Ev.iff_neg v0 (Ev.iff_pos v1 (Ev.iff_neg hl (Ev.now _)))
  · refine ⟨L, a1, h1, ?_, hs1, by omega⟩
    unfold spec_l01BadCode.f
    refine Ev.bindc (l01Own_eq L (by omega)) (Ev.bindc e1 ?_)
    exact Ev.iff_neg v0 (Ev.iff_neg v1 (Ev.now _))
theorem from_l {l : List Int} (hl : l.length ≤ maxLen) (hb : ∀ x ∈ l, 0 ≤ x ∧ x ≤ 255) : ∀ (m n : Nat) (h : Int), n + m = l.length → 0 ≤ h → h < 18446744073709551616 →
    ∃ h', Ev (fun k => spec_l01From.l0 k l (n : Int) l 0 h) (l, 0, h') ∧ Src l 0 h'
  | 0, n, h, hm, h0, h1 => by
    refine ⟨h, ?_, ⟨hb, hl, by omega, by omega, h0, h1⟩⟩
    refine Ev.step (fun k => by simp only [spec_l01From.l0]; exact rfl) ?_
    exact Ev.iff_neg (by omega) (Ev.now _)
  | m + 1, n, h, hm, h0, h1 => by
    by_cases hn : (n : Int) < 4096
    · have hH := u64_in (IntKind.u64.wrap (IntKind.u64.wrap (h * 1099511628211) + IntKind.u64.wrap (rd l (n : Int))) + 251)
      obtain ⟨h', e, hs⟩ := from_l hl hb m (n + 1) _ (by omega) hH.1 hH.2
      refine ⟨h', ?_, hs⟩
      refine Ev.step (fun k => by simp only [spec_l01From.l0]; exact rfl) ?_
      refine Ev.iff_pos (by omega) (Ev.iff_pos hn (Ev.iff_pos (by omega) ?_))
      rw [wrap_nat (by unfold maxLen at *; omega)]
      exact e
    · refine ⟨h, ?_, ⟨hb, hl, by omega, by omega, h0, h1⟩⟩
      refine Ev.step (fun k => by simp only [spec_l01From.l0]; exact rfl) ?_
      exact Ev.iff_pos (by omega) (Ev.iff_neg hn (Ev.now _))
theorem from_tot {l : List Int} (hl : l.length ≤ maxLen) (hb : ∀ x ∈ l, 0 ≤ x ∧ x ≤ 255) : ∃ h', Ev (fun k => spec_l01From.f k l) (l, 0, h') ∧ Src l 0 h' := by
  unfold spec_l01From.f
  have hH := u64_in (14111 + IntKind.u64.wrap (l.length : Int))
  exact from_l hl hb l.length 0 _ (by omega) hH.1 hH.2
theorem drawn_sp {x : List Int} {most : Int} (h : Drawn x most) (hm : most ≤ 1024) : isSp x = true := (isSp_iff x).2 ⟨h.l0, h.l1, h.all, by have := h.prd; omega⟩
end Go.Proofs.YtnkndaapamenmaaGreat.Q
