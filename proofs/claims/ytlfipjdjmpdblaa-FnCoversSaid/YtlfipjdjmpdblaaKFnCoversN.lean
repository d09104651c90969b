/- What the law FnCovers needs, part 14: words, walks of functions (each says that a call returns what the plain Lean function beside it says), plain lemmas. -/
import Derived.Test.YtlfipjdjmpdblaaKFnCoversM
import Derived.Laws.Bits64b
set_option linter.unusedVariables false
set_option linter.unusedSimpArgs false
namespace Go.Proofs.Ytlfipjdjmpdblaa.Q
open Go.RowKit Go.Proofs.Ytlfipjdjmpdblaa.P Go.Proofs.YtlfipjdjmpdblaaW.PrintWords CC
structure Src (cd : List Int) (a h : Int) : Prop where
  bytes : ∀ x ∈ cd, 0 ≤ x ∧ x ≤ 255
  len : cd.length ≤ maxLen
  a0 : 0 ≤ a
  a1 : a ≤ cd.length
  h0 : 0 ≤ h
  h1 : h < 18446744073709551616
theorem and_low (x : Int) (h0 : 0 ≤ x) (h1 : x < 18446744073709551616) : 0 ≤ Go.bits .and .u64 x 16777215 ∧ Go.bits .and .u64 x 16777215 ≤ 16777215 := by
  obtain ⟨n, rfl⟩ : ∃ n : Nat, x = (n : Int) := ⟨x.toNat, by omega⟩
  have h := bits_and_u64_nat n 16777215 (by omega) (by omega)
  have e : ((16777215 : Nat) : Int) = 16777215 := rfl
  rw [e] at h
  rw [h]
  have := Nat.and_le_right (n := n) (m := 16777215)
  omega
theorem u64_in (x : Int) : 0 ≤ IntKind.u64.wrap x ∧ IntKind.u64.wrap x < 18446744073709551616 := by rw [IntKind.wrap_u64]; omega
theorem next_tot {cd : List Int} {a h : Int} (hs : Src cd a h) (n : Int) : ∃ v a' h', spec_l01Next.f cd a h n = some (v, a', h') ∧ Src cd a' h' ∧ (n < 1 → v = 0) ∧ (1 ≤ n → 0 ≤ v ∧ v < n) := by
  unfold spec_l01Next.f
  by_cases hn : n < 1
  · rw [if_pos hn]
    exact ⟨0, a, h, rfl, hs, fun _ => rfl, fun z => by omega⟩
  rw [if_neg hn]
  have hh := u64_in (IntKind.u64.wrap (h * 6364136223846793005) + 1442695040888963407)
  generalize IntKind.u64.wrap (IntKind.u64.wrap (h * 6364136223846793005) + 1442695040888963407) = H at *
  have hb := and_low (H / 8589934592) (by omega) (by omega)
  generalize Go.bits .and .u64 (H / 8589934592) 16777215 = X at *
  have hX : wrap64 X = X := wrap_id (by omega) (by omega)
  have hlen := hs.len
  unfold maxLen at hlen
  by_cases ha : a < (cd.length : Int)
  · rw [if_pos ha, if_pos hs.a0, if_neg (by omega)]
    have hy : 0 ≤ rd cd a ∧ rd cd a ≤ 255 := by
      have h0 := hs.a0
      have : a.toNat < cd.length := by omega
      have e : rd cd a = cd[a.toNat] := by simp [rd, List.getD_eq_getElem?_getD, this]
      rw [e]
      exact hs.bytes _ (List.getElem_mem this)
    have hY : wrap64 (rd cd a) = rd cd a := wrap_id (by omega) (by omega)
    have hZ : wrap64 (X + rd cd a) = X + rd cd a := wrap_id (by omega) (by omega)
    have h0 := hs.a0
    rw [hX, hY, hZ, wrap_id (x := a + 1) (by omega) (by omega), Int.tmod_eq_emod_of_nonneg (by omega)]
    refine ⟨_, _, _, rfl, ⟨hs.bytes, hs.len, by omega, by omega, hh.1, hh.2⟩, fun z => by omega, fun _ => ⟨Int.emod_nonneg _ (by omega), Int.emod_lt_of_pos _ (by omega)⟩⟩
  · rw [if_neg ha, if_neg (by omega), hX, Int.tmod_eq_emod_of_nonneg (by omega)]
    exact ⟨_, _, _, rfl, ⟨hs.bytes, hs.len, hs.a0, hs.a1, hh.1, hh.2⟩, fun z => by omega, fun _ => ⟨Int.emod_nonneg _ (by omega), Int.emod_lt_of_pos _ (by omega)⟩⟩
theorem pick_tot {cd : List Int} {a h : Int} (hs : Src cd a h) {l : List Int} (hl : l ≠ []) : ∃ v a' h', spec_l01Pick.f cd a h l = some (v, a', h') ∧ Src cd a' h' ∧ v ∈ l := by
  obtain ⟨v, a', h', e, hs', _, h2⟩ := next_tot hs (l.length : Int)
  have hp : 1 ≤ (l.length : Int) := by
    have := List.length_pos_iff.2 hl
    omega
  have hv := h2 hp
  unfold spec_l01Pick.f
  rw [e]
  simp only [Option.bind_some]
  rw [if_pos hv.1, if_pos hv.2]
  refine ⟨_, _, _, rfl, hs', ?_⟩
  have : v.toNat < l.length := by omega
  have e2 : rd l v = l[v.toNat] := by simp [rd, List.getD_eq_getElem?_getD, this]
  rw [e2]
  exact List.getElem_mem this
theorem near_tot {cd : List Int} {a h : Int} (hs : Src cd a h) (m : Int) : ∃ v a' h', spec_l01Near.f cd a h m = some (v, a', h') ∧ Src cd a' h' ∧ -9223372036854775808 ≤ v ∧ v ≤ 9223372036854775807 := by
  have hw : -9223372036854775808 ≤ wrap64 (m + 1) ∧ wrap64 (m + 1) ≤ 9223372036854775807 := by unfold wrap64; omega
  obtain ⟨v, a', h', e, hs', _, _⟩ := next_tot hs 14
  unfold spec_l01Near.f
  rw [e]
  simp only [Option.bind_some]
  by_cases hv : v = 0
  · rw [if_pos hv]
    obtain ⟨v2, a2, h2, e2, hs2, hm⟩ := pick_tot hs' (l := [(-1), wrap64 (m + 1), 1099511627776, (-4611686018427387904)]) (by simp)
    rw [e2]
    refine ⟨v2, a2, h2, rfl, hs2, ?_⟩
    simp only [List.mem_cons, List.not_mem_nil, or_false] at hm
    rcases hm with rfl | rfl | rfl | rfl <;> omega
  · rw [if_neg hv]
    obtain ⟨v2, a2, h2, e2, hs2, h3, h4⟩ := next_tot hs' (wrap64 (m + 1))
    rw [e2]
    refine ⟨v2, a2, h2, rfl, hs2, ?_⟩
    by_cases hz : wrap64 (m + 1) < 1
    · have := h3 hz
      omega
    · have := h4 (by omega)
      omega
structure Drawn (x : List Int) (most : Int) : Prop where
  all : x.all sizeOk = true
  l0 : 1 ≤ x.length
  l1 : x.length ≤ 8
  prd : prd x ≤ most
theorem drawOf_end {cd : List Int} {most a h : Int} {x : List Int} (hs : Src cd a h) (hm0 : 2 ≤ most) (hx : x.all sizeOk = true) (hl : x.length ≤ 8) (hp : CC.prd x ≤ most) :
    ∃ x' a' h', (if (x.length : Int) = 0 then (if x.length < 17592186044416 then (some ((x ++ [2]), a, h)) else (none)) else (some (x, a, h))) = some (x', a', h') ∧ Src cd a' h' ∧ Drawn x' most := by
  by_cases h0 : (x.length : Int) = 0
  · have : x = [] := List.eq_nil_of_length_eq_zero (by omega)
    subst this
    rw [if_pos h0, if_pos (by simp)]
    exact ⟨_, _, _, rfl, hs, ⟨by decide, by simp, by simp, by show CC.prd [2] ≤ most; simp [CC.prd]; omega⟩⟩
  · rw [if_neg h0]
    exact ⟨_, _, _, rfl, hs, ⟨hx, by omega, hl, hp⟩⟩
theorem drawOf_l {cd : List Int} {most kind : Int} (hm0 : 2 ≤ most) (hm1 : most ≤ 256) (hk : kind = 0 ∨ kind = 2 ∨ kind = 3) : ∀ (m : Nat) (a h : Int) (x : List Int), Src cd a h → x.all sizeOk = true → x.length + m ≤ 8 → CC.prd x ≤ most →
    ∃ x' a' h', Ev (fun k => spec_l01DrawOf.l0 k most kind (m : Int) cd a h x) (x', a', h') ∧ Src cd a' h' ∧ Drawn x' most
  | 0, a, h, x, hs, hx, hl, hp => by
    obtain ⟨x', a', h', e, hs', hd⟩ := drawOf_end hs hm0 hx (by omega) hp
    refine ⟨x', a', h', ?_, hs', hd⟩
    refine Ev.step (fun k => by simp only [spec_l01DrawOf.l0]; exact rfl) ?_
    refine Ev.iff_neg (by omega) ?_
    rw [e]
    exact Ev.now _
  | m + 1, a, h, x, hs, hx, hl, hp => by
    have hN := l01N_ev x (by unfold maxLen; omega)
    rw [prw_one (by omega) hx] at hN
    have hp0 := prd_pos x hx
    have hw : wrap64 (((m + 1 : Nat) : Int) - 1) = (m : Int) := by rw [wrap_id (by omega) (by omega)]; omega
    have more : ∀ (q a h : Int), q = 2 ∨ q = 3 ∨ q = 4 → Src cd a h → ∃ x' a' h', Ev (fun k => (if (wrap64 (CC.prd x * q)) > most then (if (x.length : Int) = 0 then (if x.length < 17592186044416 then (some ((x ++ [2]), a, h)) else (none)) else (some (x, a, h))) else (if x.length < 17592186044416 then (spec_l01DrawOf.l0 k most kind (m : Int) cd a h (x ++ [q])) else (none)))) (x', a', h') ∧ Src cd a' h' ∧ Drawn x' most := fun q a h hq hs => by
      have hpq : CC.prd x * q ≤ 1024 ∧ 0 ≤ CC.prd x * q := by rcases hq with rfl | rfl | rfl <;> omega
      by_cases hb : wrap64 (CC.prd x * q) > most
      · obtain ⟨x', a', h', e, hs', hd⟩ := drawOf_end hs hm0 hx (by omega) hp
        exact ⟨x', a', h', Ev.iff_pos hb (by rw [e]; exact Ev.now _), hs', hd⟩
      · have hb2 := hb
        rw [wrap_id (by omega) (by omega)] at hb2
        obtain ⟨x', a', h', e, hs', hd⟩ := drawOf_l hm0 hm1 hk m a h (x ++ [q]) hs (by rw [List.all_append, hx]; simpa using (sizeOk_iff q).2 hq) (by rw [List.length_append, List.length_singleton]; omega) (by rw [prd_append]; simp only [CC.prd, Int.mul_one]; omega)
        exact ⟨x', a', h', Ev.iff_neg hb (Ev.iff_pos (by omega) e), hs', hd⟩
    by_cases h0 : kind = 0
    · obtain ⟨q, a1, h1, e1, hs1, hq⟩ := pick_tot hs (l := [2, 2, 3, 4]) (by simp)
      simp only [List.mem_cons, List.not_mem_nil, or_false] at hq
      obtain ⟨x', a', h', e, hs', hd⟩ := more q a1 h1 (by omega) hs1
      refine ⟨x', a', h', ?_, hs', hd⟩
      refine Ev.step (fun k => by simp only [spec_l01DrawOf.l0]; exact rfl) ?_
      refine Ev.iff_pos (by omega) (Ev.iff_pos h0 ?_)
      refine Ev.bindc e1 ?_
      refine Ev.bind hN ?_
      rw [hw]
      exact e
    · obtain ⟨x', a', h', e, hs', hd⟩ := more kind a h (by omega) hs
      refine ⟨x', a', h', ?_, hs', hd⟩
      refine Ev.step (fun k => by simp only [spec_l01DrawOf.l0]; exact rfl) ?_
      refine Ev.iff_pos (by omega) (Ev.iff_neg h0 ?_)
      refine Ev.bind hN ?_
      rw [hw]
      exact e
theorem drawOf_tot {cd : List Int} {most a h : Int} (hs : Src cd a h) (hm0 : 2 ≤ most) (hm1 : most ≤ 256) : ∃ x' a' h', Ev (fun k => spec_l01DrawOf.f k cd a h most) (x', a', h') ∧ Src cd a' h' ∧ Drawn x' most := by
  obtain ⟨kd, a1, h1, e1, hs1, hk⟩ := pick_tot hs (l := [0, 2, 2, 3, 3]) (by simp)
  obtain ⟨v, a2, h2, e2, hs2, _, hv⟩ := next_tot hs1 8
  have hv2 := hv (by omega)
  simp only [List.mem_cons, List.not_mem_nil, or_false] at hk
  obtain ⟨n, rfl⟩ : ∃ n : Nat, v = (n : Int) := ⟨v.toNat, by omega⟩
  obtain ⟨x', a', h', e, hs', hd⟩ := drawOf_l hm0 hm1 (kind := kd) (by omega) (n + 1) a2 h2 [] hs2 rfl (by simp; omega) (by simp [CC.prd]; omega)
  refine ⟨x', a', h', ?_, hs', hd⟩
  unfold spec_l01DrawOf.f
  refine Ev.bindc e1 (Ev.bindc e2 ?_)
  rw [show wrap64 (1 + (n : Int)) = ((n + 1 : Nat) : Int) from by rw [wrap_id (by omega) (by omega)]; omega]
  exact e
theorem small_tot {cd : List Int} {a h : Int} (hs : Src cd a h) : ∃ x' a' h', Ev (fun k => spec_l01Small.f k cd a h) (x', a', h') ∧ Src cd a' h' ∧ Drawn x' 81 := by
  obtain ⟨v, a1, h1, e1, hs1, hv⟩ := pick_tot hs (l := [8, 27, 81]) (by simp)
  simp only [List.mem_cons, List.not_mem_nil, or_false] at hv
  obtain ⟨x', a', h', e, hs', hd⟩ := drawOf_tot hs1 (most := v) (by omega) (by omega)
  refine ⟨x', a', h', ?_, hs', ⟨hd.all, hd.l0, hd.l1, by have := hd.prd; omega⟩⟩
  unfold spec_l01Small.f
  refine Ev.bindc e1 ?_
  exact Ev.bind e (Ev.now _)
theorem bad_l (cd : List Int) (a h : Int) : ∀ (m : Nat) (x : List Int), x.length + m = 6 → ∃ x', Ev (fun k => spec_l01Bad.l0 k cd a h x) (x', a, h) ∧ x'.length ≤ 8
  | 0, x, hm => by
    refine ⟨x, ?_, by omega⟩
    refine Ev.step (fun k => by simp only [spec_l01Bad.l0]; exact rfl) ?_
    exact Ev.iff_neg (by omega) (Ev.now _)
  | m + 1, x, hm => by
    obtain ⟨x', e, hl⟩ := bad_l cd a h m (x ++ [4]) (by rw [List.length_append, List.length_singleton]; omega)
    refine ⟨x', ?_, hl⟩
    refine Ev.step (fun k => by simp only [spec_l01Bad.l0]; exact rfl) ?_
    exact Ev.iff_pos (by omega) (Ev.iff_pos (by omega) e)
theorem bad_more (cd : List Int) (a h : Int) (x : List Int) (hl : x.length ≤ 8) : ∃ x', Ev (fun k => spec_l01Bad.l0 k cd a h x) (x', a, h) ∧ x'.length ≤ 8 := by
  by_cases h6 : x.length ≤ 6
  · exact bad_l cd a h (6 - x.length) x (by omega)
  · refine ⟨x, ?_, hl⟩
    refine Ev.step (fun k => by simp only [spec_l01Bad.l0]; exact rfl) ?_
    exact Ev.iff_neg (by omega) (Ev.now _)
theorem bad_tot {cd : List Int} {a h : Int} (hs : Src cd a h) {x : List Int} (h0 : 1 ≤ x.length) (hl : x.length ≤ 8) : ∃ x' a' h', Ev (fun k => spec_l01Bad.f k cd a h x) (x', a', h') ∧ Src cd a' h' ∧ x'.length ≤ 8 := by
  obtain ⟨v, a1, h1, e1, hs1, _, _⟩ := next_tot hs 50
  by_cases v0 : v = 0
  · refine ⟨[], a1, h1, ?_, hs1, by simp⟩
    unfold spec_l01Bad.f
    refine Ev.bindc (l01Own_eq x (by omega)) (Ev.bindc e1 ?_)
    exact Ev.iff_pos v0 (Ev.now _)
  by_cases v1 : v = 1
  · obtain ⟨i, a2, h2, e2, hs2, _, hi⟩ := next_tot hs1 (x.length : Int)
    obtain ⟨q, a3, h3, e3, hs3, _⟩ := pick_tot hs2 (l := [1, 5, 0, (-1), 1099511627776]) (by simp)
    have hi2 := hi (by omega)
    refine ⟨x.set i.toNat q, a3, h3, ?_, hs3, by rw [List.length_set]; exact hl⟩
    unfold spec_l01Bad.f
    refine Ev.bindc (l01Own_eq x (by omega)) (Ev.bindc e1 ?_)
    refine Ev.iff_neg v0 (Ev.iff_pos v1 ?_)
    refine Ev.bindc e2 (Ev.bindc e3 ?_)
    exact Ev.iff_pos hi2.1 (Ev.iff_pos hi2.2 (Ev.now _))
  by_cases v2 : v = 2
  · obtain ⟨x', e, hx⟩ := bad_more cd a1 h1 x hl
    refine ⟨x', a1, h1, ?_, hs1, hx⟩
    unfold spec_l01Bad.f
    refine Ev.bindc (l01Own_eq x (by omega)) (Ev.bindc e1 ?_)
    exact Ev.iff_neg v0 (Ev.iff_neg v1 (Ev.iff_pos v2 e))
  · refine ⟨x, a1, h1, ?_, hs1, hl⟩
    unfold spec_l01Bad.f
    refine Ev.bindc (l01Own_eq x (by omega)) (Ev.bindc e1 ?_)
    exact Ev.iff_neg v0 (Ev.iff_neg v1 (Ev.iff_neg v2 (Ev.now _)))
theorem badCode_tot2 {cd : List Int} {a h : Int} (hs : Src cd a h) {x L : List Int} (hx : x.length ≤ 8) (hL : L.length ≤ 1048575) : ∃ L' a' h', Ev (fun k => spec_l01BadCode.f k cd a h x L) (L', a', h') ∧ Src cd a' h' ∧ L'.length ≤ L.length + 1 := by
  obtain ⟨v, a1, h1, e1, hs1, _, _⟩ := next_tot hs 30
  by_cases v0 : v = 0
  · obtain ⟨q, a3, h3, e3, hs3, _⟩ := pick_tot hs1 (l := [(-1), prw 1 x, 0, 1099511627776]) (by simp)
    refine ⟨L ++ [q], a3, h3, ?_, hs3, by rw [List.length_append, List.length_singleton]; omega⟩
    unfold spec_l01BadCode.f
    refine Ev.bindc (l01Own_eq L (by omega)) (Ev.bindc e1 ?_)
    refine Ev.iff_pos v0 ?_
    refine Ev.bind (l01N_ev x (by unfold maxLen; omega)) ?_
    refine Ev.bindc e3 ?_
    exact Ev.iff_pos (by omega) (Ev.now _)
  by_cases v1 : v = 1
  · by_cases hl : (L.length : Int) > 1
    · refine ⟨L.set (0 : Int).toNat (rd L 1), a1, h1, ?_, hs1, by rw [List.length_set]; omega⟩
      unfold spec_l01BadCode.f
      refine Ev.bindc (l01Own_eq L (by omega)) (Ev.bindc e1 ?_)
      exact Ev.iff_neg v0 (Ev.iff_pos v1 (Ev.iff_pos hl (Ev.iff_pos (by omega) (Ev.iff_pos (by omega) (Ev.now _)))))
    · refine ⟨L, a1, h1, ?_, hs1, by omega⟩
      unfold spec_l01BadCode.f
      refine Ev.bindc (l01Own_eq L (by omega)) (Ev.bindc e1 ?_)
      exact Ev.iff_neg v0 (Ev.iff_pos v1 (Ev.iff_neg hl (Ev.now _)))
  · refine ⟨L, a1, h1, ?_, hs1, by omega⟩
    unfold spec_l01BadCode.f
    refine Ev.bindc (l01Own_eq L (by omega)) (Ev.bindc e1 ?_)
    exact Ev.iff_neg v0 (Ev.iff_neg v1 (Ev.now _))
theorem from_l {l : List Int} (hl : l.length ≤ maxLen) (hb : ∀ x ∈ l, 0 ≤ x ∧ x ≤ 255) : ∀ (m n : Nat) (h : Int), n + m = l.length → 0 ≤ h → h < 18446744073709551616 →
    ∃ h', Ev (fun k => spec_l01From.l0 k l (n : Int) l 0 h) (l, 0, h') ∧ Src l 0 h'
  | 0, n, h, hm, h0, h1 => by
    refine ⟨h, ?_, ⟨hb, hl, by omega, by omega, h0, h1⟩⟩
    refine Ev.step (fun k => by simp only [spec_l01From.l0]; exact rfl) ?_
    exact Ev.iff_neg (by omega) (Ev.now _)
  | m + 1, n, h, hm, h0, h1 => by
    by_cases hn : (n : Int) < 4096
    · have hH := u64_in (IntKind.u64.wrap (IntKind.u64.wrap (h * 1099511628211) + IntKind.u64.wrap (rd l (n : Int))) + 251)
      obtain ⟨h', e, hs⟩ := from_l hl hb m (n + 1) _ (by omega) hH.1 hH.2
      refine ⟨h', ?_, hs⟩
      refine Ev.step (fun k => by simp only [spec_l01From.l0]; exact rfl) ?_
      refine Ev.iff_pos (by omega) (Ev.iff_pos hn (Ev.iff_pos (by omega) ?_))
      rw [wrap_nat (by unfold maxLen at *; omega)]
      exact e
    · refine ⟨h, ?_, ⟨hb, hl, by omega, by omega, h0, h1⟩⟩
      refine Ev.step (fun k => by simp only [spec_l01From.l0]; exact rfl) ?_
      exact Ev.iff_pos (by omega) (Ev.iff_neg hn (Ev.now _))
theorem from_tot {l : List Int} (hl : l.length ≤ maxLen) (hb : ∀ x ∈ l, 0 ≤ x ∧ x ≤ 255) : ∃ h', Ev (fun k => spec_l01From.f k l) (l, 0, h') ∧ Src l 0 h' := by
  unfold spec_l01From.f
  have hH := u64_in (14111 + IntKind.u64.wrap (l.length : Int))
  exact from_l hl hb l.length 0 _ (by omega) hH.1 hH.2
theorem drawn_sp {x : List Int} {most : Int} (h : Drawn x most) (hm : most ≤ 1024) : isSp x = true := (isSp_iff x).2 ⟨h.l0, h.l1, h.all, by have := h.prd; omega⟩
theorem codeA_in {s d : List Int} (hd : d.length ≤ 8) {q rest : Int} (hq : q = 2 ∨ q = 3 ∨ q = 4) (cd : List Int) (a h : Int) {n : Nat} (hn : n ≤ 1024) (L : List Int) (hL : L.length ≤ n)
    (go : ∀ L' : List Int, L'.length ≤ n + 1 → ∃ R, Ev (fun k => spec_l01DrawCode.l0 k L' q rest ((n + 1 : Nat) : Int) cd a h s) (R, a, h) ∧ R.length ≤ 1024) :
    ∀ (m j : Nat) (sm : Int), j + m = d.length → ∃ R, Ev (fun k => spec_l01DrawCode.l1 k L q rest (n : Int) d sm (d.length : Int) (j : Int) cd a h s) (R, a, h) ∧ R.length ≤ 1024
  | 0, j, sm, hm => by
    have hw := wrap_nat (n := n) (by unfold maxLen; omega)
    by_cases c : Int.tmod sm q = rest
    · obtain ⟨R, e, hR⟩ := go (L ++ [(n : Int)]) (by rw [List.length_append, List.length_singleton]; omega)
      refine ⟨R, ?_, hR⟩
      refine Ev.step (fun k => by simp only [spec_l01DrawCode.l1]; exact rfl) ?_
      refine Ev.iff_neg (by omega) (Ev.iff_neg (by omega) (Ev.iff_pos c (Ev.iff_pos (by omega) ?_)))
      rw [hw]
      exact e
    · obtain ⟨R, e, hR⟩ := go L (by omega)
      refine ⟨R, ?_, hR⟩
      refine Ev.step (fun k => by simp only [spec_l01DrawCode.l1]; exact rfl) ?_
      refine Ev.iff_neg (by omega) (Ev.iff_neg (by omega) (Ev.iff_neg c ?_))
      rw [hw]
      exact e
  | m + 1, j, sm, hm => by
    obtain ⟨R, e, hR⟩ := codeA_in hd hq cd a h hn L hL go m (j + 1) (wrap64 (sm + rd d (j : Int))) (by omega)
    refine ⟨R, ?_, hR⟩
    refine Ev.step (fun k => by simp only [spec_l01DrawCode.l1]; exact rfl) ?_
    refine Ev.iff_pos (by omega) (Ev.iff_pos (by omega) (Ev.iff_pos (by omega) ?_))
    rw [wrap_nat (by unfold maxLen; omega)]
    exact e
theorem codeA_l {s : List Int} (hs : isSp s = true) {q rest : Int} (hq : q = 2 ∨ q = 3 ∨ q = 4) (cd : List Int) (a h : Int) : ∀ (m n : Nat) (L : List Int), n + m = NW s → L.length ≤ n →
    ∃ R, Ev (fun k => spec_l01DrawCode.l0 k L q rest (n : Int) cd a h s) (R, a, h) ∧ R.length ≤ 1024
  | 0, n, L, hm, hL => by
    have hN := NW_eq hs
    have hN2 := NW_le hs
    refine ⟨L, ?_, by omega⟩
    refine Ev.step (fun k => by simp only [spec_l01DrawCode.l0]; exact rfl) ?_
    exact Ev.bind (l01N_sp hs) (Ev.iff_neg (by omega) (Ev.now _))
  | m + 1, n, L, hm, hL => by
    have hN := NW_eq hs
    have hN2 := NW_le hs
    have hsl := isSp_len hs
    obtain ⟨R, e, hR⟩ := codeA_in (d := dg s (n : Int)) (by rw [dg_length]; omega) (rest := rest) hq cd a h (n := n) (by omega) L hL (fun L' hL' => codeA_l hs hq cd a h m (n + 1) L' (by omega) hL') (dg s (n : Int)).length 0 0 (by omega)
    refine ⟨R, ?_, hR⟩
    refine Ev.step (fun k => by simp only [spec_l01DrawCode.l0]; exact rfl) ?_
    refine Ev.bind (l01N_sp hs) (Ev.iff_pos (by omega) ?_)
    exact Ev.bind (l01Digits_ev hs (isW_nat hs (by omega))) e
theorem codeB_in {s : List Int} (hs : isSp s = true) (q : Int) (cd : List Int) (a h : Int) {n : Nat} (hn : n < NW s) (L : List Int) (hL : L.length ≤ n) (hw : ∀ x ∈ L, isW s x = true)
    (go : ∀ L' : List Int, L'.length ≤ n + 1 → (∀ x ∈ L', isW s x = true) → ∃ R, Ev (fun k => spec_l01DrawCode.l2 k L' q ((n + 1 : Nat) : Int) cd a h s) (R, a, h) ∧ R.length ≤ 1024) :
    ∀ (m j : Nat) (g : Bool), j + m = L.length → ∃ R, Ev (fun k => spec_l01DrawCode.l3 k L q (n : Int) g (L.length : Int) (j : Int) cd a h s) (R, a, h) ∧ R.length ≤ 1024
  | 0, j, g, hm => by
    have hN2 := NW_le hs
    have hw2 := wrap_nat (n := n) (by unfold maxLen; omega)
    by_cases c : g = true
    · obtain ⟨R, e, hR⟩ := go (L ++ [(n : Int)]) (by rw [List.length_append, List.length_singleton]; omega) (fun x hx => by
        rcases List.mem_append.1 hx with hx | hx
        · exact hw x hx
        · rw [List.mem_singleton.1 hx]
          exact isW_nat hs hn)
      refine ⟨R, ?_, hR⟩
      refine Ev.step (fun k => by simp only [spec_l01DrawCode.l3]; exact rfl) ?_
      refine Ev.iff_neg (by omega) (Ev.iff_pos c (Ev.iff_pos (by omega) ?_))
      rw [hw2]
      exact e
    · obtain ⟨R, e, hR⟩ := go L (by omega) hw
      refine ⟨R, ?_, hR⟩
      refine Ev.step (fun k => by simp only [spec_l01DrawCode.l3]; exact rfl) ?_
      refine Ev.iff_neg (by omega) (Ev.iff_neg c ?_)
      rw [hw2]
      exact e
  | m + 1, j, g, hm => by
    have hN2 := NW_le hs
    by_cases c : g = true
    · have hr : isW s (rd L (j : Int)) = true := by
        have : j < L.length := by omega
        have e2 : rd L (j : Int) = L[j] := by simp [rd, List.getD_eq_getElem?_getD, this]
        rw [e2]
        exact hw _ (List.getElem_mem this)
      obtain ⟨R, e, hR⟩ := codeB_in hs q cd a h hn L hL hw go m (j + 1) (decide (dist s (rd L (j : Int)) (n : Int) ≥ q)) (by omega)
      refine ⟨R, ?_, hR⟩
      refine Ev.step (fun k => by simp only [spec_l01DrawCode.l3]; exact rfl) ?_
      refine Ev.iff_pos (by omega) (Ev.iff_pos c (Ev.iff_pos (by omega) (Ev.iff_pos (by omega) ?_)))
      refine Ev.bind (l01Distance_ev hs hr (isW_nat hs hn)) ?_
      rw [wrap_nat (by unfold maxLen; omega)]
      exact e
    · obtain ⟨R, e, hR⟩ := codeB_in hs q cd a h hn L hL hw go m (j + 1) false (by omega)
      refine ⟨R, ?_, hR⟩
      refine Ev.step (fun k => by simp only [spec_l01DrawCode.l3]; exact rfl) ?_
      refine Ev.iff_pos (by omega) (Ev.iff_neg c ?_)
      rw [wrap_nat (by unfold maxLen; omega)]
      exact e
theorem codeB_l {s : List Int} (hs : isSp s = true) (q : Int) (cd : List Int) (a h : Int) : ∀ (m n : Nat) (L : List Int), n + m = NW s → L.length ≤ n → (∀ x ∈ L, isW s x = true) →
    ∃ R, Ev (fun k => spec_l01DrawCode.l2 k L q (n : Int) cd a h s) (R, a, h) ∧ R.length ≤ 1024
  | 0, n, L, hm, hL, hw => by
    have hN := NW_eq hs
    have hN2 := NW_le hs
    refine ⟨L, ?_, by omega⟩
    refine Ev.step (fun k => by simp only [spec_l01DrawCode.l2]; exact rfl) ?_
    exact Ev.bind (l01N_sp hs) (Ev.iff_neg (by omega) (Ev.now _))
  | m + 1, n, L, hm, hL, hw => by
    have hN := NW_eq hs
    have hN2 := NW_le hs
    obtain ⟨R, e, hR⟩ := codeB_in hs q cd a h (n := n) (by omega) L hL hw (fun L' hL' hw' => codeB_l hs q cd a h m (n + 1) L' (by omega) hL' hw') L.length 0 true (by omega)
    refine ⟨R, ?_, hR⟩
    refine Ev.step (fun k => by simp only [spec_l01DrawCode.l2]; exact rfl) ?_
    exact Ev.bind (l01N_sp hs) (Ev.iff_pos (by omega) e)
theorem codeC_l {s : List Int} (hs : isSp s = true) {cd : List Int} : ∀ (m : Nat) (L : List Int) (a h : Int), m ≤ 64 → Src cd a h → L.Pairwise (· < ·) → L.length + m ≤ 64 →
    ∃ R a' h', Ev (fun k => spec_l01DrawCode.l4 k L (m : Int) cd a h s) (R, a', h') ∧ Src cd a' h' ∧ R.length ≤ 1024
  | 0, L, a, h, hm, hc, hp, hL => by
    refine ⟨L, a, h, ?_, hc, by omega⟩
    refine Ev.step (fun k => by simp only [spec_l01DrawCode.l4]; exact rfl) ?_
    exact Ev.iff_neg (by omega) (Ev.now _)
  | m + 1, L, a, h, hm, hc, hp, hL => by
    obtain ⟨v, a1, h1, e1, hc1, _⟩ := next_tot hc (prd s)
    have ho := ordL_len (L ++ [v])
    rw [List.length_append, List.length_singleton] at ho
    obtain ⟨R, a2, h2, e, hc2, hR⟩ := codeC_l hs m (ordL (L ++ [v])) a1 h1 (by omega) hc1 (ordL_pw _) (by omega)
    refine ⟨R, a2, h2, ?_, hc2, hR⟩
    refine Ev.step (fun k => by simp only [spec_l01DrawCode.l4]; exact rfl) ?_
    refine Ev.iff_pos (by omega) ?_
    refine Ev.bind (l01N_sp hs) (Ev.bindc e1 ?_)
    refine Ev.bind (l01Put_ev hp (by omega) v) ?_
    rw [show wrap64 (((m + 1 : Nat) : Int) - 1) = (m : Int) from by rw [wrap_id (by omega) (by omega)]; omega]
    exact e
theorem drawCode_tot {cd : List Int} {a h : Int} (hc : Src cd a h) {s : List Int} (hs : isSp s = true) : ∃ R a' h', Ev (fun k => spec_l01DrawCode.f k cd a h s) (R, a', h') ∧ Src cd a' h' ∧ R.length ≤ 1024 := by
  obtain ⟨v, a1, h1, e1, hc1, _⟩ := next_tot hc 4
  by_cases v0 : v = 0
  · obtain ⟨q, a2, h2, e2, hc2, hq⟩ := pick_tot hc1 (l := [2, 2, 3, 4]) (by simp)
    obtain ⟨r, a3, h3, e3, hc3, _⟩ := next_tot hc2 2
    simp only [List.mem_cons, List.not_mem_nil, or_false] at hq
    obtain ⟨R, e, hR⟩ := codeA_l hs (q := q) (rest := r) (by omega) cd a3 h3 (NW s) 0 [] (by omega) (by simp)
    refine ⟨R, a3, h3, ?_, hc3, hR⟩
    unfold spec_l01DrawCode.f
    refine Ev.bindc rfl (Ev.bindc e1 (Ev.iff_pos v0 (Ev.bindc e2 (Ev.bindc e3 e))))
  by_cases v1 : v = 1
  · obtain ⟨q, a2, h2, e2, hc2, hq⟩ := pick_tot hc1 (l := [2, 3, 3]) (by simp)
    obtain ⟨R, e, hR⟩ := codeB_l hs q cd a2 h2 (NW s) 0 [] (by omega) (by simp) (by simp)
    refine ⟨R, a2, h2, ?_, hc2, hR⟩
    unfold spec_l01DrawCode.f
    refine Ev.bindc rfl (Ev.bindc e1 (Ev.iff_neg v0 (Ev.iff_pos v1 (Ev.bindc e2 e))))
  · obtain ⟨q, a2, h2, e2, hc2, hq⟩ := pick_tot hc1 (l := [3, 8, 20]) (by simp)
    simp only [List.mem_cons, List.not_mem_nil, or_false] at hq
    obtain ⟨r, a3, h3, e3, hc3, _, hr⟩ := next_tot hc2 q
    have hr2 := hr (by omega)
    obtain ⟨n, rfl⟩ : ∃ n : Nat, r = (n : Int) := ⟨r.toNat, by omega⟩
    obtain ⟨R, a4, h4, e, hc4, hR⟩ := codeC_l hs n [] a3 h3 (by omega) hc3 List.Pairwise.nil (by simp; omega)
    refine ⟨R, a4, h4, ?_, hc4, hR⟩
    unfold spec_l01DrawCode.f
    refine Ev.bindc rfl (Ev.bindc e1 (Ev.iff_neg v0 (Ev.iff_neg v1 (Ev.bindc e2 (Ev.bindc e3 e)))))
theorem greedy_len {s : List Int} (hs : isSp s = true) (r : Int) : (msort (greedyL s r (prd s).toNat)).length ≤ 1025 := by
  have := isSp_prd hs
  have h2 := gRun_len s r (prd s).toNat ((prd s).toNat + 1) (List.replicate (prd s).toNat false) []
  rw [msort_length]
  unfold greedyL
  simp at h2
  omega
theorem mx_mn {r : Int} : 0 ≤ mx (mn r 8) 1 ∧ mx (mn r 8) 1 ≤ 8 := by
  unfold mx mn
  split <;> split <;> omega
theorem with_tot {l : List Int} (hl : l.length ≤ maxLen) (hb : ∀ x ∈ l, 0 ≤ x ∧ x ≤ 255) : ∃ s L r, Ev (fun k => spec_l02With.f k l) (s, L, r) ∧ s.length ≤ 8 ∧ L.length ≤ 1048576 := by
  obtain ⟨h0, e0, c0⟩ := from_tot hl hb
  obtain ⟨x, a1, h1, e1, c1, hx⟩ := small_tot c0
  have hs := drawn_sp hx (by omega)
  obtain ⟨R, a2, h2, e2, c2, hR⟩ := drawCode_tot c1 hs
  obtain ⟨p, a3, h3, e3, c3, _⟩ := near_tot c2 8
  obtain ⟨r, a4, h4, e4, c4, _⟩ := pick_tot c3 (l := [0, 1, 1, 1, 2, p]) (by simp)
  obtain ⟨v, a5, h5, e5, c5, _⟩ := next_tot c4 4
  obtain ⟨s, a6, h6, e6, c6, hs6⟩ := bad_tot c5 hx.l0 hx.l1
  by_cases v0 : v = 0
  · have hgl := greedy_len hs (mx (mn r 8) 1)
    obtain ⟨L, a7, h7, e7, c7, hL⟩ := badCode_tot2 c6 hx.l1 (L := msort (greedyL x (mx (mn r 8) 1) (prd x).toNat)) (by have := greedy_len hs (mx (mn r 8) 1); omega)
    refine ⟨s, L, r, ?_, hs6, by omega⟩
    unfold spec_l02With.f
    refine Ev.bind e0 (Ev.bind e1 (Ev.bind e2 (Ev.bindc e3 (Ev.bindc e4 (Ev.bindc e5 (Ev.iff_pos v0 ?_))))))
    exact Ev.bind (greedy_sp hs mx_mn) (Ev.bind e6 (Ev.bind e7 (Ev.now _)))
  · obtain ⟨L, a7, h7, e7, c7, hL⟩ := badCode_tot2 c6 hx.l1 (L := R) (by omega)
    refine ⟨s, L, r, ?_, hs6, by omega⟩
    unfold spec_l02With.f
    refine Ev.bind e0 (Ev.bind e1 (Ev.bind e2 (Ev.bindc e3 (Ev.bindc e4 (Ev.bindc e5 (Ev.iff_neg v0 ?_))))))
    exact Ev.bind e6 (Ev.bind e7 (Ev.now _))
theorem mdL_low (s : List Int) (w : Int) : ∀ (l : List Int) (a : Int), ∀ x ∈ l, mdL s w a l ≤ dist s x w
  | [], _, _, h => by simp at h
  | y :: l, a, x, h => by
    simp only [mdL]
    rcases List.mem_cons.1 h with rfl | h
    · have h1 := mdL_le s w l (mn a (dist s x w))
      have h2 : mn a (dist s x w) ≤ dist s x w := by
        unfold mn
        split <;> omega
      omega
    · exact mdL_low s w l _ x h
theorem mdL_at (s : List Int) (w : Int) : ∀ (l : List Int) (a : Int), mdL s w a l = a ∨ ∃ x ∈ l, dist s x w = mdL s w a l
  | [], _ => .inl rfl
  | y :: l, a => by
    simp only [mdL]
    rcases mdL_at s w l (mn a (dist s y w)) with h | ⟨x, hx, h⟩
    · by_cases hm : mn a (dist s y w) = a
      · left
        rw [h, hm]
      · right
        refine ⟨y, by simp, ?_⟩
        rw [h]
        unfold mn at hm ⊢
        split <;> simp_all
    · exact .inr ⟨x, by simp [hx], h⟩
theorem maxQ_ge (L : List Int) : ∀ (n : Nat), n ≤ L.length → ∀ j : Nat, j < n → rd L (j : Int) ≤ maxQ L n
  | 0, _, j, hj => by omega
  | n + 1, h, j, hj => by
    rw [maxQ_succ L (show n < L.length by omega)]
    unfold gr
    by_cases hj2 : j = n
    · subst hj2
      split <;> omega
    · have := maxQ_ge L n (by omega) j (by omega)
      split <;> omega
theorem mdL_iff {s : List Int} (hs : isSp s = true) {c : List Int} (hp : 0 < c.length) (u r : Int) : mdL s u 8 c ≤ r ↔ ∃ x ∈ c, dist s x u ≤ r := by
  constructor
  · intro h
    rcases mdL_at s u c 8 with e | ⟨x, hx, e⟩
    · obtain ⟨y, hy⟩ : ∃ y, y ∈ c := List.exists_mem_of_length_pos hp
      have h2 := dist_8 hs y u
      exact ⟨y, hy, by omega⟩
    · exact ⟨x, hx, by omega⟩
  · rintro ⟨x, hx, h⟩
    have := mdL_low s u c 8 x hx
    omega
theorem cov_zero {s : List Int} (hs : isSp s = true) {c : List Int} (hp : 0 < c.length) (u r : Int) : cov s c r u = 0 ↔ r < mdL s u 8 c := by
  have h := mdL_iff hs hp u r
  have h1 := cov_nonneg s c r u
  constructor
  · intro h2
    by_cases h3 : mdL s u 8 c ≤ r
    · obtain ⟨x, hx, hd⟩ := h.1 h3
      have := cov_pos hx hd
      omega
    · omega
  · intro h2
    unfold cov
    have : c.countP (fun w => decide (dist s w u ≤ r)) = 0 := by
      rw [List.countP_eq_zero]
      intro x hx
      rw [decide_eq_true_eq]
      intro hd
      have := h.2 ⟨x, hx, hd⟩
      omega
    omega
theorem covers_iff {s : List Int} (hs : isSp s = true) {c : List Int} (hp : 0 < c.length) (r : Int) : 0 ∉ covL s c r ↔ maxQ (farW s c) (NW s) ≤ r := by
  have hN := NW_pos hs
  constructor
  · intro h
    obtain ⟨i1, i2, _⟩ := ag_law (farW s c) (NW s - 1) (by rw [farW_length]; omega)
    rw [show NW s - 1 + 1 = NW s by omega] at i1 i2
    rw [farW_rd s c i1] at i2
    by_cases h2 : maxQ (farW s c) (NW s) ≤ r
    · exact h2
    · exfalso
      apply h
      have h3 := (cov_zero hs hp (ag (farW s c) (NW s) : Nat) r).2 (by omega)
      unfold covL
      rw [List.mem_map]
      exact ⟨_, List.mem_range.2 i1, h3⟩
  · intro h hm
    unfold covL at hm
    rw [List.mem_map] at hm
    obtain ⟨u, hu, e⟩ := hm
    have hu' := List.mem_range.1 hu
    have h2 := (cov_zero hs hp (u : Int) r).1 e
    have h3 := maxQ_ge (farW s c) (NW s) (by rw [farW_length]; omega) u hu'
    rw [farW_rd s c hu'] at h3
    omega
theorem radius_bd {s : List Int} (hs : isSp s = true) {c : List Int} (hp : 0 < c.length) : 0 ≤ maxQ (farW s c) (NW s) ∧ maxQ (farW s c) (NW s) ≤ 8 := by
  have hN := NW_pos hs
  obtain ⟨i1, i2, _⟩ := ag_law (farW s c) (NW s - 1) (by rw [farW_length]; omega)
  rw [show NW s - 1 + 1 = NW s by omega] at i1 i2
  rw [farW_rd s c i1] at i2
  rw [← i2]
  constructor
  · rcases mdL_at s (ag (farW s c) (NW s) : Nat) c 8 with e | ⟨x, hx, e⟩
    · omega
    · have := dist_nonneg s x (ag (farW s c) (NW s) : Nat)
      omega
  · exact mdL_le _ _ _ _
theorem rCover_of {s c : List Int} (h : rSome s c [] = 0) {r : Int} (h0 : 0 ≤ r) (h1 : r ≤ 8) : rCover s c r = 0 := by
  have : rCode s c [] = 0 := by
    unfold rSome at h
    by_cases h2 : rCode s c [] = 0
    · exact h2
    · rw [if_neg h2] at h
      exact h
  unfold rCover
  rw [if_pos this, if_pos ⟨h0, h1⟩]
theorem covers_l {lean : List Int} (hl : lean.length ≤ 1048576) {nd : List Int} (hn : nd.length ≤ 1048576) (h : ∀ x ∈ nd, x ∈ lean) : ∀ (m n : Nat), n + m = nd.length → Ev (fun k => laws_FnCovers.l0 k lean nd (n : Int)) true
  | 0, n, hm => by
    refine Ev.step (fun k => by simp only [laws_FnCovers.l0]; exact rfl) ?_
    exact Ev.iff_neg (by omega) (Ev.now _)
  | m + 1, n, hm => by
    have ih := covers_l hl hn h m (n + 1) (by omega)
    have hlt : n < nd.length := by omega
    have e2 : rd nd (n : Int) = nd[n] := by simp [rd, List.getD_eq_getElem?_getD, hlt]
    have hx : rd nd (n : Int) ∈ lean := by
      rw [e2]
      exact h _ (List.getElem_mem hlt)
    refine Ev.step (fun k => by simp only [laws_FnCovers.l0]; exact rfl) ?_
    refine Ev.iff_pos (by omega) (Ev.iff_pos (by omega) ?_)
    refine Ev.bind (hasInt_ev hl _) ?_
    refine Ev.iff_pos (decide_eq_true hx) ?_
    rw [wrap_nat (by unfold maxLen; omega)]
    exact ih
theorem neededR_len2 (s : List Int) {c : List Int} (hcl : c.length ≤ 1048576) (r : Int) : (neededR s c r).1.length ≤ 1048576 := ENeededWords.neededR_len s hcl r
theorem covers_j6 {s L : List Int} (hL : L.length ≤ 1048576) (r : Int) : Ev (fun k => laws_FnCovers.j6 k r (leanR s L r).1 (leanR s L r).2 (rUncoveredWords s L r).1 (rUncoveredWords s L r).2 (neededR s L r).1 (neededR s L r).2 (rCoversSpace s L r).1 (rCoversSpace s L r).2 s) true := by
  refine Ev.step (fun k => by simp only [laws_FnCovers.j6]; exact rfl) ?_
  by_cases h : rCover s L r = 0
  · obtain ⟨hs, hc, h0, h1⟩ := rCover_zero h
    have hT := ENeededWords.timesL_covL hs hc r
    have e1 : leanR s L r = (leanO s L r, 0) := by
      unfold leanR leanO
      rw [if_pos h, hT]
    have e2 : rUncoveredWords s L r = (zer (covL s L r), 0) := by
      unfold rUncoveredWords
      rw [if_pos h]
    have e3 : neededR s L r = (L.filter (fun x => needQ s (covL s L r) x r 0 (prd s).toNat), 0) := by
      unfold neededR
      rw [if_pos h, hT]
    have e4 : rCoversSpace s L r = (decide (0 ∉ covL s L r), 0) := by
      unfold rCoversSpace
      rw [if_pos h]
    have hO := leanO_isC hc r
    have hOl := isC_len hs hO
    have hk : rCover s (leanO s L r) r = 0 := by
      have : rCode s (leanO s L r) [] = 0 := by
        unfold rCode rWords
        simp [hs, hO]
      unfold rCover
      rw [if_pos this, if_pos ⟨h0, h1⟩]
    have g1 : rUncoveredWords s (leanO s L r) r = (zer (covL s L r), 0) := by
      unfold rUncoveredWords
      rw [if_pos hk, leanO_zer hs]
    have g2 : neededR s (leanO s L r) r = (leanO s L r, 0) := by
      unfold neededR
      rw [if_pos hk, ENeededWords.timesL_covL hs hO r, leanO_need hs r]
    have i1 := implUncoveredWords_ev s (c := leanO s L r) (by omega) r
    have i2 := ENeededWords.implNeededWords_eq s (c := leanO s L r) (by omega) r
    rw [g1] at i1
    rw [g2] at i2
    have hz : (zer (covL s L r)).length ≤ 1024 := by
      have := rUncoveredWords_len s L r
      rw [e2] at this
      exact this
    have hnl : (neededR s L r).1.length ≤ 1048576 := neededR_len2 s hL r
    rw [e3] at hnl
    rw [e1, e2, e3, e4]
    refine Ev.iff_pos (by first | rfl | trivial) (Ev.bind i1 (Ev.bindc i2 ?_))
    refine Ev.iff_pos (by first | rfl | trivial) (Ev.iff_pos (by first | rfl | trivial) (Ev.iff_pos (by first | rfl | trivial) (Ev.iff_pos (by first | rfl | trivial) (Ev.iff_pos (by first | rfl | trivial) ?_))))
    refine Ev.bind (likeInts_same (l := zer (covL s L r)) (by omega)) (Ev.iff_pos (by first | rfl | trivial) ?_)
    refine Ev.bind (likeInts_same (l := leanO s L r) (by omega)) (Ev.iff_pos (by first | rfl | trivial) ?_)
    refine Ev.step (fun k => by simp only [laws_FnCovers.j7]; exact rfl) ?_
    refine Ev.iff_neg (by rw [zer_nil]; simp) ?_
    exact covers_l (by omega) hnl (fun x hx => leanO_has hs r hx) _ 0 (Nat.zero_add _)
  · have e1 : leanR s L r = ([], rCover s L r) := by
      unfold leanR
      rw [if_neg h]
    have e2 : rUncoveredWords s L r = ([], rCover s L r) := by
      unfold rUncoveredWords
      rw [if_neg h]
    have e3 : neededR s L r = ([], rCover s L r) := by
      unfold neededR
      rw [if_neg h]
    have e4 : rCoversSpace s L r = (false, rCover s L r) := by
      unfold rCoversSpace
      rw [if_neg h]
    rw [e1, e2, e3, e4]
    refine Ev.iff_neg h (Ev.iff_pos (by simp) (Ev.iff_pos (by first | rfl | trivial) (Ev.iff_pos (by first | rfl | trivial) ?_)))
    show Ev (fun _ => some (rCover s L r == rCover s L r)) true
    rw [show (rCover s L r == rCover s L r) = true from by simp]
    exact Ev.now _
theorem FnCovers (l0 : List Int) (m0 : l0.length ≤ maxLen) (b0 : l0.length * 1 ≤ 140737488351232) (w0 : ∀ x ∈ l0, (Lit.int .u8 x).wf = true) : ∃ k, laws_FnCovers.f k l0 = some true := by
  have hb := bytes_in w0
  suffices h : Ev (fun k => laws_FnCovers.f k l0) true by
    obtain ⟨N, h⟩ := h
    exact ⟨N, h N (Nat.le_refl _)⟩
  unfold laws_FnCovers.f
  refine Ev.bindc rfl ?_
  by_cases hbig : (l0.length : Int) > 4096
  · refine Ev.iff_pos (decide_eq_true hbig) (Ev.now _)
  refine Ev.iff_neg (by simpa using hbig) ?_
  obtain ⟨s, L, r, e1, _, hL⟩ := with_tot m0 hb
  refine Ev.bind (a := (s, L, r)) (by unfold spec_DrawLeanCode.f; exact Ev.bind e1 (Ev.now _)) ?_
  refine Ev.bindc (ELeanCode.implLeanCode_eq s hL r) ?_
  refine Ev.bind (ELeanCode.specLeanCode_ev s hL r) ?_
  refine Ev.iff_pos (by first | rfl | trivial) ?_
  have hlen := ELeanCode.leanR_len s L r
  refine Ev.bind (likeInts_same (by omega)) ?_
  refine Ev.step (fun k => by simp only [laws_FnCovers.j0]; exact rfl) ?_
  refine Ev.iff_neg (by simp) ?_
  refine Ev.bind (implUncoveredWords_ev s hL r) ?_
  refine Ev.bind (specUncoveredWords_ev s hL r) ?_
  refine Ev.iff_pos (by first | rfl | trivial) ?_
  have hlen2 := rUncoveredWords_len s L r
  refine Ev.bind (likeInts_same (by omega)) ?_
  refine Ev.step (fun k => by simp only [laws_FnCovers.j1]; exact rfl) ?_
  refine Ev.iff_neg (by simp) ?_
  refine Ev.bindc (ENeededWords.implNeededWords_eq s hL r) ?_
  refine Ev.bind (ENeededWords.specNeededWords_ev s hL r) ?_
  refine Ev.iff_pos (by first | rfl | trivial) ?_
  refine Ev.bind (likeInts_same (neededR_len2 s hL r)) ?_
  refine Ev.step (fun k => by simp only [laws_FnCovers.j2]; exact rfl) ?_
  refine Ev.iff_neg (by simp) ?_
  refine Ev.bind (implCoversSpace_ev s hL r) ?_
  refine Ev.bind (specCoversSpace_ev s hL r) ?_
  refine Ev.iff_pos (by first | rfl | trivial) ?_
  refine Ev.step (fun k => by simp only [laws_FnCovers.j3]; exact rfl) ?_
  refine Ev.iff_neg (by simp) ?_
  obtain ⟨x, W, r2, e2, _, hW⟩ := with_tot m0 hb
  refine Ev.bind (a := (x, W)) (by unfold spec_DrawRadiusOf.f; exact Ev.bind e2 (Ev.now _)) ?_
  refine Ev.bind (implRadiusOf_ev x hW) ?_
  refine Ev.bind (specRadiusOf_ev x hW) ?_
  refine Ev.iff_pos (by first | rfl | trivial) ?_
  refine Ev.step (fun k => by simp only [laws_FnCovers.j4]; exact rfl) ?_
  refine Ev.iff_neg (by simp) ?_
  by_cases hf : rSome x W [] = 0
  · obtain ⟨hx, hWc, _, hp⟩ := rSome_zero hf
    have hR : rRadiusOf x W = (maxQ (farW x W) (NW x), 0) := by
      unfold rRadiusOf
      rw [if_pos hf]
    have hbd := radius_bd hx hp
    have c1 : rCoversSpace x W (maxQ (farW x W) (NW x)) = (true, 0) := by
      unfold rCoversSpace
      rw [if_pos (rCover_of hf hbd.1 hbd.2), decide_eq_true ((covers_iff hx hp _).2 (Int.le_refl _))]
    have i1 := implCoversSpace_ev x hW (maxQ (farW x W) (NW x))
    rw [c1] at i1
    rw [hR]
    refine Ev.iff_pos (by first | rfl | trivial) (Ev.bind i1 (Ev.iff_pos (by first | rfl | trivial) ?_))
    refine Ev.step (fun k => by simp only [laws_FnCovers.j5]; exact rfl) ?_
    refine Ev.iff_neg (by simp) ?_
    by_cases hpos : maxQ (farW x W) (NW x) > 0
    · have c2 : rCoversSpace x W (maxQ (farW x W) (NW x) - 1) = (false, 0) := by
        unfold rCoversSpace
        rw [if_pos (rCover_of hf (by omega) (by omega)), decide_eq_false]
        intro h
        have := (covers_iff hx hp _).1 h
        omega
      have i2 := implCoversSpace_ev x hW (maxQ (farW x W) (NW x) - 1)
      rw [c2] at i2
      refine Ev.iff_pos hpos ?_
      rw [wrap_id (x := maxQ (farW x W) (NW x) - 1) (by omega) (by omega)]
      refine Ev.bind i2 (Ev.iff_pos (by first | rfl | trivial) (Ev.iff_neg (by simp) ?_))
      exact covers_j6 hL r
    · refine Ev.iff_neg hpos ?_
      exact covers_j6 hL r
  · have hR : rRadiusOf x W = (0, rSome x W []) := by
      unfold rRadiusOf
      rw [if_neg hf]
    rw [hR]
    refine Ev.iff_neg hf ?_
    exact covers_j6 hL r
end Go.Proofs.Ytlfipjdjmpdblaa.Q
