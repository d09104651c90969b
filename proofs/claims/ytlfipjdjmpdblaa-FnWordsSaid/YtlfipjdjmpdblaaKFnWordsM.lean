/- What the law FnWords needs, part 13: words, walks of functions (each says that a call returns what the plain Lean function beside it says), plain lemmas. -/
import Derived.Test.YtlfipjdjmpdblaaKFnWordsL
import Derived.Laws.Bits64b
set_option linter.unusedVariables false
set_option linter.unusedSimpArgs false
namespace Go.Proofs.Ytlfipjdjmpdblaa.Q
open Go.RowKit Go.Proofs.Ytlfipjdjmpdblaa.P Go.Proofs.YtlfipjdjmpdblaaW.PrintWords CC
structure Src (cd : List Int) (a h : Int) : Prop where
  bytes : ∀ x ∈ cd, 0 ≤ x ∧ x ≤ 255
  len : cd.length ≤ maxLen
  a0 : 0 ≤ a
  a1 : a ≤ cd.length
  h0 : 0 ≤ h
  h1 : h < 18446744073709551616
theorem and_low (x : Int) (h0 : 0 ≤ x) (h1 : x < 18446744073709551616) : 0 ≤ Go.bits .and .u64 x 16777215 ∧ Go.bits .and .u64 x 16777215 ≤ 16777215 := by
  obtain ⟨n, rfl⟩ : ∃ n : Nat, x = (n : Int) := ⟨x.toNat, by omega⟩
  have h := bits_and_u64_nat n 16777215 (by omega) (by omega)
  have e : ((16777215 : Nat) : Int) = 16777215 := rfl
  rw [e] at h
  rw [h]
  have := Nat.and_le_right (n := n) (m := 16777215)
  omega
theorem u64_in (x : Int) : 0 ≤ IntKind.u64.wrap x ∧ IntKind.u64.wrap x < 18446744073709551616 := by rw [IntKind.wrap_u64]; omega
theorem next_tot {cd : List Int} {a h : Int} (hs : Src cd a h) (n : Int) : ∃ v a' h', spec_l01Next.f cd a h n = some (v, a', h') ∧ Src cd a' h' ∧ (n < 1 → v = 0) ∧ (1 ≤ n → 0 ≤ v ∧ v < n) := by
  unfold spec_l01Next.f
  by_cases hn : n < 1
  · rw [if_pos hn]
    exact ⟨0, a, h, rfl, hs, fun _ => rfl, fun z => by omega⟩
  rw [if_neg hn]
  have hh := u64_in (IntKind.u64.wrap (h * 6364136223846793005) + 1442695040888963407)
  generalize IntKind.u64.wrap (IntKind.u64.wrap (h * 6364136223846793005) + 1442695040888963407) = H at *
  have hb := and_low (H / 8589934592) (by omega) (by omega)
  generalize Go.bits .and .u64 (H / 8589934592) 16777215 = X at *
  have hX : wrap64 X = X := wrap_id (by omega) (by omega)
  have hlen := hs.len
  unfold maxLen at hlen
  by_cases ha : a < (cd.length : Int)
  · rw [if_pos ha, if_pos hs.a0, if_neg (by omega)]
    have hy : 0 ≤ rd cd a ∧ rd cd a ≤ 255 := by
      have h0 := hs.a0
      have : a.toNat < cd.length := by omega
      have e : rd cd a = cd[a.toNat] := by simp [rd, List.getD_eq_getElem?_getD, this]
      rw [e]
      exact hs.bytes _ (List.getElem_mem this)
    have hY : wrap64 (rd cd a) = rd cd a := wrap_id (by omega) (by omega)
    have hZ : wrap64 (X + rd cd a) = X + rd cd a := wrap_id (by omega) (by omega)
    have h0 := hs.a0
    rw [hX, hY, hZ, wrap_id (x := a + 1) (by omega) (by omega), Int.tmod_eq_emod_of_nonneg (by omega)]
    refine ⟨_, _, _, rfl, ⟨hs.bytes, hs.len, by omega, by omega, hh.1, hh.2⟩, fun z => by omega, fun _ => ⟨Int.emod_nonneg _ (by omega), Int.emod_lt_of_pos _ (by omega)⟩⟩
  · rw [if_neg ha, if_neg (by omega), hX, Int.tmod_eq_emod_of_nonneg (by omega)]
    exact ⟨_, _, _, rfl, ⟨hs.bytes, hs.len, hs.a0, hs.a1, hh.1, hh.2⟩, fun z => by omega, fun _ => ⟨Int.emod_nonneg _ (by omega), Int.emod_lt_of_pos _ (by omega)⟩⟩
theorem pick_tot {cd : List Int} {a h : Int} (hs : Src cd a h) {l : List Int} (hl : l ≠ []) : ∃ v a' h', spec_l01Pick.f cd a h l = some (v, a', h') ∧ Src cd a' h' ∧ v ∈ l := by
  obtain ⟨v, a', h', e, hs', _, h2⟩ := next_tot hs (l.length : Int)
  have hp : 1 ≤ (l.length : Int) := by
    have := List.length_pos_iff.2 hl
    omega
  have hv := h2 hp
  unfold spec_l01Pick.f
  rw [e]
  simp only [Option.bind_some]
  rw [if_pos hv.1, if_pos hv.2]
  refine ⟨_, _, _, rfl, hs', ?_⟩
  have : v.toNat < l.length := by omega
  have e2 : rd l v = l[v.toNat] := by simp [rd, List.getD_eq_getElem?_getD, this]
  rw [e2]
  exact List.getElem_mem this
theorem near_tot {cd : List Int} {a h : Int} (hs : Src cd a h) (m : Int) : ∃ v a' h', spec_l01Near.f cd a h m = some (v, a', h') ∧ Src cd a' h' ∧ -9223372036854775808 ≤ v ∧ v ≤ 9223372036854775807 := by
  have hw : -9223372036854775808 ≤ wrap64 (m + 1) ∧ wrap64 (m + 1) ≤ 9223372036854775807 := by unfold wrap64; omega
  obtain ⟨v, a', h', e, hs', _, _⟩ := next_tot hs 14
  unfold spec_l01Near.f
  rw [e]
  simp only [Option.bind_some]
  by_cases hv : v = 0
  · rw [if_pos hv]
    obtain ⟨v2, a2, h2, e2, hs2, hm⟩ := pick_tot hs' (l := [(-1), wrap64 (m + 1), 1099511627776, (-4611686018427387904)]) (by simp)
    rw [e2]
    refine ⟨v2, a2, h2, rfl, hs2, ?_⟩
    simp only [List.mem_cons, List.not_mem_nil, or_false] at hm
    rcases hm with rfl | rfl | rfl | rfl <;> omega
  · rw [if_neg hv]
    obtain ⟨v2, a2, h2, e2, hs2, h3, h4⟩ := next_tot hs' (wrap64 (m + 1))
    rw [e2]
    refine ⟨v2, a2, h2, rfl, hs2, ?_⟩
    by_cases hz : wrap64 (m + 1) < 1
    · have := h3 hz
      omega
    · have := h4 (by omega)
      omega
structure Drawn (x : List Int) (most : Int) : Prop where
  all : x.all sizeOk = true
  l0 : 1 ≤ x.length
  l1 : x.length ≤ 8
  prd : prd x ≤ most
theorem drawOf_end {cd : List Int} {most a h : Int} {x : List Int} (hs : Src cd a h) (hm0 : 2 ≤ most) (hx : x.all sizeOk = true) (hl : x.length ≤ 8) (hp : CC.prd x ≤ most) :
    ∃ x' a' h', (if (x.length : Int) = 0 then (if x.length < 17592186044416 then (some ((x ++ [2]), a, h)) else (none)) else (some (x, a, h))) = some (x', a', h') ∧ Src cd a' h' ∧ Drawn x' most := by
  by_cases h0 : (x.length : Int) = 0
  · have : x = [] := List.eq_nil_of_length_eq_zero (by omega)
    subst this
    rw [if_pos h0, if_pos (by simp)]
    exact ⟨_, _, _, rfl, hs, ⟨by decide, by simp, by simp, by show CC.prd [2] ≤ most; simp [CC.prd]; omega⟩⟩
  · rw [if_neg h0]
    exact ⟨_, _, _, rfl, hs, ⟨hx, by omega, hl, hp⟩⟩
theorem drawOf_l {cd : List Int} {most kind : Int} (hm0 : 2 ≤ most) (hm1 : most ≤ 256) (hk : kind = 0 ∨ kind = 2 ∨ kind = 3) : ∀ (m : Nat) (a h : Int) (x : List Int), Src cd a h → x.all sizeOk = true → x.length + m ≤ 8 → CC.prd x ≤ most →
    ∃ x' a' h', Ev (fun k => spec_l01DrawOf.l0 k most kind (m : Int) cd a h x) (x', a', h') ∧ Src cd a' h' ∧ Drawn x' most
  | 0, a, h, x, hs, hx, hl, hp => by
    obtain ⟨x', a', h', e, hs', hd⟩ := drawOf_end hs hm0 hx (by omega) hp
    refine ⟨x', a', h', ?_, hs', hd⟩
    refine Ev.step (fun k => by simp only [spec_l01DrawOf.l0]; exact rfl) ?_
    refine Ev.iff_neg (by omega) ?_
    rw [e]
    exact Ev.now _
  | m + 1, a, h, x, hs, hx, hl, hp => by
    have hN := l01N_ev x (by unfold maxLen; omega)
    rw [prw_one (by omega) hx] at hN
    have hp0 := prd_pos x hx
    have hw : wrap64 (((m + 1 : Nat) : Int) - 1) = (m : Int) := by rw [wrap_id (by omega) (by omega)]; omega
    have more : ∀ (q a h : Int), q = 2 ∨ q = 3 ∨ q = 4 → Src cd a h → ∃ x' a' h', Ev (fun k => (if (wrap64 (CC.prd x * q)) > most then (if (x.length : Int) = 0 then (if x.length < 17592186044416 then (some ((x ++ [2]), a, h)) else (none)) else (some (x, a, h))) else (if x.length < 17592186044416 then (spec_l01DrawOf.l0 k most kind (m : Int) cd a h (x ++ [q])) else (none)))) (x', a', h') ∧ Src cd a' h' ∧ Drawn x' most := fun q a h hq hs => by
      have hpq : CC.prd x * q ≤ 1024 ∧ 0 ≤ CC.prd x * q := by rcases hq with rfl | rfl | rfl <;> omega
      by_cases hb : wrap64 (CC.prd x * q) > most
      · obtain ⟨x', a', h', e, hs', hd⟩ := drawOf_end hs hm0 hx (by omega) hp
        exact ⟨x', a', h', Ev.iff_pos hb (by rw [e]; exact Ev.now _), hs', hd⟩
      · have hb2 := hb
        rw [wrap_id (by omega) (by omega)] at hb2
        obtain ⟨x', a', h', e, hs', hd⟩ := drawOf_l hm0 hm1 hk m a h (x ++ [q]) hs (by rw [List.all_append, hx]; simpa using (sizeOk_iff q).2 hq) (by rw [List.length_append, List.length_singleton]; omega) (by rw [prd_append]; simp only [CC.prd, Int.mul_one]; omega)
        exact ⟨x', a', h', Ev.iff_neg hb (Ev.iff_pos (by omega) e), hs', hd⟩
    by_cases h0 : kind = 0
    · obtain ⟨q, a1, h1, e1, hs1, hq⟩ := pick_tot hs (l := [2, 2, 3, 4]) (by simp)
      simp only [List.mem_cons, List.not_mem_nil, or_false] at hq
      obtain ⟨x', a', h', e, hs', hd⟩ := more q a1 h1 (by omega) hs1
      refine ⟨x', a', h', ?_, hs', hd⟩
      refine Ev.step (fun k => by simp only [spec_l01DrawOf.l0]; exact rfl) ?_
      refine Ev.iff_pos (by omega) (Ev.iff_pos h0 ?_)
      refine Ev.bindc e1 ?_
      refine Ev.bind hN ?_
      rw [hw]
      exact e
    · obtain ⟨x', a', h', e, hs', hd⟩ := more kind a h (by omega) hs
      refine ⟨x', a', h', ?_, hs', hd⟩
      refine Ev.step (fun k => by simp only [spec_l01DrawOf.l0]; exact rfl) ?_
      refine Ev.iff_pos (by omega) (Ev.iff_neg h0 ?_)
      refine Ev.bind hN ?_
      rw [hw]
      exact e
theorem drawOf_tot {cd : List Int} {most a h : Int} (hs : Src cd a h) (hm0 : 2 ≤ most) (hm1 : most ≤ 256) : ∃ x' a' h', Ev (fun k => spec_l01DrawOf.f k cd a h most) (x', a', h') ∧ Src cd a' h' ∧ Drawn x' most := by
  obtain ⟨kd, a1, h1, e1, hs1, hk⟩ := pick_tot hs (l := [0, 2, 2, 3, 3]) (by simp)
  obtain ⟨v, a2, h2, e2, hs2, _, hv⟩ := next_tot hs1 8
  have hv2 := hv (by omega)
  simp only [List.mem_cons, List.not_mem_nil, or_false] at hk
  obtain ⟨n, rfl⟩ : ∃ n : Nat, v = (n : Int) := ⟨v.toNat, by omega⟩
  obtain ⟨x', a', h', e, hs', hd⟩ := drawOf_l hm0 hm1 (kind := kd) (by omega) (n + 1) a2 h2 [] hs2 rfl (by simp; omega) (by simp [CC.prd]; omega)
  refine ⟨x', a', h', ?_, hs', hd⟩
  unfold spec_l01DrawOf.f
  refine Ev.bindc e1 (Ev.bindc e2 ?_)
  rw [show wrap64 (1 + (n : Int)) = ((n + 1 : Nat) : Int) from by rw [wrap_id (by omega) (by omega)]; omega]
  exact e
theorem bad_l (cd : List Int) (a h : Int) : ∀ (m : Nat) (x : List Int), x.length + m = 6 → ∃ x', Ev (fun k => spec_l01Bad.l0 k cd a h x) (x', a, h) ∧ x'.length ≤ 8
  | 0, x, hm => by
    refine ⟨x, ?_, by omega⟩
    refine Ev.step (fun k => by simp only [spec_l01Bad.l0]; exact rfl) ?_
    exact Ev.iff_neg (by omega) (Ev.now _)
  | m + 1, x, hm => by
    obtain ⟨x', e, hl⟩ := bad_l cd a h m (x ++ [4]) (by rw [List.length_append, List.length_singleton]; omega)
    refine ⟨x', ?_, hl⟩
    refine Ev.step (fun k => by simp only [spec_l01Bad.l0]; exact rfl) ?_
    exact Ev.iff_pos (by omega) (Ev.iff_pos (by omega) e)
theorem bad_more (cd : List Int) (a h : Int) (x : List Int) (hl : x.length ≤ 8) : ∃ x', Ev (fun k => spec_l01Bad.l0 k cd a h x) (x', a, h) ∧ x'.length ≤ 8 := by
  by_cases h6 : x.length ≤ 6
  · exact bad_l cd a h (6 - x.length) x (by omega)
  · refine ⟨x, ?_, hl⟩
    refine Ev.step (fun k => by simp only [spec_l01Bad.l0]; exact rfl) ?_
    exact Ev.iff_neg (by omega) (Ev.now _)
theorem bad_tot {cd : List Int} {a h : Int} (hs : Src cd a h) {x : List Int} (h0 : 1 ≤ x.length) (hl : x.length ≤ 8) : ∃ x' a' h', Ev (fun k => spec_l01Bad.f k cd a h x) (x', a', h') ∧ Src cd a' h' ∧ x'.length ≤ 8 := by
  obtain ⟨v, a1, h1, e1, hs1, _, _⟩ := next_tot hs 50
  by_cases v0 : v = 0
  · refine ⟨[], a1, h1, ?_, hs1, by simp⟩
    unfold spec_l01Bad.f
    refine Ev.bindc (l01Own_eq x (by omega)) (Ev.bindc e1 ?_)
    exact Ev.iff_pos v0 (Ev.now _)
  by_cases v1 : v = 1
  · obtain ⟨i, a2, h2, e2, hs2, _, hi⟩ := next_tot hs1 (x.length : Int)
    obtain ⟨q, a3, h3, e3, hs3, _⟩ := pick_tot hs2 (l := [1, 5, 0, (-1), 1099511627776]) (by simp)
    have hi2 := hi (by omega)
    refine ⟨x.set i.toNat q, a3, h3, ?_, hs3, by rw [List.length_set]; exact hl⟩
    unfold spec_l01Bad.f
    refine Ev.bindc (l01Own_eq x (by omega)) (Ev.bindc e1 ?_)
    refine Ev.iff_neg v0 (Ev.iff_pos v1 ?_)
    refine Ev.bindc e2 (Ev.bindc e3 ?_)
    exact Ev.iff_pos hi2.1 (Ev.iff_pos hi2.2 (Ev.now _))
  by_cases v2 : v = 2
  · obtain ⟨x', e, hx⟩ := bad_more cd a1 h1 x hl
    refine ⟨x', a1, h1, ?_, hs1, hx⟩
    unfold spec_l01Bad.f
    refine Ev.bindc (l01Own_eq x (by omega)) (Ev.bindc e1 ?_)
    exact Ev.iff_neg v0 (Ev.iff_neg v1 (Ev.iff_pos v2 e))
  · refine ⟨x, a1, h1, ?_, hs1, hl⟩
    unfold spec_l01Bad.f
    refine Ev.bindc (l01Own_eq x (by omega)) (Ev.bindc e1 ?_)
    exact Ev.iff_neg v0 (Ev.iff_neg v1 (Ev.iff_neg v2 (Ev.now _)))
theorem from_l {l : List Int} (hl : l.length ≤ maxLen) (hb : ∀ x ∈ l, 0 ≤ x ∧ x ≤ 255) : ∀ (m n : Nat) (h : Int), n + m = l.length → 0 ≤ h → h < 18446744073709551616 →
    ∃ h', Ev (fun k => spec_l01From.l0 k l (n : Int) l 0 h) (l, 0, h') ∧ Src l 0 h'
  | 0, n, h, hm, h0, h1 => by
    refine ⟨h, ?_, ⟨hb, hl, by omega, by omega, h0, h1⟩⟩
    refine Ev.step (fun k => by simp only [spec_l01From.l0]; exact rfl) ?_
    exact Ev.iff_neg (by omega) (Ev.now _)
  | m + 1, n, h, hm, h0, h1 => by
    by_cases hn : (n : Int) < 4096
    · have hH := u64_in (IntKind.u64.wrap (IntKind.u64.wrap (h * 1099511628211) + IntKind.u64.wrap (rd l (n : Int))) + 251)
      obtain ⟨h', e, hs⟩ := from_l hl hb m (n + 1) _ (by omega) hH.1 hH.2
      refine ⟨h', ?_, hs⟩
      refine Ev.step (fun k => by simp only [spec_l01From.l0]; exact rfl) ?_
      refine Ev.iff_pos (by omega) (Ev.iff_pos hn (Ev.iff_pos (by omega) ?_))
      rw [wrap_nat (by unfold maxLen at *; omega)]
      exact e
    · refine ⟨h, ?_, ⟨hb, hl, by omega, by omega, h0, h1⟩⟩
      refine Ev.step (fun k => by simp only [spec_l01From.l0]; exact rfl) ?_
      exact Ev.iff_pos (by omega) (Ev.iff_neg hn (Ev.now _))
theorem from_tot {l : List Int} (hl : l.length ≤ maxLen) (hb : ∀ x ∈ l, 0 ≤ x ∧ x ≤ 255) : ∃ h', Ev (fun k => spec_l01From.f k l) (l, 0, h') ∧ Src l 0 h' := by
  unfold spec_l01From.f
  have hH := u64_in (14111 + IntKind.u64.wrap (l.length : Int))
  exact from_l hl hb l.length 0 _ (by omega) hH.1 hH.2
theorem drawn_sp {x : List Int} {most : Int} (h : Drawn x most) (hm : most ≤ 1024) : isSp x = true := (isSp_iff x).2 ⟨h.l0, h.l1, h.all, by have := h.prd; omega⟩
theorem draw_tot {cd : List Int} {a h : Int} (hs : Src cd a h) : ∃ x' a' h', Ev (fun k => spec_l01Draw.f k cd a h) (x', a', h') ∧ Src cd a' h' ∧ Drawn x' 256 := by
  obtain ⟨v, a1, h1, e1, hs1, hv⟩ := pick_tot hs (l := [16, 81, 256, 256]) (by simp)
  simp only [List.mem_cons, List.not_mem_nil, or_false] at hv
  obtain ⟨x', a', h', e, hs', hd⟩ := drawOf_tot hs1 (most := v) (by omega) (by omega)
  refine ⟨x', a', h', ?_, hs', ⟨hd.all, hd.l0, hd.l1, by have := hd.prd; omega⟩⟩
  unfold spec_l01Draw.f
  refine Ev.bindc e1 ?_
  exact Ev.bind e (Ev.now _)
theorem with1_tot {l : List Int} (hl : l.length ≤ maxLen) (hb : ∀ x ∈ l, 0 ≤ x ∧ x ≤ 255) : ∃ s u w, Ev (fun k => spec_l01With.f k l) (s, u, w) ∧ s.length ≤ 8 := by
  obtain ⟨h0, e0, c0⟩ := from_tot hl hb
  obtain ⟨x, a1, h1, e1, c1, hx⟩ := draw_tot c0
  have hs := drawn_sp hx (by omega)
  obtain ⟨u, a2, h2, e2, c2, _⟩ := near_tot c1 (wrap64 (prd x - 1))
  obtain ⟨w, a3, h3, e3, c3, _⟩ := near_tot c2 (wrap64 (prd x - 1))
  obtain ⟨s, a4, h4, e4, c4, hs4⟩ := bad_tot c3 hx.l0 hx.l1
  refine ⟨s, u, w, ?_, hs4⟩
  unfold spec_l01With.f
  exact Ev.bind e0 (Ev.bind e1 (Ev.bind (l01N_sp hs) (Ev.bindc e2 (Ev.bind (l01N_sp hs) (Ev.bindc e3 (Ev.bind e4 (Ev.now _)))))))
theorem rad_tot {l : List Int} (hl : l.length ≤ maxLen) (hb : ∀ x ∈ l, 0 ≤ x ∧ x ≤ 255) : ∃ s u r, Ev (fun k => spec_l01DrawRadius.f k l) (s, u, r) ∧ s.length ≤ 8 := by
  obtain ⟨s, u, w, e, hs⟩ := with1_tot hl hb
  obtain ⟨h0, e0, c0⟩ := from_tot hl hb
  obtain ⟨v, a2, h2, e2, c2, _⟩ := pick_tot c0 (l := [1, 2, 3, 8]) (by simp)
  obtain ⟨r, a3, h3, e3, c3, _⟩ := near_tot c0 v
  refine ⟨s, u, r, ?_, hs⟩
  unfold spec_l01DrawRadius.f
  exact Ev.bind e (Ev.bind e0 (Ev.bindc e2 (Ev.bindc e3 (Ev.now _))))
theorem chg_tot {l : List Int} (hl : l.length ≤ maxLen) (hb : ∀ x ∈ l, 0 ≤ x ∧ x ≤ 255) : ∃ s w i d, Ev (fun k => spec_DrawChangeDigit.f k l) (s, w, i, d) ∧ s.length ≤ 8 := by
  obtain ⟨h0, e0, c0⟩ := from_tot hl hb
  obtain ⟨x, a1, h1, e1, c1, hx⟩ := draw_tot c0
  have hs := drawn_sp hx (by omega)
  obtain ⟨w, a2, h2, e2, c2, _⟩ := near_tot c1 (wrap64 (prd x - 1))
  obtain ⟨i, a3, h3, e3, c3, _⟩ := near_tot c2 (wrap64 ((x.length : Int) - 1))
  obtain ⟨s, a4, h4, e4, c4, hs4⟩ := bad_tot c3 hx.l0 hx.l1
  obtain ⟨d, a5, h5, e5, c5, _⟩ := pick_tot c4 (l := [0, 1, 1, 2, 3, 4, (-1)]) (by simp)
  refine ⟨s, w, i, d, ?_, hs4⟩
  unfold spec_DrawChangeDigit.f
  exact Ev.bind e0 (Ev.bind e1 (Ev.bind (l01N_sp hs) (Ev.bindc e2 (Ev.bindc e3 (Ev.bind e4 (Ev.bindc e5 (Ev.now _)))))))
theorem digits_tot {l : List Int} (hl : l.length ≤ maxLen) (hb : ∀ x ∈ l, 0 ≤ x ∧ x ≤ 255) : ∃ s L, Ev (fun k => spec_DrawWordOf.f k l) (s, L) ∧ s.length ≤ 8 ∧ L.length ≤ 1048576 := by
  obtain ⟨h0, e0, c0⟩ := from_tot hl hb
  obtain ⟨x, a1, h1, e1, c1, hx⟩ := draw_tot c0
  have hs := drawn_sp hx (by omega)
  have hp := isSp_prd1 hs
  obtain ⟨w, a2, h2, e2, c2, _, hw⟩ := next_tot c1 (prd x)
  have hw2 : isW x w = true := (isW_iff x w).2 (hw (by omega))
  have hdl := dg_length x w
  have hx1 := hx.l1
  have hx0 := hx.l0
  obtain ⟨v, a3, h3, e3, c3, _⟩ := next_tot c2 16
  by_cases v0 : v = 0
  · obtain ⟨s, a4, h4, e4, c4, hs4⟩ := bad_tot c3 hx.l0 hx.l1
    refine ⟨s, dg x w ++ [0], ?_, hs4, by rw [List.length_append, List.length_singleton]; omega⟩
    unfold spec_DrawWordOf.f
    refine Ev.bind e0 (Ev.bind e1 (Ev.bind (l01N_sp hs) (Ev.bindc e2 (Ev.bind (l01Digits_ev hs hw2) (Ev.bindc e3 (Ev.iff_pos v0 ?_))))))
    have hlt : (dg x w).length < 17592186044416 := by omega
    exact Ev.iff_pos hlt (Ev.bind e4 (Ev.now _))
  by_cases v1 : v = 1
  · obtain ⟨i, a4, h4, e4, c4, _, hi⟩ := next_tot c3 ((dg x w).length : Int)
    obtain ⟨q, a5, h5, e5, c5, _⟩ := pick_tot c4 (l := [(-1), 2, 3, 4]) (by simp)
    have hi2 := hi (by omega)
    obtain ⟨s, a6, h6, e6, c6, hs6⟩ := bad_tot c5 hx.l0 hx.l1
    refine ⟨s, (dg x w).set i.toNat q, ?_, hs6, by rw [List.length_set]; omega⟩
    unfold spec_DrawWordOf.f
    refine Ev.bind e0 (Ev.bind e1 (Ev.bind (l01N_sp hs) (Ev.bindc e2 (Ev.bind (l01Digits_ev hs hw2) (Ev.bindc e3 (Ev.iff_neg v0 (Ev.iff_pos v1 ?_)))))))
    refine Ev.bindc e4 (Ev.bindc e5 ?_)
    exact Ev.iff_pos hi2.1 (Ev.iff_pos hi2.2 (Ev.bind e6 (Ev.now _)))
  · obtain ⟨s, a4, h4, e4, c4, hs4⟩ := bad_tot c3 hx.l0 hx.l1
    refine ⟨s, dg x w, ?_, hs4, by omega⟩
    unfold spec_DrawWordOf.f
    refine Ev.bind e0 (Ev.bind e1 (Ev.bind (l01N_sp hs) (Ev.bindc e2 (Ev.bind (l01Digits_ev hs hw2) (Ev.bindc e3 (Ev.iff_neg v0 (Ev.iff_neg v1 ?_)))))))
    exact Ev.bind e4 (Ev.now _)
theorem words_of {s : List Int} {u w : Int} (h : rWords s [u, w] = 0) : isSp s = true ∧ isW s u = true ∧ isW s w = true := by
  obtain ⟨hs, hc⟩ := rWords_zero h
  exact ⟨hs, hc u (by simp), hc w (by simp)⟩
theorem words2 {s : List Int} {u w : Int} (hs : isSp s = true) (hu : isW s u = true) (hw : isW s w = true) : rWords s [u, w] = 0 := by
  unfold rWords
  simp [hs, hu, hw]
theorem words1 {s : List Int} {w : Int} (hs : isSp s = true) (hw : isW s w = true) : rWords s [w] = 0 := by
  unfold rWords
  simp [hs, hw]
theorem word_j6 (y : List Int) (z i d : Int) : Ev (fun k => laws_FnWords.j6 k z (rChange y z i d).1 (rChange y z i d).2 false y) true := by
  refine Ev.step (fun k => by simp only [laws_FnWords.j6]; exact rfl) ?_
  refine Ev.iff_neg (by simp) ?_
  by_cases h : (rChange y z i d).2 = 0
  · obtain ⟨hs, hz, hc, hd⟩ := change_dist h
    have e := implDistanceOf_ev y z (rChange y z i d).1
    have hr : rDistanceOf y z (rChange y z i d).1 = (dist y z (rChange y z i d).1, 0) := by
      unfold rDistanceOf
      rw [if_pos (words2 hs hz hc)]
    rw [hr] at e
    refine Ev.iff_pos h (Ev.bind e (Ev.iff_pos (by first | rfl | trivial) ?_))
    show Ev (fun _ => some (decide (dist y z (rChange y z i d).1 ≤ 1))) true
    rw [decide_eq_true hd]
    exact Ev.now _
  · exact Ev.iff_neg h (Ev.now _)
theorem word_j5 {l : List Int} (hl : l.length ≤ maxLen) (hb : ∀ x ∈ l, 0 ≤ x ∧ x ≤ 255) : Ev (fun k => laws_FnWords.j5 k l) true := by
  obtain ⟨y, z, i, d, e1, _⟩ := chg_tot hl hb
  obtain ⟨a, L, e2, _, hL⟩ := digits_tot hl hb
  refine Ev.step (fun k => by simp only [laws_FnWords.j5]; exact rfl) ?_
  refine Ev.bind e1 (Ev.bindc (implChangeDigit_ev y z i d) (Ev.bind (specChangeDigit_ev y z i d) ?_))
  refine Ev.bind e2 (Ev.bind (implWordOf_ev a L hL) (Ev.bind (specWordOf_ev a L) ?_))
  refine Ev.iff_pos (by first | rfl | trivial) (Ev.iff_pos (by first | rfl | trivial) (Ev.iff_pos (by first | rfl | trivial) ?_))
  have e : ((rWordOf a L).1 != (rWordOf a L).1) = false := by simp
  show Ev (fun k => laws_FnWords.j6 k z (rChange y z i d).1 (rChange y z i d).2 ((rWordOf a L).1 != (rWordOf a L).1) y) true
  rw [e]
  exact word_j6 y z i d
theorem word_l0 {l : List Int} (hl : l.length ≤ maxLen) (hb : ∀ x ∈ l, 0 ≤ x ∧ x ≤ 255) {B C : List Int} (hB : B.length ≤ 1048576) (hC : C.length ≤ 1048576) (h : ∀ x ∈ C, x ∈ B) : ∀ (m n : Nat), n + m = C.length → Ev (fun k => laws_FnWords.l0 k l B C (C.length : Int) (n : Int)) true
  | 0, n, hm => by
    refine Ev.step (fun k => by simp only [laws_FnWords.l0]; exact rfl) ?_
    exact Ev.iff_neg (by omega) (word_j5 hl hb)
  | m + 1, n, hm => by
    have ih := word_l0 hl hb hB hC h m (n + 1) (by omega)
    have hlt : n < C.length := by omega
    have e2 : rd C (n : Int) = C[n] := by simp [rd, List.getD_eq_getElem?_getD, hlt]
    have hx : rd C (n : Int) ∈ B := by
      rw [e2]
      exact h _ (List.getElem_mem hlt)
    refine Ev.step (fun k => by simp only [laws_FnWords.l0]; exact rfl) ?_
    refine Ev.iff_pos (by omega) (Ev.iff_pos (by omega) (Ev.iff_pos (by omega) ?_))
    refine Ev.bind (hasInt_ev hB _) (Ev.iff_pos (decide_eq_true hx) ?_)
    rw [wrap_nat (by unfold maxLen; omega)]
    exact ih
theorem word_j1 {l : List Int} (hl : l.length ≤ maxLen) (hb : ∀ x ∈ l, 0 ≤ x ∧ x ≤ 255) : Ev (fun k => laws_FnWords.j1 k l) true := by
  obtain ⟨x, v, r, e1, _⟩ := rad_tot hl hb
  refine Ev.step (fun k => by simp only [laws_FnWords.j1]; exact rfl) ?_
  refine Ev.bind (a := (x, v, r)) (by unfold spec_DrawBallOf.f; exact Ev.bind e1 (Ev.now _)) ?_
  refine Ev.bind (implBallOf_ev x v r) (Ev.bind (specBallOf_ev x v r) ?_)
  refine Ev.bindc (implSphereOf_eq x v r) (Ev.bind (specSphereOf_ev x v r) ?_)
  refine Ev.bind (implBallSize_ev x r) (Ev.bind (specBallSize_ev x r) ?_)
  have hb1 := rBallOf_len x v r
  have hb2 := rSphereOf_len x v r
  refine Ev.iff_pos (by first | rfl | trivial) (Ev.bind (likeInts_same (by omega)) (Ev.iff_pos (by first | rfl | trivial) ?_))
  refine Ev.iff_pos (by first | rfl | trivial) (Ev.bind (likeInts_same (by omega)) (Ev.iff_pos (by first | rfl | trivial) ?_))
  refine Ev.iff_pos (by first | rfl | trivial) ?_
  refine Ev.step (fun k => by simp only [laws_FnWords.j2]; exact rfl) ?_
  refine Ev.iff_neg (by simp) ?_
  by_cases h : rBall x v r = 0
  · obtain ⟨hs, hv, h0, h8⟩ := rBall_zero h
    have hz : rBall x 0 r = 0 := by
      unfold rBall
      rw [if_pos (words1 hs (isW_zero hs)), if_pos ⟨h0, h8⟩]
    have r1 : rBallOf x v r = (ballL x v r, 0) := by
      unfold rBallOf
      rw [if_pos h]
    have r2 : rSphereOf x v r = (selL (fun u => decide (dist x v u = r)) (NW x), 0) := by
      unfold rSphereOf
      rw [if_pos h]
    have r3 : rBallSize x r = (((ballL x 0 r).length : Int), 0) := by
      unfold rBallSize
      rw [if_pos hz]
    rw [r1] at hb1 ⊢
    rw [r2] at hb2 ⊢
    rw [r3]
    have hs1 := ball_size hs hv r
    have hs2 := sphere_len x v r
    refine Ev.iff_pos (by first | rfl | trivial) (Ev.iff_pos (by show ((ballL x v r).length : Int) = ((ballL x 0 r).length : Int); omega) ?_)
    refine Ev.step (fun k => by simp only [laws_FnWords.j3]; exact rfl) ?_
    refine Ev.iff_neg (by simp; omega) ?_
    exact word_l0 hl hb (B := ballL x v r) (C := selL (fun u => decide (dist x v u = r)) (NW x)) (by show (ballL x v r).length ≤ 1048576; dsimp only at hb1; omega) (by dsimp only at hb2; omega) (fun y hy => sphere_in hy) _ 0 (Nat.zero_add _)
  · have r1 : rBallOf x v r = ([], rBall x v r) := by
      unfold rBallOf
      rw [if_neg h]
    rw [r1]
    exact Ev.iff_neg h (word_j5 hl hb)
theorem word_j0 {l : List Int} (hl : l.length ≤ maxLen) (hb : ∀ x ∈ l, 0 ≤ x ∧ x ≤ 255) (s : List Int) (u w : Int) :
    Ev (fun k => laws_FnWords.j0 k l u w (rSumOfWords s u w).1 (rSumOfWords s u w).2 (rDistanceOf s u w).1 (rOpp s w).1 (rWeightOf s w).1 (rDigitsOf s w).1 false s) true := by
  refine Ev.step (fun k => by simp only [laws_FnWords.j0]; exact rfl) ?_
  refine Ev.iff_neg (by simp) ?_
  by_cases h : rWords s [u, w] = 0
  · obtain ⟨hs, hu, hw⟩ := words_of h
    have h1 := words1 hs hw
    have ho := oppW_isW hs w
    have hy := sumW_isW hs u (oppW s w)
    have ht := sumW_isW hs u w
    have hw' := (isW_iff s w).1 hw
    have r1 : rSumOfWords s u w = (sumW s u w, 0) := by
      unfold rSumOfWords
      rw [if_pos h]
    have r2 : rDistanceOf s u w = (dist s u w, 0) := by
      unfold rDistanceOf
      rw [if_pos h]
    have r3 := rOpp_eq h1
    have r4 : rWeightOf s w = (dist s 0 w, 0) := by
      unfold rWeightOf
      rw [if_pos h1]
    have r5 : rDigitsOf s w = (dg s w, 0) := by
      unfold rDigitsOf
      rw [if_pos h1]
    rw [r1, r2, r3, r4, r5]
    refine Ev.iff_pos (by first | rfl | trivial) ?_
    have i1 := implWordOf_ev s (dg s w) (by have := dg_length s w; have := isSp_len hs; omega)
    have q1 : rWordOf s (dg s w) = (w, 0) := by
      unfold rWordOf
      rw [if_pos hs, if_pos (dg_length s w), if_pos (inR_dg (isSp_all hs) w), wd_dg (isSp_all hs) hw'.1 hw'.2]
    rw [q1] at i1
    have i2 := implSumOfWords_ev s w (oppW s w)
    have q2 : rSumOfWords s w (oppW s w) = (0, 0) := by
      unfold rSumOfWords
      rw [if_pos (words2 hs hw ho), sum_opp hs]
    rw [q2] at i2
    have i3 := implSumOfWords_ev s u (oppW s w)
    have q3 : rSumOfWords s u (oppW s w) = (sumW s u (oppW s w), 0) := by
      unfold rSumOfWords
      rw [if_pos (words2 hs hu ho)]
    rw [q3] at i3
    have i4 := implWeightOf_ev s (sumW s u (oppW s w))
    have q4 : rWeightOf s (sumW s u (oppW s w)) = (dist s u w, 0) := by
      unfold rWeightOf
      rw [if_pos (words1 hs hy), weight_diff hs]
    rw [q4] at i4
    have i5 := implDistanceOf_ev s w u
    have q5 : rDistanceOf s w u = (dist s u w, 0) := by
      unfold rDistanceOf
      rw [if_pos (words2 hs hw hu), dist_comm]
    rw [q5] at i5
    have i6 := implDistanceOf_ev s u (sumW s u w)
    have q6 : rDistanceOf s u (sumW s u w) = (dist s 0 w, 0) := by
      unfold rDistanceOf
      rw [if_pos (words2 hs hu ht), dist_sum hs]
    rw [q6] at i6
    refine Ev.bind i1 (Ev.bind i2 (Ev.bind i3 (Ev.bind i4 (Ev.bind i5 (Ev.bind i6 ?_)))))
    refine Ev.iff_pos (by first | rfl | trivial) (Ev.iff_pos (by first | rfl | trivial) (Ev.iff_pos (by first | rfl | trivial) (Ev.iff_pos (by first | rfl | trivial) (Ev.iff_pos (by first | rfl | trivial) (Ev.iff_pos (by first | rfl | trivial) ?_)))))
    refine Ev.iff_pos (by first | rfl | trivial) (Ev.iff_pos (by first | rfl | trivial) (Ev.iff_pos (by first | rfl | trivial) (Ev.iff_pos (by first | rfl | trivial) (Ev.iff_pos (by first | rfl | trivial) ?_))))
    have hz := dist_zero hs hu hw
    have hq : (dist s u w == 0) = (u == w) := by
      rw [Bool.eq_iff_iff]
      simp [hz]
    refine Ev.iff_neg ?_ (word_j1 hl hb)
    show ¬ (((dist s u w == 0) != (u == w)) = true)
    rw [hq]
    simp
  · have r1 : rSumOfWords s u w = (0, rWords s [u, w]) := by
      unfold rSumOfWords
      rw [if_neg h]
    rw [r1]
    exact Ev.iff_neg h (word_j1 hl hb)
theorem FnWords (l0 : List Int) (m0 : l0.length ≤ maxLen) (b0 : l0.length * 1 ≤ 140737488351232) (w0 : ∀ x ∈ l0, (Lit.int .u8 x).wf = true) : ∃ k, laws_FnWords.f k l0 = some true := by
  have hb := bytes_in w0
  suffices h : Ev (fun k => laws_FnWords.f k l0) true by
    obtain ⟨N, h⟩ := h
    exact ⟨N, h N (Nat.le_refl _)⟩
  unfold laws_FnWords.f
  refine Ev.bindc rfl ?_
  by_cases hbig : (l0.length : Int) > 4096
  · refine Ev.iff_pos (decide_eq_true hbig) (Ev.now _)
  refine Ev.iff_neg (by simpa using hbig) ?_
  obtain ⟨s, u, w, e1, _⟩ := with1_tot m0 hb
  refine Ev.bind (a := (s, u, w)) (by unfold spec_DrawSumOfWords.f; exact Ev.bind e1 (Ev.now _)) ?_
  refine Ev.bind (implSumOfWords_ev s u w) (Ev.bind (specSumOfWords_ev s u w) ?_)
  refine Ev.bind (implDistanceOf_ev s u w) (Ev.bind (specDistanceOf_ev s u w) ?_)
  refine Ev.bindc (EOppositeWord.implOppositeWord_ev s w) (Ev.bind (EOppositeWord.specOppositeWord_ev s w) ?_)
  refine Ev.bind (implWeightOf_ev s w) (Ev.bind (specWeightOf_ev s w) ?_)
  refine Ev.bindc (implDigitsOf_ev s w) (Ev.bind (specDigitsOf_ev s w) ?_)
  have hdl := rDigitsOf_len s w
  refine Ev.iff_pos (by first | rfl | trivial) (Ev.iff_pos (by first | rfl | trivial) (Ev.iff_pos (by first | rfl | trivial) (Ev.iff_pos (by first | rfl | trivial) (Ev.iff_pos (by first | rfl | trivial) (Ev.iff_pos (by first | rfl | trivial) (Ev.iff_pos (by first | rfl | trivial) (Ev.iff_pos (by first | rfl | trivial) (Ev.iff_pos (by first | rfl | trivial) ?_))))))))
  refine Ev.bind (likeInts_same (by omega)) (Ev.iff_pos (by first | rfl | trivial) ?_)
  refine Ev.bind (isSpace_ev s) (Ev.bind (a := isSp s) (by unfold spec_IsSpace.f; exact Ev.bind (l01Is_ev s) (Ev.now _)) ?_)
  have e : (isSp s != isSp s) = false := by simp
  show Ev (fun k => laws_FnWords.j0 k l0 u w (rSumOfWords s u w).1 (rSumOfWords s u w).2 (rDistanceOf s u w).1 (rOpp s w).1 (rWeightOf s w).1 (rDigitsOf s w).1 (isSp s != isSp s) s) true
  rw [e]
  exact word_j0 m0 hb s u w
end Go.Proofs.Ytlfipjdjmpdblaa.Q
