/- What the law FnWords needs, part 10: words, walks of functions (each says that a call returns what the plain Lean function beside it says), plain lemmas. -/
import Derived.Test.YtlfipjdjmpdblaaKFnWordsI
import Derived.FnLit
set_option linter.unusedVariables false
set_option linter.unusedSimpArgs false
namespace Go.Proofs.Ytlfipjdjmpdblaa.P
open Go.RowKit Go.Proofs.YtlfipjdjmpdblaaW.PrintWords Go.Proofs.YtlfipjdjmpdblaaW.PrintLast Go.Proofs.YtlfipjdjmpdblaaW.PrintMore CC
theorem flat8_get : ∀ (L : List (List Int)), (∀ l ∈ L, l.length = 8) → ∀ (n j : Nat) (l : List Int), L[n]? = some l → j < 8 → (flat8 L)[n * 8 + j]? = (nums .u8 l)[j]?
  | [], _, n, j, l, h, _ => by simp at h
  | a :: L, hL, 0, j, l, h, hj => by
    simp only [List.getElem?_cons_zero, Option.some.injEq] at h
    subst h
    have ha := hL a (by simp)
    simp only [flat8, List.map_cons, List.flatten_cons, Nat.zero_mul, Nat.zero_add]
    rw [List.getElem?_append_left (by simp [nums]; omega)]
  | a :: L, hL, n + 1, j, l, h, hj => by
    have ha := hL a (by simp)
    have hn : (nums .u8 a).length = 8 := by simpa [nums] using ha
    have ih := flat8_get L (fun l hl => hL l (by simp [hl])) n j l (by simpa using h) hj
    simp only [flat8, List.map_cons, List.flatten_cons] at ih ⊢
    rw [List.getElem?_append_right (by omega), hn, show (n + 1) * 8 + j - 8 = n * 8 + j by omega]
    exact ih
theorem all8_get (s : List Int) {P n : Nat} (h : n < P) : (all8 s P)[n]? = some (dig8 s (n : Int)) := by simp [all8, h]
theorem all8_len (s : List Int) (P : Nat) : ∀ l ∈ all8 s P, l.length = 8 := by
  intro l hl
  simp only [all8, List.mem_map] at hl
  obtain ⟨i, _, rfl⟩ := hl
  exact dig8_length _ _
theorem row8 {W : World} {b g cap P : Nat} {s : List Int} (h : W.ownsRow b 54 8 (.slice (some ⟨g, 0, none⟩) P cap) P (flat8 (all8 s P))) {n : Nat} (hn : n < P) {y0 y1 y2 y3 y4 y5 y6 y7 : Int} (hd : dig8 s (n : Int) = [y0, y1, y2, y3, y4, y5, y6, y7]) :
    W.cell? ⟨g, n * 8, none⟩ = some (.int .u8 y0) ∧ W.cell? ⟨g, n * 8 + 1, none⟩ = some (.int .u8 y1) ∧ W.cell? ⟨g, n * 8 + 2, none⟩ = some (.int .u8 y2) ∧ W.cell? ⟨g, n * 8 + 3, none⟩ = some (.int .u8 y3) ∧
    W.cell? ⟨g, n * 8 + 4, none⟩ = some (.int .u8 y4) ∧ W.cell? ⟨g, n * 8 + 5, none⟩ = some (.int .u8 y5) ∧ W.cell? ⟨g, n * 8 + 6, none⟩ = some (.int .u8 y6) ∧ W.cell? ⟨g, n * 8 + 7, none⟩ = some (.int .u8 y7) := by
  have key : ∀ j u, j < 8 → (nums .u8 [y0, y1, y2, y3, y4, y5, y6, y7])[j]? = some u → W.cell? ⟨g, n * 8 + j, none⟩ = some u := by
    intro j u hj hu
    have := h.cells (g := g) rfl (n * 8 + j) u (by rw [flat8_get _ (all8_len s P) n j _ (all8_get s hn) hj, hd]; exact hu)
    rwa [add_plain] at this
  exact ⟨key 0 _ (by omega) rfl, key 1 _ (by omega) rfl, key 2 _ (by omega) rfl, key 3 _ (by omega) rfl, key 4 _ (by omega) rfl, key 5 _ (by omega) rfl, key 6 _ (by omega) rfl, key 7 _ (by omega) rfl⟩
def thoseL (s : List Int) (p : List Int → Bool) (P : Nat) : List Int := ((List.range P).filter fun (i : Nat) => p (dig8 s (i : Int))).map fun (i : Nat) => (i : Int)
theorem thoseL_succ (s : List Int) (p : List Int → Bool) (P : Nat) : thoseL s p (P + 1) = thoseL s p P ++ if p (dig8 s (P : Int)) then [(P : Int)] else [] := by
  unfold thoseL
  rw [List.range_succ, List.filter_append, List.map_append]
  congr 1
  by_cases h : p (dig8 s (P : Int)) = true <;> simp [h]
theorem thoseL_len (s : List Int) (p : List Int → Bool) (P : Nat) : (thoseL s p P).length ≤ P := by
  unfold thoseL
  have := List.length_filter_le (fun (i : Nat) => p (dig8 s (i : Int))) (List.range P)
  simpa using this
theorem infoI : (Try.prog.info? 2).map (fun i => (i.zero, i.size, i.bytes)) = some (some (.int .i64 0), 1, 8) := by kernel_rfl
theorem take_rd8 {d : List Int} {n : Nat} (hn : n < d.length) : d.take (n + 1) = d.take n ++ [rd d (n : Int)] := by
  rw [List.take_add_one]
  simp [rd, List.getD_eq_getElem?_getD, hn]
set_option maxHeartbeats 4000000 in
set_option maxRecDepth 100000 in
theorem «ball$1».those_calls (P1 P2 : Option Addr) (p : List Int → Bool) (A : Option Addr) (c : Nat) (s : List Int) (w : World) (hr : Kd.C (Kd.int .i64) w A s.length s) (hc : s.length ≤ c) (hs : isSp s = true) (kc : Nat) (hcount : impl_count.f kc s = some (prd s))
    (hf : ∀ (y0 y1 y2 y3 y4 y5 y6 y7 : Int) (W : World), Below w.heap.size w W → Calls Try.prog 113 #[.agg #[.int .u8 y0, .int .u8 y1, .int .u8 y2, .int .u8 y3, .int .u8 y4, .int .u8 y5, .int .u8 y6, .int .u8 y7], .pointer P1, .pointer P2] W fun e w' => e = .returned (.bool (p [y0, y1, y2, y3, y4, y5, y6, y7])) ∧ Below W.heap.size W w') :
    Calls Try.prog 73 #[.agg #[.slice A s.length c], .func (Fn.func 113) #[] #[.pointer P1, .pointer P2]] w
      fun e w' => ∃ v, e = .returned v ∧ w'.ownsRow w.heap.size 2 1 v (thoseL s p (prd s).toNat).length (nums .i64 (thoseL s p (prd s).toNat)) ∧ Below w.heap.size w w' := by
  have huS := Try.underlying26
  have huD := Try.underlying54
  have HR := Aside0.mk hr
  have HS := Aside0.mk hs
  have p0 := isSp_prd1 hs
  have p1 := isSp_prd hs
  have HK := Aside0.mk hcount
  have HF := Aside0.mk hf
  clear hr hs hcount hf
  obtain ⟨i0, hi, hz0, hz1, hz2⟩ := info_parts infoI
  have HI := Aside0.mk (And.intro hi (And.intro hz0 (And.intro hz1 hz2)))
  clear hi hz0 hz1 hz2
  obtain ⟨P, hP⟩ : ∃ P : Nat, prd s = (P : Int) := ⟨(prd s).toNat, by omega⟩
  have hP2 : (prd s).toNat = P := by omega
  have pP : P ≤ 1024 := by omega
  have pP0 : 1 ≤ P := by omega
  rw [hP2]
  have HP := Aside0.mk hP
  clear hP hP2 p0 p1
  go_enter Try.func73, Try.ntmps73
  go_wp2_with fail
  have hcell : ((w.alloc (.cells #[.slice A s.length c] 26)).alloc (.cells #[] 2)).heap[w.heap.size]? = some (.cells #[.slice A s.length c] 26 (0, 0)) := blk_alloc (blk_new _ _) _
  have hB : Below w.heap.size w ((w.alloc (.cells #[.slice A s.length c] 26)).alloc (.cells #[] 2)) := ((Below.refl _ _).alloc (Nat.le_refl _) _).alloc (by simp) _
  have hO : ((w.alloc (.cells #[.slice A s.length c] 26)).alloc (.cells #[] 2)).ownsRow w.heap.size 2 1 (.slice (some ⟨w.heap.size + 1, 0, none⟩) 0 0) 0 [] :=
    ⟨rfl, .inr ⟨w.heap.size + 1, 0, #[], rfl, by omega, by simpa using blk_new (w.alloc (.cells #[.slice A s.length c] 26)) (.cells #[] 2), by omega, by unfold maxLen; omega, rfl, rfl⟩⟩
  refine (allDigits_calls A c s _ (Kd.C_below HR.out hB) hc HS.out kc HK.out).mono ?_
  rintro e w1 ⟨v1, rfl, hD, hb⟩
  rw [show (prd s).toNat = P from by have := HP.out; omega] at hD
  have B1 := Aside0.mk (below_then hB hB.size hb)
  have O1 := Aside0.mk (pw_own_below hO hb)
  obtain ⟨g, cap, rfl, hcap⟩ : ∃ g cap, v1 = .slice (some ⟨g, 0, none⟩) P cap ∧ P ≤ cap := by
    rcases hD.2 with ⟨_, h⟩ | ⟨g, cap, _, h, _, _, h2, _⟩
    · omega
    · exact ⟨g, cap, h, h2⟩
  have D1 := Aside0.mk hD
  clear hcell hB hO hb hD
  go_wp2_with fail
  go_loopw [5, 12] (fun v i W => ∃ (n : Nat), n ≤ P ∧ i = .int .i64 n ∧ Aside0 (W.ownsRow w.heap.size 2 1 v (thoseL s p n).length (nums .i64 (thoseL s p n))) ∧ Aside0 (W.ownsRow w.heap.size 54 8 (.slice (some ⟨g, 0, none⟩) P cap) P (flat8 (all8 s P))) ∧ Aside0 (Below w.heap.size w W)) (fun _ i _ => P - (intOf i).toNat)
  case atStart => exact ⟨0, by omega, rfl, ⟨O1.out⟩, ⟨own_weaken D1.out (by simp; omega)⟩, B1⟩
  case round =>
    obtain ⟨n, hn, rfl, HO, HD, HB⟩ := hrel
    clear B1 O1 D1
    by_cases hlt : n < P
    · obtain ⟨y0, y1, y2, y3, y4, y5, y6, y7, hy⟩ := eight (dig8_length s (n : Int))
      obtain ⟨k0, k1, k2, k3, k4, k5, k6, k7⟩ := row8 HD.out hlt hy
      have HY := Aside0.mk hy
      clear hy
      go_wp2_with fail
      refine (HF.out y0 y1 y2 y3 y4 y5 y6 y7 _ (below_alloc HB.out _)).mono ?_
      rintro e w2 ⟨rfl, hb2⟩
      have O2 := Aside0.mk (pw_own_below (own_alloc HO.out _) hb2)
      have D2 := Aside0.mk (pw_own_below (own_alloc HD.out _) hb2)
      have B2 := Aside0.mk (below_then (below_alloc HB.out _) (below_alloc HB.out _).size hb2)
      clear hb2 k0 k1 k2 k3 k4 k5 k6 k7
      have hs1 := thoseL_succ s p n
      rw [HY.out] at hs1
      have hl := thoseL_len s p n
      cases hp : p [y0, y1, y2, y3, y4, y5, y6, y7] with
      | false =>
        rw [hp] at hs1
        have HL : Aside0 (thoseL s p (n + 1) = thoseL s p n) := ⟨by simpa using hs1⟩
        clear hs1 hp
        go_wp2
        go_roundw
        case rel => exact ⟨n + 1, by omega, by go_num, ⟨by rw [HL.out]; exact O2.out⟩, D2, B2⟩
        case measure => simp [intOf]; omega
      | true =>
        rw [hp] at hs1
        have HL : Aside0 (thoseL s p (n + 1) = thoseL s p n ++ [(n : Int)]) := ⟨by simpa using hs1⟩
        clear hs1 hp
        go_wp2_with (at_builtin; obtain ⟨hi, hz0, hz1, hz2⟩ := HI.out; refine wpList_append_own _ rfl _ _ 24 rfl w.heap.size 2 i0 (.int .i64 0) 1 8 Try.underlying24 hi hz0 hz1 hz2 rfl (by decide) _ (thoseL s p n).length (nums .i64 (thoseL s p n)) rfl (O2.out.alloc _) ⟨w2.heap.size, 0, none⟩ 1 1 [.int .i64 (n : Int)] rfl ?c0 ?c1 ?c2 ?c3 ?c4 ?c5 ?_; clear hi hz0 hz1 hz2)
        case c0 => rfl
        case c1 =>
          intro j u hj
          have hb := blk_cell (blk_new w2 (.cells #[.int .i64 (n : Int)] 2)) j
          rw [add_plain, hb]
          simpa using hj
        case c2 => intro u hu; simp only [List.mem_cons, List.not_mem_nil, or_false] at hu; rcases hu with rfl; rfl
        case c3 => unfold maxLen; omega
        case c4 => omega
        case c5 => have := B2.out.size; simp; omega
        intro v' w3 O3 G3 _
        have O4 : Aside0 (w3.ownsRow w.heap.size 2 1 v' (thoseL s p (n + 1)).length (nums .i64 (thoseL s p (n + 1)))) := ⟨by rw [HL.out, nums_append, List.length_append]; exact O3⟩
        have D3 := Aside0.mk (own_other (own_alloc D2.out _) G3 (own_type_ne D2.out O2.out (by decide)))
        have B3 := Aside0.mk (pw_below_grown (below_alloc B2.out _) _ (by have := B2.out.size; simp; omega) G3 (fun k hk => own_base O2.out k hk))
        clear O3 G3 O2 D2 B2
        go_wp2
        go_roundw
        case rel => exact ⟨n + 1, by omega, by go_num, O4, D3, B3⟩
        case measure => simp [intOf]; omega
    · go_wp2
      go_ret
      have hn : n = P := by omega
      subst hn
      exact ⟨_, rfl, HO.out, HB.out⟩
set_option maxHeartbeats 4000000 in
set_option maxRecDepth 100000 in
theorem «SphereOf$1».those_calls (P1 P2 : Option Addr) (p : List Int → Bool) (A : Option Addr) (c : Nat) (s : List Int) (w : World) (hr : Kd.C (Kd.int .i64) w A s.length s) (hc : s.length ≤ c) (hs : isSp s = true) (kc : Nat) (hcount : impl_count.f kc s = some (prd s))
    (hf : ∀ (y0 y1 y2 y3 y4 y5 y6 y7 : Int) (W : World), Below w.heap.size w W → Calls Try.prog 74 #[.agg #[.int .u8 y0, .int .u8 y1, .int .u8 y2, .int .u8 y3, .int .u8 y4, .int .u8 y5, .int .u8 y6, .int .u8 y7], .pointer P1, .pointer P2] W fun e w' => e = .returned (.bool (p [y0, y1, y2, y3, y4, y5, y6, y7])) ∧ Below W.heap.size W w') :
    Calls Try.prog 73 #[.agg #[.slice A s.length c], .func (Fn.func 74) #[] #[.pointer P1, .pointer P2]] w
      fun e w' => ∃ v, e = .returned v ∧ w'.ownsRow w.heap.size 2 1 v (thoseL s p (prd s).toNat).length (nums .i64 (thoseL s p (prd s).toNat)) ∧ Below w.heap.size w w' := by
  have huS := Try.underlying26
  have huD := Try.underlying54
  have HR := Aside0.mk hr
  have HS := Aside0.mk hs
  have p0 := isSp_prd1 hs
  have p1 := isSp_prd hs
  have HK := Aside0.mk hcount
  have HF := Aside0.mk hf
  clear hr hs hcount hf
  obtain ⟨i0, hi, hz0, hz1, hz2⟩ := info_parts infoI
  have HI := Aside0.mk (And.intro hi (And.intro hz0 (And.intro hz1 hz2)))
  clear hi hz0 hz1 hz2
  obtain ⟨P, hP⟩ : ∃ P : Nat, prd s = (P : Int) := ⟨(prd s).toNat, by omega⟩
  have hP2 : (prd s).toNat = P := by omega
  have pP : P ≤ 1024 := by omega
  have pP0 : 1 ≤ P := by omega
  rw [hP2]
  have HP := Aside0.mk hP
  clear hP hP2 p0 p1
  go_enter Try.func73, Try.ntmps73
  go_wp2_with fail
  have hcell : ((w.alloc (.cells #[.slice A s.length c] 26)).alloc (.cells #[] 2)).heap[w.heap.size]? = some (.cells #[.slice A s.length c] 26 (0, 0)) := blk_alloc (blk_new _ _) _
  have hB : Below w.heap.size w ((w.alloc (.cells #[.slice A s.length c] 26)).alloc (.cells #[] 2)) := ((Below.refl _ _).alloc (Nat.le_refl _) _).alloc (by simp) _
  have hO : ((w.alloc (.cells #[.slice A s.length c] 26)).alloc (.cells #[] 2)).ownsRow w.heap.size 2 1 (.slice (some ⟨w.heap.size + 1, 0, none⟩) 0 0) 0 [] :=
    ⟨rfl, .inr ⟨w.heap.size + 1, 0, #[], rfl, by omega, by simpa using blk_new (w.alloc (.cells #[.slice A s.length c] 26)) (.cells #[] 2), by omega, by unfold maxLen; omega, rfl, rfl⟩⟩
  refine (allDigits_calls A c s _ (Kd.C_below HR.out hB) hc HS.out kc HK.out).mono ?_
  rintro e w1 ⟨v1, rfl, hD, hb⟩
  rw [show (prd s).toNat = P from by have := HP.out; omega] at hD
  have B1 := Aside0.mk (below_then hB hB.size hb)
  have O1 := Aside0.mk (pw_own_below hO hb)
  obtain ⟨g, cap, rfl, hcap⟩ : ∃ g cap, v1 = .slice (some ⟨g, 0, none⟩) P cap ∧ P ≤ cap := by
    rcases hD.2 with ⟨_, h⟩ | ⟨g, cap, _, h, _, _, h2, _⟩
    · omega
    · exact ⟨g, cap, h, h2⟩
  have D1 := Aside0.mk hD
  clear hcell hB hO hb hD
  go_wp2_with fail
  go_loopw [5, 12] (fun v i W => ∃ (n : Nat), n ≤ P ∧ i = .int .i64 n ∧ Aside0 (W.ownsRow w.heap.size 2 1 v (thoseL s p n).length (nums .i64 (thoseL s p n))) ∧ Aside0 (W.ownsRow w.heap.size 54 8 (.slice (some ⟨g, 0, none⟩) P cap) P (flat8 (all8 s P))) ∧ Aside0 (Below w.heap.size w W)) (fun _ i _ => P - (intOf i).toNat)
  case atStart => exact ⟨0, by omega, rfl, ⟨O1.out⟩, ⟨own_weaken D1.out (by simp; omega)⟩, B1⟩
  case round =>
    obtain ⟨n, hn, rfl, HO, HD, HB⟩ := hrel
    clear B1 O1 D1
    by_cases hlt : n < P
    · obtain ⟨y0, y1, y2, y3, y4, y5, y6, y7, hy⟩ := eight (dig8_length s (n : Int))
      obtain ⟨k0, k1, k2, k3, k4, k5, k6, k7⟩ := row8 HD.out hlt hy
      have HY := Aside0.mk hy
      clear hy
      go_wp2_with fail
      refine (HF.out y0 y1 y2 y3 y4 y5 y6 y7 _ (below_alloc HB.out _)).mono ?_
      rintro e w2 ⟨rfl, hb2⟩
      have O2 := Aside0.mk (pw_own_below (own_alloc HO.out _) hb2)
      have D2 := Aside0.mk (pw_own_below (own_alloc HD.out _) hb2)
      have B2 := Aside0.mk (below_then (below_alloc HB.out _) (below_alloc HB.out _).size hb2)
      clear hb2 k0 k1 k2 k3 k4 k5 k6 k7
      have hs1 := thoseL_succ s p n
      rw [HY.out] at hs1
      have hl := thoseL_len s p n
      cases hp : p [y0, y1, y2, y3, y4, y5, y6, y7] with
      | false =>
        rw [hp] at hs1
        have HL : Aside0 (thoseL s p (n + 1) = thoseL s p n) := ⟨by simpa using hs1⟩
        clear hs1 hp
        go_wp2
        go_roundw
        case rel => exact ⟨n + 1, by omega, by go_num, ⟨by rw [HL.out]; exact O2.out⟩, D2, B2⟩
        case measure => simp [intOf]; omega
      | true =>
        rw [hp] at hs1
        have HL : Aside0 (thoseL s p (n + 1) = thoseL s p n ++ [(n : Int)]) := ⟨by simpa using hs1⟩
        clear hs1 hp
        go_wp2_with (at_builtin; obtain ⟨hi, hz0, hz1, hz2⟩ := HI.out; refine wpList_append_own _ rfl _ _ 24 rfl w.heap.size 2 i0 (.int .i64 0) 1 8 Try.underlying24 hi hz0 hz1 hz2 rfl (by decide) _ (thoseL s p n).length (nums .i64 (thoseL s p n)) rfl (O2.out.alloc _) ⟨w2.heap.size, 0, none⟩ 1 1 [.int .i64 (n : Int)] rfl ?c0 ?c1 ?c2 ?c3 ?c4 ?c5 ?_; clear hi hz0 hz1 hz2)
        case c0 => rfl
        case c1 =>
          intro j u hj
          have hb := blk_cell (blk_new w2 (.cells #[.int .i64 (n : Int)] 2)) j
          rw [add_plain, hb]
          simpa using hj
        case c2 => intro u hu; simp only [List.mem_cons, List.not_mem_nil, or_false] at hu; rcases hu with rfl; rfl
        case c3 => unfold maxLen; omega
        case c4 => omega
        case c5 => have := B2.out.size; simp; omega
        intro v' w3 O3 G3 _
        have O4 : Aside0 (w3.ownsRow w.heap.size 2 1 v' (thoseL s p (n + 1)).length (nums .i64 (thoseL s p (n + 1)))) := ⟨by rw [HL.out, nums_append, List.length_append]; exact O3⟩
        have D3 := Aside0.mk (own_other (own_alloc D2.out _) G3 (own_type_ne D2.out O2.out (by decide)))
        have B3 := Aside0.mk (pw_below_grown (below_alloc B2.out _) _ (by have := B2.out.size; simp; omega) G3 (fun k hk => own_base O2.out k hk))
        clear O3 G3 O2 D2 B2
        go_wp2
        go_roundw
        case rel => exact ⟨n + 1, by omega, by go_num, O4, D3, B3⟩
        case measure => simp [intOf]; omega
    · go_wp2
      go_ret
      have hn : n = P := by omega
      subst hn
      exact ⟨_, rfl, HO.out, HB.out⟩
def nrb (s : List Int) (r : Int) (a b : Nat) : Bool := decide (ham (dig8 s (a : Int)) (dig8 s (b : Int)) ≤ r)
end Go.Proofs.Ytlfipjdjmpdblaa.P
