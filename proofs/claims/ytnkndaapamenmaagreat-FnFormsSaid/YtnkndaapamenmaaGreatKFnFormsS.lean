/- What the law FnForms needs, part 19: words, walks of functions (each says that a call returns what the plain Lean function beside it says), plain lemmas. -/
import Derived.Test.YtnkndaapamenmaaGreatKFnFormsR
import Derived.Sort.OwnSortedInts
set_option linter.unusedVariables false
set_option linter.unusedSimpArgs false
namespace Go.Proofs.YtnkndaapamenmaaGreat.P
open Go.RowKit Go.Lib Go.Sort Go.Proofs.YtnkndaapamenmaaGreatW.PrintWords Go.Proofs.YtnkndaapamenmaaGreatW.PrintLast Go.Proofs.YtnkndaapamenmaaGreatW.PrintMore CC
theorem grow_none (w : World) : grow w #[] = w := by simp [grow]
theorem sort_calls (b : Nat) (A : Option Addr) (cap : Nat) (xs : List Int) (w : World) (ho : w.ownsRow b 2 1 (.slice A xs.length cap) xs.length (nums .i64 xs)) (hl : xs.length ≤ 1048576) :
    Calls Tryz.prog 66 #[.slice A xs.length cap] w
      fun e w' => e = .returned (.tuple #[]) ∧ w'.ownsRow b 2 1 (.slice A xs.length cap) xs.length (nums .i64 (msort xs)) ∧ w.grownBy w' (Value.slice A xs.length cap).ownBlock := by
  have h1 := ho.2
  rcases h1 with ⟨hv, h0⟩ | ⟨g, cap', cur, hv, hbase, hb, hn, hcap, hsz, hcells⟩
  · have h0' : xs = [] := List.eq_nil_of_length_eq_zero h0
    subst h0'
    refine (Tryz.slices_Sort_int_none A cap w).mono ?_
    rintro e w' ⟨rfl, rfl⟩
    exact ⟨rfl, by simpa [msort] using ho, World.grownBy.refl _ _⟩
  · injection hv with e1 e2 e3
    subst e1 e3
    have hH := holds_of_blockI (ss := xs) hb (by simpa [nums] using hcells)
    refine (Tryz.slices_Sort_int g 0 cap xs w hH (blk_lt hb) (by omega)).mono ?_
    rintro e w' ⟨rfl, n, os, rfl⟩
    exact ⟨rfl, ownsRow_sortedI (ts := msort xs) (msort_length xs) hbase hb hn hcap hsz, grownBy_sortedI _⟩
theorem compact_calls (b : Nat) (A : Option Addr) (cap : Nat) (xs : List Int) (w : World) (ho : w.ownsRow b 2 1 (.slice A xs.length cap) xs.length (nums .i64 xs)) (hl : xs.length ≤ 1048576) :
    Calls Tryz.prog 67 #[.slice A xs.length cap] w
      fun e w' => ∃ v, e = .returned v ∧ Kd.R (Kd.int .i64) 2 w' b (fun _ => True) v (Lib.compact xs) ∧ w.grownBy w' (Value.slice A xs.length cap).ownBlock := by
  have h1 := ho.2
  rcases h1 with ⟨hv, h0⟩ | ⟨g, cap', cur, hv, hbase, hb, hn, hcap, hsz, hcells⟩
  · have h0' : xs = [] := List.eq_nil_of_length_eq_zero h0
    subst h0'
    refine (Tryz.slices_Compact_int_empty A cap w).mono ?_
    rintro e w' ⟨rfl, rfl⟩
    exact ⟨_, rfl, Kd.R_of_own ho (fun _ _ => trivial), World.grownBy.refl _ _⟩
  · injection hv with e1 e2 e3
    subst e1 e3
    have hH := holds_of_blockI (ss := xs) hb (by simpa [nums] using hcells)
    refine (Tryz.slices_Compact_int g 0 cap xs w hH (by omega) hn).mono ?_
    rintro e w' ⟨rfl, q, rfl⟩
    have hll : (Lib.compact xs ++ List.replicate (xs.length - (Lib.compact xs).length) 0).length = xs.length := by
      have := compact_len xs
      simp
      omega
    have hr := ownsRow_sortedI (n := q) (os := #[]) (ss := xs) (ts := Lib.compact xs ++ List.replicate (xs.length - (Lib.compact xs).length) 0) hll hbase hb hn hcap hsz
    have hg := grownBy_sortedI (w := w) (g := g) (n := q) (os := #[]) (Lib.compact xs ++ List.replicate (xs.length - (Lib.compact xs).length) 0).toArray
    rw [grow_none] at hr hg
    have hR : Kd.R (Kd.int .i64) 2 _ b (fun _ => True) (.slice (some ⟨g, 0, none⟩) xs.length cap) (Lib.compact xs ++ List.replicate (xs.length - (Lib.compact xs).length) 0) := Kd.R_of_own (by rw [hll]; exact hr) (fun _ _ => trivial)
    have hR2 := Kd.R_take hR (m := (Lib.compact xs).length) (by rw [hll]; exact compact_len xs)
    rw [List.take_left'] at hR2
    · exact ⟨_, rfl, hR2, hg⟩
    · rfl
end Go.Proofs.YtnkndaapamenmaaGreat.P
set_option linter.unusedVariables false
set_option linter.unusedSimpArgs false
namespace Go.Proofs.YtnkndaapamenmaaGreat.P
open Go.RowKit Go.Proofs.YtnkndaapamenmaaGreatW.PrintWords Go.Proofs.YtnkndaapamenmaaGreatW.PrintLast Go.Proofs.YtnkndaapamenmaaGreatW.PrintMore CC
def mappedL (f : Int → Int) (xs : List Int) : List Int := ordL (xs.map f)
theorem rd_memM {l : List Int} {n : Nat} (h : n < l.length) : rd l (n : Int) ∈ l := by
  have : rd l (n : Int) = l[n] := by simp [rd, List.getD_eq_getElem?_getD, h]
  rw [this]
  exact List.getElem_mem h
theorem map_succ (f : Int → Int) {xs : List Int} {n : Nat} (h : n < xs.length) : (xs.take (n + 1)).map f = (xs.take n).map f ++ [f (rd xs (n : Int))] := by
  rw [take_rd8 h, List.map_append]
  rfl
set_option maxHeartbeats 4000000 in
set_option maxRecDepth 100000 in
theorem «CodesTogether$1».mapped_calls (f : Int → Int) (A : Option Addr) (c : Nat) (xs : List Int) (w : World) (hr : Kd.C (Kd.int .i64) w A xs.length xs) (hc : xs.length ≤ c) (hl : xs.length ≤ 1048576)
    (hf : ∀ (x : Int) (W : World), x ∈ xs → Below w.heap.size w W → Calls Tryz.prog 33 #[.int .i64 x] W fun e w' => e = .returned (.int .i64 (f x)) ∧ Below W.heap.size W w') :
    Calls Tryz.prog 31 #[.slice A xs.length c, .func (Fn.func 33) #[] #[]] w
      fun e w' => ∃ v, e = .returned v ∧ Kd.R (Kd.int .i64) 2 w' w.heap.size (fun _ => True) v (mappedL f xs) ∧ Below w.heap.size w w' := by
  have HR := Aside0.mk hr
  have HF := Aside0.mk hf
  clear hr hf
  obtain ⟨i0, hi, hz0, hz1, hz2⟩ := info_parts infoI
  have HI := Aside0.mk (And.intro hi (And.intro hz0 (And.intro hz1 hz2)))
  clear hi hz0 hz1 hz2
  go_enter Tryz.func31, Tryz.ntmps31
  go_wp2_with fail
  have hO : (w.alloc (.cells #[] 2)).ownsRow w.heap.size 2 1 (.slice (some ⟨w.heap.size, 0, none⟩) 0 0) 0 (nums .i64 ((xs.take 0).map f)) :=
    ⟨rfl, .inr ⟨w.heap.size, 0, #[], rfl, by omega, blk_new w (.cells #[] 2), by omega, by unfold maxLen; omega, rfl, rfl⟩⟩
  have hB : Below w.heap.size w (w.alloc (.cells #[] 2)) := (Below.refl _ _).alloc (Nat.le_refl _) _
  have HO := Aside0.mk hO
  have HB := Aside0.mk hB
  clear hO hB
  go_loopw [5, 11] (fun v i W => ∃ (n : Nat) (vo : Value), n ≤ xs.length ∧ vo = v ∧ i = .int .i64 n ∧ Aside0 (W.ownsRow w.heap.size 2 1 vo n (nums .i64 ((xs.take n).map f))) ∧ Aside0 (Below w.heap.size w W)) (fun _ i _ => xs.length - (intOf i).toNat)
  case atStart => exact ⟨0, _, by omega, rfl, rfl, HO, HB⟩
  case round =>
    clear HO HB
    obtain ⟨n, vo, hn, rfl, rfl, HO, HB⟩ := hrel
    by_cases hlt : n < xs.length
    · obtain ⟨ad1, e1, _⟩ := Kd.at_int HR.out (n : Int) (by omega) (by omega)
      subst e1
      have hx := rd_cell HR.out HB.out n hlt
      have HM := Aside0.mk (rd_memM hlt)
      have HL := Aside0.mk (map_succ f hlt)
      have hlen : ((xs.take n).map f).length ≤ n := by rw [List.length_map]; exact List.length_take_le _ _
      generalize rd xs (n : Int) = x at *
      go_wp2_with fail
      refine (HF.out x _ HM.out (by first | exact HB.out | exact below_drew HB.out | exact pw_below_drewN HB.out _)).mono ?_
      rintro e w2 ⟨rfl, hb2⟩
      have O2 := Aside0.mk (pw_own_below (by first | exact HO.out | exact own_drew HO.out | exact pw_own_drewN HO.out _) hb2)
      have B2 := Aside0.mk (below_then (by first | exact HB.out | exact below_drew HB.out | exact pw_below_drewN HB.out _) (by first | exact HB.out.size | exact (below_drew HB.out).size | exact (pw_below_drewN HB.out _).size) hb2)
      clear hb2 hx HO HB
      generalize f x = y at *
      go_wp2_with (at_builtin; obtain ⟨hi, hz0, hz1, hz2⟩ := HI.out; refine wpList_append_own _ rfl _ _ 24 rfl w.heap.size 2 i0 (.int .i64 0) 1 8 Tryz.underlying24 hi hz0 hz1 hz2 rfl (by decide) _ n (nums .i64 ((xs.take n).map f)) rfl (O2.out.alloc _) ⟨w2.heap.size, 0, none⟩ 1 1 [.int .i64 y] rfl ?c0 ?c1 ?c2 ?c3 ?c4 ?c5 ?_; clear hi hz0 hz1 hz2)
      case c0 => rfl
      case c1 =>
        intro j u hj
        have hb := blk_cell (blk_new w2 (.cells #[.int .i64 y] 2)) j
        rw [add_plain, hb]
        simpa using hj
      case c2 => intro u hu; simp only [List.mem_cons, List.not_mem_nil, or_false] at hu; rcases hu with rfl; rfl
      case c3 => unfold maxLen; omega
      case c4 => omega
      case c5 => have := B2.out.size; simp; omega
      intro v' w3 O3 G3 _
      have O4 : Aside0 (w3.ownsRow w.heap.size 2 1 v' (n + 1) (nums .i64 ((xs.take (n + 1)).map f))) := ⟨by rw [HL.out, nums_append, List.map_take]; exact O3⟩
      have B3 := Aside0.mk (pw_below_grown (below_alloc B2.out _) _ (by have := B2.out.size; simp; omega) G3 (fun k hk => own_base O2.out k hk))
      clear O3 G3 O2 B2
      go_wp2
      go_roundw
      case rel => exact ⟨n + 1, _, by omega, rfl, by go_num, O4, B3⟩
      case measure => simp [intOf]; omega
    · have hn2 : n = xs.length := by omega
      subst hn2
      have HT : Aside0 ((xs.take xs.length).map f = xs.map f) := ⟨by rw [List.take_length]⟩
      have hO := HO.out
      rw [HT.out] at hO
      obtain ⟨A2, c2, rfl⟩ := own_slice hO
      have HO2 := Aside0.mk hO
      clear hO HO HT
      go_wp2_with fail
      have hs := sort_calls w.heap.size A2 c2 (xs.map f) wr (by rw [List.length_map]; exact HO2.out) (by rw [List.length_map]; exact hl)
      rw [List.length_map] at hs
      refine hs.mono ?_
      rintro e w2 ⟨rfl, hO3, hG3⟩
      have HO3 := Aside0.mk hO3
      have HB3 := Aside0.mk (pw_below_grown HB.out _ HB.out.size hG3 (fun k hk => own_base HO2.out k hk))
      clear hs hO3 hG3 HB HO2
      go_wp2_with fail
      have hml : (msort (xs.map f)).length = xs.length := by rw [msort_length, List.length_map]
      have hc2 := compact_calls w.heap.size A2 c2 (msort (xs.map f)) w2 (by rw [hml]; exact HO3.out) (by rw [hml]; exact hl)
      rw [hml] at hc2
      refine hc2.mono ?_
      rintro e w3 ⟨v, rfl, hR, hG⟩
      have HR3 := Aside0.mk hR
      have HB4 := Aside0.mk (pw_below_grown HB3.out _ HB3.out.size hG (fun k hk => own_base HO3.out k hk))
      clear hc2 hR hG
      go_wp2
      go_ret
      exact ⟨_, rfl, HR3.out, HB4.out⟩
set_option maxHeartbeats 4000000 in
set_option maxRecDepth 100000 in
theorem «shifted$1».mapped_calls (P1 P2 : Option Addr) (f : Int → Int) (A : Option Addr) (c : Nat) (xs : List Int) (w : World) (hr : Kd.C (Kd.int .i64) w A xs.length xs) (hc : xs.length ≤ c) (hl : xs.length ≤ 1048576)
    (hf : ∀ (x : Int) (W : World), x ∈ xs → Below w.heap.size w W → Calls Tryz.prog 73 #[.int .i64 x, .pointer P1, .pointer P2] W fun e w' => e = .returned (.int .i64 (f x)) ∧ Below W.heap.size W w') :
    Calls Tryz.prog 31 #[.slice A xs.length c, .func (Fn.func 73) #[] #[.pointer P1, .pointer P2]] w
      fun e w' => ∃ v, e = .returned v ∧ Kd.R (Kd.int .i64) 2 w' w.heap.size (fun _ => True) v (mappedL f xs) ∧ Below w.heap.size w w' := by
  have HR := Aside0.mk hr
  have HF := Aside0.mk hf
  clear hr hf
  obtain ⟨i0, hi, hz0, hz1, hz2⟩ := info_parts infoI
  have HI := Aside0.mk (And.intro hi (And.intro hz0 (And.intro hz1 hz2)))
  clear hi hz0 hz1 hz2
  go_enter Tryz.func31, Tryz.ntmps31
  go_wp2_with fail
  have hO : (w.alloc (.cells #[] 2)).ownsRow w.heap.size 2 1 (.slice (some ⟨w.heap.size, 0, none⟩) 0 0) 0 (nums .i64 ((xs.take 0).map f)) :=
    ⟨rfl, .inr ⟨w.heap.size, 0, #[], rfl, by omega, blk_new w (.cells #[] 2), by omega, by unfold maxLen; omega, rfl, rfl⟩⟩
  have hB : Below w.heap.size w (w.alloc (.cells #[] 2)) := (Below.refl _ _).alloc (Nat.le_refl _) _
  have HO := Aside0.mk hO
  have HB := Aside0.mk hB
  clear hO hB
  go_loopw [5, 11] (fun v i W => ∃ (n : Nat) (vo : Value), n ≤ xs.length ∧ vo = v ∧ i = .int .i64 n ∧ Aside0 (W.ownsRow w.heap.size 2 1 vo n (nums .i64 ((xs.take n).map f))) ∧ Aside0 (Below w.heap.size w W)) (fun _ i _ => xs.length - (intOf i).toNat)
  case atStart => exact ⟨0, _, by omega, rfl, rfl, HO, HB⟩
  case round =>
    clear HO HB
    obtain ⟨n, vo, hn, rfl, rfl, HO, HB⟩ := hrel
    by_cases hlt : n < xs.length
    · obtain ⟨ad1, e1, _⟩ := Kd.at_int HR.out (n : Int) (by omega) (by omega)
      subst e1
      have hx := rd_cell HR.out HB.out n hlt
      have HM := Aside0.mk (rd_memM hlt)
      have HL := Aside0.mk (map_succ f hlt)
      have hlen : ((xs.take n).map f).length ≤ n := by rw [List.length_map]; exact List.length_take_le _ _
      generalize rd xs (n : Int) = x at *
      go_wp2_with fail
      refine (HF.out x _ HM.out (by first | exact HB.out | exact below_drew HB.out | exact pw_below_drewN HB.out _)).mono ?_
      rintro e w2 ⟨rfl, hb2⟩
      have O2 := Aside0.mk (pw_own_below (by first | exact HO.out | exact own_drew HO.out | exact pw_own_drewN HO.out _) hb2)
      have B2 := Aside0.mk (below_then (by first | exact HB.out | exact below_drew HB.out | exact pw_below_drewN HB.out _) (by first | exact HB.out.size | exact (below_drew HB.out).size | exact (pw_below_drewN HB.out _).size) hb2)
      clear hb2 hx HO HB
      generalize f x = y at *
      go_wp2_with (at_builtin; obtain ⟨hi, hz0, hz1, hz2⟩ := HI.out; refine wpList_append_own _ rfl _ _ 24 rfl w.heap.size 2 i0 (.int .i64 0) 1 8 Tryz.underlying24 hi hz0 hz1 hz2 rfl (by decide) _ n (nums .i64 ((xs.take n).map f)) rfl (O2.out.alloc _) ⟨w2.heap.size, 0, none⟩ 1 1 [.int .i64 y] rfl ?c0 ?c1 ?c2 ?c3 ?c4 ?c5 ?_; clear hi hz0 hz1 hz2)
      case c0 => rfl
      case c1 =>
        intro j u hj
        have hb := blk_cell (blk_new w2 (.cells #[.int .i64 y] 2)) j
        rw [add_plain, hb]
        simpa using hj
      case c2 => intro u hu; simp only [List.mem_cons, List.not_mem_nil, or_false] at hu; rcases hu with rfl; rfl
      case c3 => unfold maxLen; omega
      case c4 => omega
      case c5 => have := B2.out.size; simp; omega
      intro v' w3 O3 G3 _
      have O4 : Aside0 (w3.ownsRow w.heap.size 2 1 v' (n + 1) (nums .i64 ((xs.take (n + 1)).map f))) := ⟨by rw [HL.out, nums_append, List.map_take]; exact O3⟩
      have B3 := Aside0.mk (pw_below_grown (below_alloc B2.out _) _ (by have := B2.out.size; simp; omega) G3 (fun k hk => own_base O2.out k hk))
      clear O3 G3 O2 B2
      go_wp2
      go_roundw
      case rel => exact ⟨n + 1, _, by omega, rfl, by go_num, O4, B3⟩
      case measure => simp [intOf]; omega
    · have hn2 : n = xs.length := by omega
      subst hn2
      have HT : Aside0 ((xs.take xs.length).map f = xs.map f) := ⟨by rw [List.take_length]⟩
      have hO := HO.out
      rw [HT.out] at hO
      obtain ⟨A2, c2, rfl⟩ := own_slice hO
      have HO2 := Aside0.mk hO
      clear hO HO HT
      go_wp2_with fail
      have hs := sort_calls w.heap.size A2 c2 (xs.map f) wr (by rw [List.length_map]; exact HO2.out) (by rw [List.length_map]; exact hl)
      rw [List.length_map] at hs
      refine hs.mono ?_
      rintro e w2 ⟨rfl, hO3, hG3⟩
      have HO3 := Aside0.mk hO3
      have HB3 := Aside0.mk (pw_below_grown HB.out _ HB.out.size hG3 (fun k hk => own_base HO2.out k hk))
      clear hs hO3 hG3 HB HO2
      go_wp2_with fail
      have hml : (msort (xs.map f)).length = xs.length := by rw [msort_length, List.length_map]
      have hc2 := compact_calls w.heap.size A2 c2 (msort (xs.map f)) w2 (by rw [hml]; exact HO3.out) (by rw [hml]; exact hl)
      rw [hml] at hc2
      refine hc2.mono ?_
      rintro e w3 ⟨v, rfl, hR, hG⟩
      have HR3 := Aside0.mk hR
      have HB4 := Aside0.mk (pw_below_grown HB3.out _ HB3.out.size hG (fun k hk => own_base HO3.out k hk))
      clear hc2 hR hG
      go_wp2
      go_ret
      exact ⟨_, rfl, HR3.out, HB4.out⟩
set_option maxHeartbeats 400000 in
set_option maxRecDepth 100000 in
theorem together1_calls (x : Int) (w : World) :
    Calls Tryz.prog 33 #[.int .i64 x] w fun e w' => e = .returned (.int .i64 ((fun x => x) x)) ∧ Below w.heap.size w w' := by
  go_enter Tryz.func33, Tryz.ntmps33
  go_wp2
  go_ret
  exact ⟨rfl, Below.refl _ _⟩
def togetherR (s C D : List Int) : List Int × Int := if rTwo s C D = 0 then (mappedL (fun x => x) (C ++ D), 0) else ([], rTwo s C D)
set_option maxHeartbeats 800000 in
set_option maxRecDepth 100000 in
theorem together_calls (A : Option Addr) (c : Nat) (s : List Int) (A1 : Option Addr) (c1 : Nat) (C : List Int) (A2 : Option Addr) (c2 : Nat) (D : List Int) (w : World) (hr : Kd.C (Kd.int .i64) w A s.length s) (hc : s.length ≤ c) (hr1 : Kd.C (Kd.int .i64) w A1 C.length C) (hc1 : C.length ≤ c1) (hCl : C.length ≤ 1048576) (hr2 : Kd.C (Kd.int .i64) w A2 D.length D) (hc2 : D.length ≤ c2) (hDl : D.length ≤ 1048576) :
    Calls Tryz.prog 12 #[.agg #[.slice A s.length c], .slice A1 C.length c1, .slice A2 D.length c2] w
      fun e w' => ∃ v, e = .returned (.tuple #[v, .int .i64 (togetherR s C D).2]) ∧ Kd.R (Kd.int .i64) 2 w' w.heap.size (fun _ => True) v (togetherR s C D).1 ∧ Below w.heap.size w w' := by
  have huS := Tryz.underlying26
  have HR := Aside0.mk hr
  have HR1 := Aside0.mk hr1
  have HR2 := Aside0.mk hr2
  obtain ⟨kb, hbc⟩ := (bothCode_ev s hCl hDl).rounds
  have HBC := Aside0.mk hbc
  clear hr hr1 hr2 hbc
  go_enter Tryz.func12, Tryz.ntmps12
  go_wp2_with fail
  have hcell : (w.alloc (.cells #[.slice A s.length c] 26)).heap[w.heap.size]? = some (.cells #[.slice A s.length c] 26 (0, 0)) := blk_new _ _
  have hB : Below w.heap.size w (w.alloc (.cells #[.slice A s.length c] 26)) := (Below.refl _ _).alloc (Nat.le_refl _) _
  refine (impl_bothCode.calls kb A c s A1 c1 C A2 c2 D (rTwo s C D) _ (Kd.C_below HR.out hB) hc (Kd.C_below HR1.out hB) hc1 (Kd.C_below HR2.out hB) hc2 HBC.out).mono ?_
  rintro e w0 ⟨rfl, hb⟩
  have B1 := Aside0.mk (below_then hB hB.size hb)
  clear hcell hB hb
  by_cases hz : rTwo s C D = 0
  · have HZ : Aside0 (togetherR s C D = (mappedL (fun x => x) (C ++ D), 0)) := ⟨by unfold togetherR; rw [if_pos hz]⟩
    obtain ⟨hs, hC, hD⟩ := rTwo_zero hz
    have hl1 := Q.isC_len hs hC
    have hl2 := Q.isC_len hs hD
    rw [hz]
    clear hs hC hD hz HBC
    go_wp2_with fail
    have K := blk_new w0 (.cells #[.slice A1 C.length c1, .slice A2 D.length c2] 24)
    have B2 := Aside0.mk (below_alloc B1.out (.cells #[.slice A1 C.length c1, .slice A2 D.length c2] 24))
    refine (concat_calls w0.heap.size A1 c1 C A2 c2 D _ (Kd.C_below HR1.out B2.out) hc1 hCl (Kd.C_below HR2.out B2.out) hc2 hDl (blk_cell K 0) (blk_cell K 1)).mono ?_
    rintro e w2 ⟨v2, rfl, hR, hb⟩
    obtain ⟨A3, c3, rfl⟩ := Kd.R_slice hR
    have hRC := Kd.R_reads' hR
    have HC3 := Aside0.mk hRC.2.2
    have hc3 := hRC.2.1
    have B3 := Aside0.mk (below_then B2.out B2.out.size hb)
    clear K hR hb hRC
    go_wp2_with fail
    have hm := «CodesTogether$1».mapped_calls (fun x => x) A3 c3 (C ++ D) w2 HC3.out hc3 (by rw [List.length_append]; omega) (fun x W hx hW => together1_calls x W)
    rw [List.length_append] at hm
    refine hm.mono ?_
    clear hm
    rintro e w3 ⟨v3, rfl, hR, hb⟩
    have R3 := Aside0.mk (Kd.R_lower hR B3.out.size)
    have B5 := Aside0.mk (below_then B3.out B3.out.size hb)
    clear hR hb
    go_wp2
    go_ret2
    rw [HZ.out]
    exact ⟨_, rfl, R3.out, B5.out⟩
  · have HZ : Aside0 (togetherR s C D = ([], rTwo s C D)) := ⟨by unfold togetherR; rw [if_neg hz]⟩
    clear HBC
    generalize rTwo s C D = z at *
    go_wp2
    go_ret2
    rw [HZ.out]
    exact ⟨_, rfl, Kd.R_nil _ _ _ _ _, B1.out⟩
def impl_CodesTogether.f (l0_0 l1 l2 : List Int) : Option (List Int × Int) := if l1.length ≤ 1048576 ∧ l2.length ≤ 1048576 then some (togetherR l0_0 l1 l2) else none
theorem impl_CodesTogether.calls (A0_0 : Option Addr) (c0_0 : Nat) (l0_0 : List Int) (A1 : Option Addr) (c1 : Nat) (l1 : List Int) (A2 : Option Addr) (c2 : Nat) (l2 : List Int) (r1 : List Int) (r2 : Int) (w : World) (hr0_0 : Kd.C (Kd.int .i64) w A0_0 l0_0.length l0_0) (hc0_0 : l0_0.length ≤ c0_0) (hr1 : Kd.C (Kd.int .i64) w A1 l1.length l1) (hc1 : l1.length ≤ c1) (hr2 : Kd.C (Kd.int .i64) w A2 l2.length l2) (hc2 : l2.length ≤ c2) (h : impl_CodesTogether.f l0_0 l1 l2 = some (r1, r2)) :
    Calls Tryz.prog 12 #[.agg #[.slice A0_0 l0_0.length c0_0], .slice A1 l1.length c1, .slice A2 l2.length c2] w fun e w' => ∃ v0_ : Value, e = .returned (.tuple #[v0_, .int .i64 r2]) ∧ Kd.R (Kd.int .i64) 2 w' w.heap.size (fun _ => True) v0_ r1 ∧ Below w.heap.size w w' := by
  unfold impl_CodesTogether.f at h
  split at h
  · rename_i hl
    have h2 := Option.some.inj h
    have e1 : (togetherR l0_0 l1 l2).1 = r1 := by rw [h2]
    have e2 : (togetherR l0_0 l1 l2).2 = r2 := by rw [h2]
    subst e1 e2
    exact together_calls A0_0 c0_0 l0_0 A1 c1 l1 A2 c2 l2 w hr0_0 hc0_0 hr1 hc1 hl.1 hr2 hc2 hl.2
  · cases h
def shW (s : List Int) (y x : Int) : Int := hor 0 s (sum8 s (dig8 s x) (dig8 s y))
set_option maxHeartbeats 4000000 in
set_option maxRecDepth 100000 in
theorem shift1_calls (gs gb : Nat) (A : Option Addr) (c : Nat) (s : List Int) (x y : Int) (w : World) (hr : Kd.C (Kd.int .i64) w A s.length s) (hc : s.length ≤ c) (hs : isSp s = true) (h0 : 0 ≤ x) (h1 : x ≤ 1024)
    (ks : w.cell? ⟨gs, 0, none⟩ = some (.slice A s.length c)) (kb : w.heap[gb]? = some (.cells (nums .u8 (dig8 s y)).toArray 66 (0, 0))) :
    Calls Tryz.prog 73 #[.int .i64 x, .pointer (some ⟨gs, 0, none⟩), .pointer (some ⟨gb, 0, none⟩)] w
      fun e w' => e = .returned (.int .i64 (shW s y x)) ∧ Below w.heap.size w w' := by
  have huS := Tryz.underlying26
  have huD := Tryz.underlying66
  have HR := Aside0.mk hr
  have HS := Aside0.mk hs
  have I1 := Aside0.mk (dig8_inR hs x)
  have I2 := Aside0.mk (dig8_inR hs y)
  have I3 := Aside0.mk (sum8_inR hs (dig8 s x) (dig8 s y))
  have E8 := Aside0.mk (dig8_length s y)
  obtain ⟨y0, y1, y2, y3, y4, y5, y6, y7, hy⟩ := eight (dig8_length s y)
  have HY : Aside0 (arr8 (dig8 s y) = .agg #[.int .u8 y0, .int .u8 y1, .int .u8 y2, .int .u8 y3, .int .u8 y4, .int .u8 y5, .int .u8 y6, .int .u8 y7]) := ⟨by rw [hy]; rfl⟩
  have HX : Aside0 (shW s y x = hor 0 s (sum8 s (dig8 s x) (dig8 s y))) := ⟨rfl⟩
  rw [hy] at kb
  have k0 : w.cell? ⟨gb, 0, none⟩ = some (.int .u8 y0) := blk_cell kb 0
  have k1 : w.cell? ⟨gb, 1, none⟩ = some (.int .u8 y1) := blk_cell kb 1
  have k2 : w.cell? ⟨gb, 2, none⟩ = some (.int .u8 y2) := blk_cell kb 2
  have k3 : w.cell? ⟨gb, 3, none⟩ = some (.int .u8 y3) := blk_cell kb 3
  have k4 : w.cell? ⟨gb, 4, none⟩ = some (.int .u8 y4) := blk_cell kb 4
  have k5 : w.cell? ⟨gb, 5, none⟩ = some (.int .u8 y5) := blk_cell kb 5
  have k6 : w.cell? ⟨gb, 6, none⟩ = some (.int .u8 y6) := blk_cell kb 6
  have k7 : w.cell? ⟨gb, 7, none⟩ = some (.int .u8 y7) := blk_cell kb 7
  clear hr hs hy kb
  go_enter Tryz.func73, Tryz.ntmps73
  go_wp2_with fail
  have hB : Below w.heap.size w w := Below.refl _ _
  go_region_held3 (fun w' => w'.cell? ⟨gs, 0, none⟩ = some (.slice A s.length c) ∧ w'.cell? ⟨gb, 0, none⟩ = some (.int .u8 y0) ∧ w'.cell? ⟨gb, 1, none⟩ = some (.int .u8 y1) ∧ w'.cell? ⟨gb, 2, none⟩ = some (.int .u8 y2) ∧ w'.cell? ⟨gb, 3, none⟩ = some (.int .u8 y3) ∧ w'.cell? ⟨gb, 4, none⟩ = some (.int .u8 y4) ∧ w'.cell? ⟨gb, 5, none⟩ = some (.int .u8 y5) ∧ w'.cell? ⟨gb, 6, none⟩ = some (.int .u8 y6) ∧ w'.cell? ⟨gb, 7, none⟩ = some (.int .u8 y7) ∧ Below w.heap.size w w') (first | exact ⟨ks, k0, k1, k2, k3, k4, k5, k6, k7, below_drew hB⟩ | exact (And.imp (pw_cell_below hb) (And.imp (pw_cell_below hb) (And.imp (pw_cell_below hb) (And.imp (pw_cell_below hb) (And.imp (pw_cell_below hb) (And.imp (pw_cell_below hb) (And.imp (pw_cell_below hb) (And.imp (pw_cell_below hb) (And.imp (pw_cell_below hb) (fun hS => below_then hS hS.size hb)))))))))) (by assumption))
    (first
      | (go_at_call 65; refine (digitsOf_calls A c s _ _ ?k1 hc HS.out (by omega) (by omega)).mono ?_; (case k1 => exact Kd.C_below HR.out (by first | assumption | exact (by assumption : _ ∧ _ ∧ _ ∧ _ ∧ _ ∧ _ ∧ _ ∧ _ ∧ _ ∧ Below _ _ _).2.2.2.2.2.2.2.2.2)); rintro e w' ⟨rfl, hb⟩)
      | (go_at_call 74; rw [← HY.out]; refine (sumOf_calls A c s (dig8 s x) (dig8 s y) _ ?k1 hc HS.out (dig8_length _ _) I1.out (dig8_length _ _) I2.out).mono ?_; (case k1 => exact Kd.C_below HR.out (by first | assumption | exact (by assumption : _ ∧ _ ∧ _ ∧ _ ∧ _ ∧ _ ∧ _ ∧ _ ∧ _ ∧ Below _ _ _).2.2.2.2.2.2.2.2.2)); rintro e w' ⟨rfl, hb⟩)
      | (go_at_call 63; refine (wordOf_calls A c s (sum8 s (dig8 s x) (dig8 s y)) _ ?k1 hc HS.out (upd8_length _ _) I3.out).mono ?_; (case k1 => exact Kd.C_below HR.out (by first | assumption | exact (by assumption : _ ∧ _ ∧ _ ∧ _ ∧ _ ∧ _ ∧ _ ∧ _ ∧ _ ∧ Below _ _ _).2.2.2.2.2.2.2.2.2)); rintro e w' ⟨rfl, hb⟩))
  all_goals
    obtain ⟨_, _, _, _, _, _, _, _, _, hBB⟩ := (by assumption : World.cell? _ ⟨gs, 0, none⟩ = some (Value.slice A s.length c) ∧ _)
    go_wp2
    go_ret
    exact ⟨by rw [HX.out]; rfl, hBB⟩
set_option maxHeartbeats 4000000 in
set_option maxRecDepth 100000 in
theorem shifted_calls (A : Option Addr) (c : Nat) (s : List Int) (A1 : Option Addr) (c1 : Nat) (C : List Int) (y : Int) (w : World) (hr : Kd.C (Kd.int .i64) w A s.length s) (hc : s.length ≤ c) (hr1 : Kd.C (Kd.int .i64) w A1 C.length C) (hc1 : C.length ≤ c1) (hs : isSp s = true) (hC : ∀ x ∈ C, 0 ≤ x ∧ x ≤ 1024) (hCl : C.length ≤ 1048576) (h0 : 0 ≤ y) (h1 : y ≤ 1024) :
    Calls Tryz.prog 45 #[.agg #[.slice A s.length c], .slice A1 C.length c1, .int .i64 y] w
      fun e w' => ∃ v, e = .returned v ∧ Kd.R (Kd.int .i64) 2 w' w.heap.size (fun _ => True) v (mappedL (shW s y) C) ∧ Below w.heap.size w w' := by
  have huS := Tryz.underlying26
  have huD := Tryz.underlying66
  have HR := Aside0.mk hr
  have HR1 := Aside0.mk hr1
  have HS := Aside0.mk hs
  have HC := Aside0.mk hC
  clear hr hr1 hs hC
  go_enter Tryz.func45, Tryz.ntmps45
  go_wp2_with fail
  have hcell : (w.alloc (.cells #[.slice A s.length c] 26)).heap[w.heap.size]? = some (.cells #[.slice A s.length c] 26 (0, 0)) := blk_new _ _
  have hB : Below w.heap.size w (w.alloc (.cells #[.slice A s.length c] 26)) := (Below.refl _ _).alloc (Nat.le_refl _) _
  refine (digitsOf_calls A c s y _ (Kd.C_below HR.out hB) hc HS.out h0 h1).mono ?_
  rintro e w1 ⟨rfl, hb⟩
  have K3 := Aside0.mk (blk_below hcell hb)
  have B2 := Aside0.mk (below_then hB hB.size hb)
  clear hb hcell hB
  have hd8 : dloop s s.length y (List.replicate 8 0) = dig8 s y := rfl
  rw [hd8]
  clear hd8
  obtain ⟨y0, y1, y2, y3, y4, y5, y6, y7, hy⟩ := eight (dig8_length s y)
  have ea : arr8 (dig8 s y) = .agg #[.int .u8 y0, .int .u8 y1, .int .u8 y2, .int .u8 y3, .int .u8 y4, .int .u8 y5, .int .u8 y6, .int .u8 y7] := by rw [hy]; rfl
  have HN : Aside0 ((nums .u8 (dig8 s y)).toArray = #[.int .u8 y0, .int .u8 y1, .int .u8 y2, .int .u8 y3, .int .u8 y4, .int .u8 y5, .int .u8 y6, .int .u8 y7]) := ⟨by rw [hy]; rfl⟩
  rw [ea]
  clear ea hy
  go_wp2_with fail
  have R2 := Aside0.mk (blk_alloc K3.out (.cells #[.int .u8 y0, .int .u8 y1, .int .u8 y2, .int .u8 y3, .int .u8 y4, .int .u8 y5, .int .u8 y6, .int .u8 y7] 66))
  have R7 := blk_new w1 (.cells #[.int .u8 y0, .int .u8 y1, .int .u8 y2, .int .u8 y3, .int .u8 y4, .int .u8 y5, .int .u8 y6, .int .u8 y7] 66)
  rw [← HN.out] at R7
  have R7 := Aside0.mk R7
  have RB := Aside0.mk (below_alloc B2.out (.cells #[.int .u8 y0, .int .u8 y1, .int .u8 y2, .int .u8 y3, .int .u8 y4, .int .u8 y5, .int .u8 y6, .int .u8 y7] 66))
  refine («shifted$1».mapped_calls (some ⟨w.heap.size, 0, none⟩) (some ⟨w1.heap.size, 0, none⟩) (shW s y) A1 c1 C _ (Kd.C_below HR1.out RB.out) hc1 hCl ?hf).mono ?_
  case hf =>
    intro x W hx hW
    exact shift1_calls w.heap.size w1.heap.size A c s x y W (Kd.C_below HR.out (below_then RB.out RB.out.size hW)) hc HS.out (HC.out x hx).1 (HC.out x hx).2 (blk_cell (blk_below R2.out hW) 0) (by have := blk_below (by rw [HN.out] at R7; exact R7.out) hW; rw [HN.out]; exact this)
  rintro e w2 ⟨v, rfl, hO, hb⟩
  have O2 := Aside0.mk (Kd.R_lower hO RB.out.size)
  have B3 := Aside0.mk (below_then RB.out RB.out.size hb)
  clear hO hb
  go_wp2
  go_ret
  exact ⟨_, rfl, O2.out, B3.out⟩
def impl_shifted.f (l0_0 l1 : List Int) (a2 : Int) : Option (List Int) := if isSp l0_0 = true ∧ l1.all (isW l0_0) = true ∧ l1.length ≤ 1048576 ∧ isW l0_0 a2 = true then some (mappedL (shW l0_0 a2) l1) else none
theorem isW_sm9 {s : List Int} (hs : isSp s = true) {x : Int} (h : isW s x = true) : 0 ≤ x ∧ x ≤ 1024 := by
  have h1 := (isW_iff s x).1 h
  have h2 := isSp_prd hs
  omega
theorem impl_shifted.calls (A0_0 : Option Addr) (c0_0 : Nat) (l0_0 : List Int) (A1 : Option Addr) (c1 : Nat) (l1 : List Int) (a2 : Int) (r : List Int) (w : World) (hr0_0 : Kd.C (Kd.int .i64) w A0_0 l0_0.length l0_0) (hc0_0 : l0_0.length ≤ c0_0) (hr1 : Kd.C (Kd.int .i64) w A1 l1.length l1) (hc1 : l1.length ≤ c1) (h : impl_shifted.f l0_0 l1 a2 = some r) :
    Calls Tryz.prog 45 #[.agg #[.slice A0_0 l0_0.length c0_0], .slice A1 l1.length c1, .int .i64 a2] w fun e w' => ∃ v0_ : Value, e = .returned (v0_) ∧ Kd.R (Kd.int .i64) 2 w' w.heap.size (fun _ => True) v0_ r ∧ Below w.heap.size w w' := by
  unfold impl_shifted.f at h
  split at h
  · rename_i hc
    obtain rfl := Option.some.inj h
    exact shifted_calls A0_0 c0_0 l0_0 A1 c1 l1 a2 w hr0_0 hc0_0 hr1 hc1 hc.1 (fun x hx => isW_sm9 hc.1 (List.all_eq_true.1 hc.2.1 x hx)) hc.2.2.1 (isW_sm9 hc.1 hc.2.2.2).1 (isW_sm9 hc.1 hc.2.2.2).2
  · cases h
end Go.Proofs.YtnkndaapamenmaaGreat.P
namespace Go.Proofs.YtnkndaapamenmaaGreat.P
open Go.RowKit Go.Proofs.YtnkndaapamenmaaGreatW.PrintWords Go.Proofs.YtnkndaapamenmaaGreatW.PrintLast Go.Proofs.YtnkndaapamenmaaGreatW.PrintMore
attribute [local go_sem] max2_int min2_int max_two min_two max_three min_three max_four min_four
set_option linter.unusedVariables false
set_option linter.unusedSimpArgs false
def impl_ShiftCode.f (k : Nat) (l0_0 : List Int) (l1 : List Int) (a2 : Int) : Option (List Int × Int) := (impl_codeCode.f k l0_0 l1 (([a2] : List Int))).bind fun t105 => (if t105 = 0 then ((impl_shifted.f l0_0 l1 a2).bind fun t106 => (some (t106, 0))) else (some (([] : List Int), t105)))
set_option maxHeartbeats 8000000 in
set_option maxRecDepth 100000 in
theorem impl_ShiftCode.calls (k : Nat) (A0_0 : Option Addr) (c0_0 : Nat) (l0_0 : List Int) (A1 : Option Addr) (c1 : Nat) (l1 : List Int) (a2 : Int) (r1 : List Int) (r2 : Int) (w : World) (hr0_0 : Kd.C (Kd.int .i64) w A0_0 l0_0.length l0_0) (hc0_0 : l0_0.length ≤ c0_0) (hr1 : Kd.C (Kd.int .i64) w A1 l1.length l1) (hc1 : l1.length ≤ c1) (h : impl_ShiftCode.f k l0_0 l1 a2 = some (r1, r2)) :
  Calls Tryz.prog 18 #[.agg #[.slice A0_0 l0_0.length c0_0], .slice A1 l1.length c1, .int .i64 a2] w fun e w' => ∃ v0_ : Value, e = .returned (.tuple #[v0_, .int .i64 r2]) ∧ Kd.R (Kd.int .i64) 2 w' w.heap.size (fun _ => True) v0_ r1 ∧ Below w.heap.size w w' := by
 have hu26 := Tryz.underlying26
 have HR0_0 := Aside0.mk hr0_0
 have HC0_0 := Aside0.mk hc0_0
 clear hr0_0 hc0_0
 have HR1 := Aside0.mk hr1
 have HC1 := Aside0.mk hc1
 clear hr1 hc1
 have HB := Aside0.mk (Below.refl w.heap.size w)
 have H := h
 clear h
 unfold impl_ShiftCode.f at H
 obtain ⟨y102, hy102⟩ : ∃ y_ : List Int, y_ = (([a2] : List Int)) := ⟨_, rfl⟩
 replace H : ((impl_codeCode.f k l0_0 l1 y102).bind fun t105 => (if t105 = 0 then ((impl_shifted.f l0_0 l1 a2).bind fun t106 => (some (t106, 0))) else (some (([] : List Int), t105)))) = some (r1, r2) := y_ H
 have Ny102 := Aside0.mk hy102
 clear hy102
 replace H := bd_ H
 obtain ⟨t105, A4, H⟩ := H
 by_cases c5 : t105 = 0
 rotate_left
 ·rw [if_neg c5] at H
  have c5b0 : (t105 == 0) = false := beq_eq_false_iff_ne.mpr c5
  have c5b1 : (t105 != 0) = true := bne_iff_ne.mpr c5
  simp only [Option.some.injEq, Prod.mk.injEq] at H
  obtain ⟨rfl, rfl⟩ := H
  go_enter Tryz.func18, Tryz.ntmps18
  go_wp2_with (first | ((with_reducible refine gate_dst (N := 3) rfl ?_); refine bx_ (N := 3) (cs := #[.slice A0_0 l0_0.length c0_0]) (t := 26) rfl rfl ?_; intro gb101 hg w15 hbox hb; have BK101 := Aside0.mk (hbox); have GW101 := ge_ hg HB; have GE101 := ge_ hg HB; replace HB := b1_ HB hb; clear hb hbox hg; have hcz16_0 := hz_ BK101; have hfz16_0 := blk_frozen BK101.out 0) | ((with_reducible refine gate_dst (N := 12) rfl ?_); refine Kd.R_lit (Kd.int .i64) _ 2 ?hg (N := 12) ?hd (xs := ([a2] : List Int)) (inner := [.int .i64 a2]) (ok := fun _ => True) (okp := fun _ => True) ?hr ?hp (fun _ hk => hk) trivial (Below.refl _ _) (Nat.le_refl _) (by simp) ?_; (case hd => rfl); (case hg => rfl); (case hr => exact t3_); (case hp => exact (Reps.one (show Kd.M (Kd.int .i64) _ _ _ a2 [.int .i64 a2] from rfl) (Reps.none _ _))); intro v103 w17 ho18 hb hg_ hnew_; clear hg_ hnew_; (first | rw [← Ny102.out] at ho18 | (simp only [Int.reduceToNat] at ho18; rw [← Ny102.out] at ho18)); have HO104 := Aside0.mk (Kd.R_lower ho18 (below_size (gb_ HB.out))); replace BK101 := a2_ BK101 hb; replace HB := b1_ HB hb; clear hb ho18; obtain ⟨Ao19, co19, eo19⟩ := Kd.R_slice HO104.out; subst eo19) | ((with_reducible refine gate_callee (f := 44) rfl ?_); refine gl_ (some 13) rfl rfl Tryz.func44 #[.agg #[.slice A0_0 l0_0.length c0_0], .slice A1 l1.length c1, .slice Ao19 y102.length co19] rfl ?_; (with_reducible refine (impl_codeCode.calls k _ _ l0_0 _ _ l1 _ _ y102 t105 _ ?side1 ?side2 ?side3 ?side4 ?side5 ?side6 A4.out).mono ?_); (case side1 => exact c2_ HR0_0 HB); (case side2 => exact HC0_0.out); (case side3 => exact c2_ HR1 HB); (case side4 => exact HC1.out); (case side5 => exact c1_ HO104); (case side6 => exact (Kd.R_reads' HO104.out).2.1); rintro e w20 ⟨rfl, hb⟩; refine ⟨_, rfl, ?_⟩; replace HO104 := a1_ HO104 hb; replace BK101 := a2_ BK101 hb; replace HB := b1_ HB hb; (try clear hb); (try clear hb2); (try clear hk); (try clear hi)))
  go_ret2
  exact ⟨_, t5_, by first | exact Kd.R_nil _ _ _ _ _ | exact Kd.N_nil _ _ _ _ _ | exact Kd.V_nil _ _ _ _ _ | exact Kd.Q_nil _ _ _ _ _ | exact Kd.S_nil _ _ _ _ _, gb_ HB.out⟩

 rw [if_pos c5] at H
 have c5b0 : (t105 == 0) = true := beq_iff_eq.mpr c5
 have c5b1 : (t105 != 0) = false := bne_eq_false_iff_eq.mpr c5
 clear c5
 replace H := bd_ H
 obtain ⟨t106, A6, H⟩ := H
 simp only [Option.some.injEq, Prod.mk.injEq] at H
 obtain ⟨rfl, rfl⟩ := H
 go_enter Tryz.func18, Tryz.ntmps18
 go_wp2_with (first | ((with_reducible refine gate_dst (N := 3) rfl ?_); refine bx_ (N := 3) (cs := #[.slice A0_0 l0_0.length c0_0]) (t := 26) rfl rfl ?_; intro gb101 hg w7 hbox hb; have BK101 := Aside0.mk (hbox); have GW101 := ge_ hg HB; have GE101 := ge_ hg HB; replace HB := b1_ HB hb; clear hb hbox hg; have hcz8_0 := hz_ BK101; have hfz8_0 := blk_frozen BK101.out 0) | ((with_reducible refine gate_dst (N := 12) rfl ?_); refine Kd.R_lit (Kd.int .i64) _ 2 ?hg (N := 12) ?hd (xs := ([a2] : List Int)) (inner := [.int .i64 a2]) (ok := fun _ => True) (okp := fun _ => True) ?hr ?hp (fun _ hk => hk) trivial (Below.refl _ _) (Nat.le_refl _) (by simp) ?_; (case hd => rfl); (case hg => rfl); (case hr => exact t3_); (case hp => exact (Reps.one (show Kd.M (Kd.int .i64) _ _ _ a2 [.int .i64 a2] from rfl) (Reps.none _ _))); intro v103 w9 ho10 hb hg_ hnew_; clear hg_ hnew_; (first | rw [← Ny102.out] at ho10 | (simp only [Int.reduceToNat] at ho10; rw [← Ny102.out] at ho10)); have HO104 := Aside0.mk (Kd.R_lower ho10 (below_size (gb_ HB.out))); replace BK101 := a2_ BK101 hb; replace HB := b1_ HB hb; clear hb ho10; obtain ⟨Ao11, co11, eo11⟩ := Kd.R_slice HO104.out; subst eo11) | ((with_reducible refine gate_callee (f := 44) rfl ?_); refine gl_ (some 13) rfl rfl Tryz.func44 #[.agg #[.slice A0_0 l0_0.length c0_0], .slice A1 l1.length c1, .slice Ao11 y102.length co11] rfl ?_; (with_reducible refine (impl_codeCode.calls k _ _ l0_0 _ _ l1 _ _ y102 t105 _ ?side1 ?side2 ?side3 ?side4 ?side5 ?side6 A4.out).mono ?_); (case side1 => exact c2_ HR0_0 HB); (case side2 => exact HC0_0.out); (case side3 => exact c2_ HR1 HB); (case side4 => exact HC1.out); (case side5 => exact c1_ HO104); (case side6 => exact (Kd.R_reads' HO104.out).2.1); rintro e w12 ⟨rfl, hb⟩; refine ⟨_, rfl, ?_⟩; replace HO104 := a1_ HO104 hb; replace BK101 := a2_ BK101 hb; replace HB := b1_ HB hb; (try clear hb); (try clear hb2); (try clear hk); (try clear hi); have hcz13_0 := hz_ BK101; have hfz13_0 := blk_frozen BK101.out 0) | ((with_reducible refine gate_callee (f := 45) rfl ?_); refine gl_ (some 20) rfl rfl Tryz.func45 #[.agg #[.slice A0_0 l0_0.length c0_0], .slice A1 l1.length c1, .int .i64 a2] rfl ?_; (with_reducible refine (impl_shifted.calls _ _ l0_0 _ _ l1 a2 t106 _ (c2_ HR0_0 HB) HC0_0.out (c2_ HR1 HB) HC1.out A6.out).mono ?_); rintro e w14 ⟨v107, rfl, ho0, hb⟩; refine ⟨_, rfl, ?_⟩; have HO108 := Aside0.mk (Kd.R_lower (Kd.R_new' ho0 (Kd.R_lt (rb_ HO104.out))) (below_size (gb_ HB.out))); replace HO104 := a5_ HO104 ho0 hb; replace BK101 := a2_ BK101 hb; replace HB := b1_ HB hb; (try clear hb); (try clear hb2); (try clear hk); (try clear hi); (try clear ho0)))
 go_ret2
 exact ⟨_, t5_, rb_ (Kd.R_mono HO108.out (fun _ hk => trivial)), gb_ HB.out⟩
end Go.Proofs.YtnkndaapamenmaaGreat.P
set_option linter.unusedVariables false
set_option linter.unusedSimpArgs false
namespace Go.Proofs.YtnkndaapamenmaaGreat.Q
open Go.RowKit Go.Proofs.YtnkndaapamenmaaGreat.P Go.Proofs.YtnkndaapamenmaaGreatW.PrintWords CC
def rCountWords (s : List Int) : Int × Int := if isSp s then (prd s, 0) else (0, 1)
theorem implCountWords_ev (s : List Int) : Ev (fun k => impl_CountWords.f k s) (rCountWords s) := by
  unfold impl_CountWords.f rCountWords
  refine Ev.bind (isSpace_ev s) ?_
  by_cases h : isSp s = true
  · simp only [h, if_true]
    exact Ev.bind (count_sp h) (Ev.now _)
  · simp only [h, if_false]
    exact Ev.now _
theorem specAreAlike_ev (s : List Int) {c d : List Int} (hcl : c.length ≤ 1048576) (hdl : d.length ≤ 1048576) : Ev (fun k => spec_AreAlike.f k s c d) (alikeR s c d) := by
  unfold spec_AreAlike.f alikeR
  refine Ev.bind (specFew_ev s hcl hdl) ?_
  by_cases h : rF2 s c d = 0
  · obtain ⟨h1, h2⟩ := rF2_zero h
    obtain ⟨h3, h4⟩ := rF1_zero h2
    obtain ⟨hs, hc, _⟩ := rCode_zero h1
    obtain ⟨_, hd, _⟩ := rCode_zero h3
    obtain ⟨g1, g2, g3⟩ := least_rel hs hc h4
    obtain ⟨e1, e2, e3⟩ := least_rel hs hd h4
    have key : (lo (allF stepL s c c) = lo (allF stepL s d d) ∧ hi (allF stepL s c c) = hi (allF stepL s d d)) ↔ ordL (allF stepL s c c) = ordL (allF stepL s d d) := by
      rw [lo_ordL g1, hi_ordL g1, lo_ordL e1, hi_ordL e1]
      exact set_eq (ordL_pw _) (ordL_pw _) (small_ordL g1) (small_ordL e1)
    have hdec : (decide (lo (allF stepL s c c) = lo (allF stepL s d d)) && decide (hi (allF stepL s c c) = hi (allF stepL s d d))) = decide (ordL (allF stepL s c c) = ordL (allF stepL s d d)) := by
      rw [← Bool.decide_and]
      exact decide_eq_decide.2 key
    rw [if_pos h, hdec]
    refine Ev.iff_pos h ?_
    have hcl2 := isC_len hs hc
    by_cases hl : c.length = d.length
    · refine Ev.iff_pos (by omega) ?_
      refine Ev.bind (specLeast_ev hs hc) (Ev.bind (specLeast_ev hs hd) ?_)
      have hb := befL_eq (A := ordL (allF stepL s c c)) (B := ordL (allF stepL s d d)) (by omega) (ordL_pw _) (ordL_pw _)
      rw [← g2, ← e2]
      generalize ordL (allF stepL s c c) = a at *
      generalize ordL (allF stepL s d d) = b at *
      refine Ev.bind (l03Before_ev (by omega) (by omega)) ?_
      by_cases q1 : befL a b = true
      · refine Ev.iff_pos q1 ?_
        have : ¬ a = b := fun e => by have := (hb.2 e).1; rw [q1] at this; cases this
        rw [decide_eq_false this]
        exact Ev.now _
      · refine Ev.iff_neg q1 ?_
        refine Ev.bind (l03Before_ev (by omega) (by omega)) ?_
        have q1 := Bool.eq_false_iff.2 q1
        have e : decide (a = b) = !befL b a := by
          by_cases q2 : befL b a = true
          · have : ¬ a = b := fun e => by have := (hb.2 e).2; rw [q2] at this; cases this
            rw [decide_eq_false this, q2]
            rfl
          · have q2 := Bool.eq_false_iff.2 q2
            rw [decide_eq_true (hb.1 ⟨q1, q2⟩), q2]
            rfl
        rw [e]
        exact Ev.now _
    · refine Ev.iff_neg (by omega) ?_
      have : ¬ ordL (allF stepL s c c) = ordL (allF stepL s d d) := fun e => by
        have := congrArg List.length e
        omega
      rw [decide_eq_false this]
      exact Ev.now _
  · rw [if_neg h]
    exact Ev.iff_neg h (Ev.now _)
theorem implAreAlike_eq (s : List Int) {c d : List Int} (hcl : c.length ≤ 1048576) (hdl : d.length ≤ 1048576) : impl_AreAlike.f s c d = some (alikeR s c d) := by
  unfold impl_AreAlike.f
  rw [if_pos ⟨hcl, hdl⟩]
theorem specLeastForm_ev (s : List Int) {c : List Int} (hcl : c.length ≤ 1048576) : Ev (fun k => spec_LeastForm.f k s c) (leastFR s c) := by
  unfold spec_LeastForm.f leastFR
  refine Ev.bind (specFew_ev s hcl hcl) ?_
  rw [rF2_same]
  by_cases h : rF1 s c = 0
  · obtain ⟨h1, h2⟩ := rF1_zero h
    obtain ⟨hs, hc, _⟩ := rCode_zero h1
    obtain ⟨g1, g2, g3⟩ := least_rel hs hc h2
    rw [if_pos h]
    refine Ev.iff_pos h ?_
    refine Ev.bind (specLeast_ev hs hc) ?_
    rw [selL_bits g1, g2]
    exact Ev.now _
  · rw [if_neg h]
    exact Ev.iff_neg h (Ev.now _)
theorem implLeastForm_eq (s : List Int) {c : List Int} (hcl : c.length ≤ 1048576) : impl_LeastForm.f s c = some (leastFR s c) := by
  unfold impl_LeastForm.f
  rw [if_pos hcl]
theorem leastFR_len (s c : List Int) : (leastFR s c).1.length ≤ 1048576 := by
  unfold leastFR
  split
  · exact Nat.le_trans (selL_len _ _) (by decide)
  · simp
theorem specCountKeeping_ev (s : List Int) {c : List Int} (hcl : c.length ≤ 1048576) : Ev (fun k => spec_CountKeeping.f k s c) (countKR s c) := by
  unfold spec_CountKeeping.f countKR
  refine Ev.bind (specFew_ev s hcl hcl) ?_
  rw [rF2_same]
  by_cases h : rF1 s c = 0
  · obtain ⟨h1, h2⟩ := rF1_zero h
    obtain ⟨hs, hc, _⟩ := rCode_zero h1
    rw [if_pos h]
    refine Ev.iff_pos h ?_
    refine Ev.bind (specLeast_ev hs hc) ?_
    rw [count_rel hs hc h2]
    exact Ev.now _
  · rw [if_neg h]
    exact Ev.iff_neg h (Ev.now _)
theorem implCountKeeping_eq (s : List Int) {c : List Int} (hcl : c.length ≤ 1048576) : impl_CountKeeping.f s c = some (countKR s c) := by
  unfold impl_CountKeeping.f
  rw [if_pos hcl]
theorem specTogether_l {C D : List Int} (hC : C.length ≤ 1024) (hD : D.length ≤ 1024) : ∀ (m n : Nat), n + m = D.length →
    Ev (fun k => spec_CodesTogether.l0 k D (ordL (C ++ D.take n)) (D.length : Int) (n : Int)) (ordL (C ++ D), 0)
  | 0, n, hm => by
    refine Ev.step (fun k => by simp only [spec_CodesTogether.l0]; exact rfl) ?_
    refine Ev.iff_neg (by omega) ?_
    rw [List.take_of_length_le (by omega)]
    exact Ev.now _
  | m + 1, n, hm => by
    have hn : n < D.length := by omega
    have ih := specTogether_l hC hD m (n + 1) (by omega)
    rw [take_rd8 hn, ← List.append_assoc] at ih
    have hol := ordL_len (C ++ D.take n)
    have hl2 : (D.take n).length ≤ n := List.length_take_le _ _
    rw [List.length_append] at hol
    refine Ev.step (fun k => by simp only [spec_CodesTogether.l0]; exact rfl) ?_
    refine Ev.iff_pos (by omega) (Ev.iff_pos (by omega) (Ev.iff_pos (by omega) ?_))
    refine Ev.bind (l01Put_ev (ordL_pw _) (by omega) _) ?_
    rw [wrap_nat (by unfold maxLen; omega), ordL_put]
    exact ih
theorem isC_asc2 {s c : List Int} (h : isC s c = true) : asc c = true := by
  unfold isC at h
  rw [Bool.and_eq_true] at h
  exact h.2
theorem mappedL_id (l : List Int) : mappedL (fun x => x) l = ordL l := by
  unfold mappedL
  rw [List.map_id']
theorem specCodesTogether_ev (s : List Int) {C D : List Int} (hC : C.length ≤ 1048576) (hD : D.length ≤ 1048576) : Ev (fun k => spec_CodesTogether.f k s C D) (togetherR s C D) := by
  unfold spec_CodesTogether.f togetherR
  refine Ev.bind (l03Two_ev s hC hD) ?_
  by_cases h : rTwo s C D = 0
  · obtain ⟨hs, h1, h2⟩ := rTwo_zero h
    simp only [if_pos h]
    refine Ev.bindc (l01Own_eq C hC) ?_
    have := specTogether_l (isC_len hs h1) (isC_len hs h2) D.length 0 (by omega)
    rw [List.take_zero, List.append_nil, ordL_asc (asc_pw (isC_asc2 h1))] at this
    rw [mappedL_id]
    exact this
  · simp only [if_neg h]
    exact Ev.now _
theorem togetherR_len (s C D : List Int) : (togetherR s C D).1.length ≤ 2048 := by
  unfold togetherR
  by_cases h : rTwo s C D = 0
  · rw [if_pos h]
    obtain ⟨hs, h1, h2⟩ := rTwo_zero h
    have a := isC_len hs h1
    have b := isC_len hs h2
    have := ordL_len (C ++ D)
    rw [List.length_append] at this
    show (mappedL _ _).length ≤ 2048
    rw [mappedL_id]
    omega
  · rw [if_neg h]
    simp
theorem implCodesTogether_eq (s : List Int) {C D : List Int} (hC : C.length ≤ 1048576) (hD : D.length ≤ 1048576) : impl_CodesTogether.f s C D = some (togetherR s C D) := by
  unfold impl_CodesTogether.f
  rw [if_pos ⟨hC, hD⟩]
theorem specCommon_l {C D : List Int} (hC : C.length ≤ 1048576) (hD : D.length ≤ 1048576) : ∀ (m n : Nat), n + m = C.length →
    Ev (fun k => spec_CodesInCommon.l0 k C D ((C.take n).filter fun x => decide (x ∈ D)) (C.length : Int) (n : Int)) (C.filter (fun x => decide (x ∈ D)), 0)
  | 0, n, hm => by
    refine Ev.step (fun k => by simp only [spec_CodesInCommon.l0]; exact rfl) ?_
    refine Ev.iff_neg (by omega) ?_
    rw [List.take_of_length_le (by omega)]
    exact Ev.now _
  | m + 1, n, hm => by
    have hn : n < C.length := by omega
    have hl1 := List.length_filter_le (fun x => decide (x ∈ D)) (C.take n)
    have hl2 : (C.take n).length ≤ n := List.length_take_le _ _
    have ih := specCommon_l hC hD m (n + 1) (by omega)
    rw [take_rd8 hn, List.filter_append] at ih
    refine Ev.step (fun k => by simp only [spec_CodesInCommon.l0]; exact rfl) ?_
    refine Ev.iff_pos (by omega) ?_
    refine Ev.iff_pos (by omega) ?_
    refine Ev.iff_pos (by omega) ?_
    refine Ev.bind (l01Has_ev hD _) ?_
    rw [wrap_nat (by unfold maxLen; omega)]
    by_cases h : rd C (n : Int) ∈ D
    · refine Ev.iff_pos (by simpa using h) ?_
      refine Ev.iff_pos (by omega) ?_
      simpa [h] using ih
    · refine Ev.iff_neg (by simpa using h) ?_
      simpa [h] using ih
theorem specCodesInCommon_ev (s : List Int) {C D : List Int} (hC : C.length ≤ 1048576) (hD : D.length ≤ 1048576) : Ev (fun k => spec_CodesInCommon.f k s C D) (commonR s C D) := by
  unfold spec_CodesInCommon.f commonR
  refine Ev.bind (l03Two_ev s hC hD) ?_
  by_cases h : rTwo s C D = 0
  · simp only [if_pos h]
    have := specCommon_l hC hD C.length 0 (by omega)
    simpa using this
  · simp only [if_neg h]
    exact Ev.now _
theorem commonR_len (s : List Int) {C : List Int} (hC : C.length ≤ 1048576) (D : List Int) : (commonR s C D).1.length ≤ 1048576 := by
  unfold commonR
  by_cases h : rTwo s C D = 0
  · rw [if_pos h]
    have := List.length_filter_le (fun x => decide (x ∈ D)) C
    show (C.filter _).length ≤ 1048576
    omega
  · rw [if_neg h]
    simp
theorem implCodesInCommon_eq (s : List Int) {C D : List Int} (hC : C.length ≤ 1048576) (hD : D.length ≤ 1048576) : impl_CodesInCommon.f s C D = some (commonR s C D) := by
  unfold impl_CodesInCommon.f
  rw [if_pos ⟨hC, hD⟩]
def rShift (s c : List Int) (w : Int) : List Int × Int := if rCode s c [w] = 0 then (ordL (c.map (shW s w)), 0) else ([], rCode s c [w])
theorem implShiftCode_ev (s : List Int) {c : List Int} (hcl : c.length ≤ 1048576) (w : Int) : Ev (fun k => impl_ShiftCode.f k s c w) (rShift s c w) := by
  unfold impl_ShiftCode.f rShift
  refine Ev.bind (codeCode_ev s hcl (by simp)) ?_
  by_cases h : rCode s c [w] = 0
  · obtain ⟨hs, hc, hw⟩ := rCode_zero h
    simp only [if_pos h]
    refine Ev.bindc (a := ordL (c.map (shW s w))) ?_ (Ev.now _)
    unfold impl_shifted.f
    rw [if_pos ⟨hs, by rw [List.all_eq_true]; exact isC_words hc, hcl, hw w (by simp)⟩]
    rfl
  · simp only [if_neg h]
    exact Ev.now _
theorem countsR_len (s c : List Int) : (countsR s c).1.length ≤ 1048576 := by
  unfold countsR
  by_cases h : rCode s c [] = 0
  · rw [if_pos h]
    have := isSp_len (rCode_zero h).1
    show (cout s c c.length).length ≤ 1048576
    rw [cout_length]
    omega
  · rw [if_neg h]
    simp
theorem implDistanceCounts_eq (s : List Int) {c : List Int} (hcl : c.length ≤ 1048576) : impl_DistanceCounts.f s c = some (countsR s c) := by
  unfold impl_DistanceCounts.f
  rw [if_pos hcl]
end Go.Proofs.YtnkndaapamenmaaGreat.Q
namespace Go.Proofs.YtnkndaapamenmaaGreat.P
open Go.RowKit Go.Proofs.YtnkndaapamenmaaGreatW.PrintWords Go.Proofs.YtnkndaapamenmaaGreatW.PrintLast Go.Proofs.YtnkndaapamenmaaGreatW.PrintMore
attribute [local go_sem] max2_int min2_int max_two min_two max_three min_three max_four min_four
set_option linter.unusedVariables false
set_option linter.unusedSimpArgs false
mutual
def laws_FnForms.j0 : Nat → List Int → List Int → Bool → Int → List Int → Int → Int → List Int → Int → List Int → Bool → List Int → Option (Bool)
  | 0, _, _, _, _, _, _, _, _, _, _, _, _ => none
  | k + 1, x4, x5, x6, x7, x10, x11, x14, x18, x19, x22, x166, x112000 => if x166 = true then (some false) else (if x19 = 0 then (laws_FnForms.j1 k x4 x5 x6 x7 x10 x11 x14 ((wrap64 ((x18.length : Int) + (x22.length : Int))) != (wrap64 ((x4.length : Int) + (x5.length : Int)))) x112000) else (laws_FnForms.j1 k x4 x5 x6 x7 x10 x11 x14 false x112000))
def laws_FnForms.j1 : Nat → List Int → List Int → Bool → Int → List Int → Int → Int → Bool → List Int → Option (Bool)
  | 0, _, _, _, _, _, _, _, _, _ => none
  | k + 1, x4, x5, x6, x7, x10, x11, x14, x181, x112000 => if x181 = true then (some false) else (if x11 = 0 then ((impl_CountWords.f k x112000).bind fun bt147 => ((impl_LeastForm.f x112000 x10).bind fun bt149 => ((impl_AreAlike.f x112000 x4 x10).bind fun bt153 => ((impl_CountKeeping.f x112000 x10).bind fun bt155 => (if bt147.2 = 0 then (if bt149.2 = 0 then (if bt153.2 = 0 then (if bt155.2 = 0 then ((laws_likeInts.f k bt149.1 x10).bind fun t157 => (if t157 = true then (if bt153.1 = true then (if bt155.1 = x14 then (if x14 < 1 then (laws_FnForms.j2 k x4 x5 x6 x7 x10 bt147.1 true x112000) else (if (x10.length : Int) = (x4.length : Int) then (if (x4.length : Int) > 0 then (if 0 < (x10.length : Int) then (if (rd x10 0) = 0 then (laws_FnForms.j2 k x4 x5 x6 x7 x10 bt147.1 (decide (x14 > (wrap64 (bt147.1 * 40320)))) x112000) else (laws_FnForms.j2 k x4 x5 x6 x7 x10 bt147.1 true x112000)) else (none)) else (laws_FnForms.j2 k x4 x5 x6 x7 x10 bt147.1 false x112000)) else (laws_FnForms.j2 k x4 x5 x6 x7 x10 bt147.1 true x112000))) else (laws_FnForms.j2 k x4 x5 x6 x7 x10 bt147.1 true x112000)) else (laws_FnForms.j2 k x4 x5 x6 x7 x10 bt147.1 true x112000)) else (laws_FnForms.j2 k x4 x5 x6 x7 x10 bt147.1 true x112000))) else (laws_FnForms.j2 k x4 x5 x6 x7 x10 bt147.1 true x112000)) else (laws_FnForms.j2 k x4 x5 x6 x7 x10 bt147.1 true x112000)) else (laws_FnForms.j2 k x4 x5 x6 x7 x10 bt147.1 true x112000)) else (laws_FnForms.j2 k x4 x5 x6 x7 x10 bt147.1 true x112000)))))) else (some true))
def laws_FnForms.j2 : Nat → List Int → List Int → Bool → Int → List Int → Int → Bool → List Int → Option (Bool)
  | 0, _, _, _, _, _, _, _, _ => none
  | k + 1, x4, x5, x6, x7, x10, x26, x264, x112000 => if x264 = true then (some false) else ((impl_ShiftCode.f k x112000 x4 (wrap64 (x26 - 1))).bind fun bt159 => ((impl_LeastForm.f x112000 bt159.1).bind fun bt163 => (if bt159.2 = 0 then (if bt163.2 = 0 then ((laws_likeInts.f k bt163.1 x10).bind fun t167 => (laws_FnForms.j3 k x4 x5 x6 x7 (!t167) x112000)) else (laws_FnForms.j3 k x4 x5 x6 x7 true x112000)) else (laws_FnForms.j3 k x4 x5 x6 x7 true x112000))))
def laws_FnForms.j3 : Nat → List Int → List Int → Bool → Int → Bool → List Int → Option (Bool)
  | 0, _, _, _, _, _, _ => none
  | k + 1, x4, x5, x6, x7, x290, x112000 => if x290 = true then (some false) else (if x7 = 0 then (laws_FnForms.j4 k x4 x5 x6 x112000) else (laws_FnForms.j4 k x4 x5 false x112000))
def laws_FnForms.j4 : Nat → List Int → List Int → Bool → List Int → Option (Bool)
  | 0, _, _, _, _ => none
  | k + 1, x4, x5, x295, x112000 => if x295 = true then ((impl_DistanceCounts.f x112000 x4).bind fun bt168 => ((impl_DistanceCounts.f x112000 x5).bind fun bt172 => (if bt168.2 = 0 then (if bt172.2 = 0 then ((laws_likeInts.f k bt168.1 bt172.1).bind fun t176 => (some t176)) else (some false)) else (some false)))) else (some true)
end
def laws_FnForms.f (k : Nat) (l0 : List Int) : Option (Bool) := (laws_big.f l0).bind fun t101 => (if t101 = true then (some true) else ((spec_DrawAreAlike.f k l0).bind fun bt102 => ((impl_AreAlike.f bt102.1 bt102.2.1 bt102.2.2).bind fun bt112 => ((spec_AreAlike.f k bt102.1 bt102.2.1 bt102.2.2).bind fun bt114 => ((impl_LeastForm.f bt102.1 bt102.2.1).bind fun bt116 => ((spec_LeastForm.f k bt102.1 bt102.2.1).bind fun bt120 => ((impl_CountKeeping.f bt102.1 bt102.2.1).bind fun bt124 => ((spec_CountKeeping.f k bt102.1 bt102.2.1).bind fun bt126 => ((impl_CodesTogether.f bt102.1 bt102.2.1 bt102.2.2).bind fun bt128 => ((spec_CodesTogether.f k bt102.1 bt102.2.1 bt102.2.2).bind fun bt132 => ((impl_CodesInCommon.f bt102.1 bt102.2.1 bt102.2.2).bind fun bt136 => ((spec_CodesInCommon.f k bt102.1 bt102.2.1 bt102.2.2).bind fun bt140 => (if bt112.2 = bt114.2 then (if (bt112.1 != bt114.1) = true then (laws_FnForms.j0 k bt102.2.1 bt102.2.2 bt112.1 bt112.2 bt116.1 bt116.2 bt124.1 bt128.1 bt128.2 bt136.1 true bt102.1) else (if bt116.2 = bt120.2 then ((laws_likeInts.f k bt116.1 bt120.1).bind fun t144 => (if t144 = true then (if bt124.2 = bt126.2 then (if bt124.1 = bt126.1 then (if bt128.2 = bt132.2 then ((laws_likeInts.f k bt128.1 bt132.1).bind fun t145 => (if t145 = true then (if bt136.2 = bt140.2 then ((laws_likeInts.f k bt136.1 bt140.1).bind fun t146 => (laws_FnForms.j0 k bt102.2.1 bt102.2.2 bt112.1 bt112.2 bt116.1 bt116.2 bt124.1 bt128.1 bt128.2 bt136.1 (!t146) bt102.1)) else (laws_FnForms.j0 k bt102.2.1 bt102.2.2 bt112.1 bt112.2 bt116.1 bt116.2 bt124.1 bt128.1 bt128.2 bt136.1 true bt102.1)) else (laws_FnForms.j0 k bt102.2.1 bt102.2.2 bt112.1 bt112.2 bt116.1 bt116.2 bt124.1 bt128.1 bt128.2 bt136.1 true bt102.1))) else (laws_FnForms.j0 k bt102.2.1 bt102.2.2 bt112.1 bt112.2 bt116.1 bt116.2 bt124.1 bt128.1 bt128.2 bt136.1 true bt102.1)) else (laws_FnForms.j0 k bt102.2.1 bt102.2.2 bt112.1 bt112.2 bt116.1 bt116.2 bt124.1 bt128.1 bt128.2 bt136.1 true bt102.1)) else (laws_FnForms.j0 k bt102.2.1 bt102.2.2 bt112.1 bt112.2 bt116.1 bt116.2 bt124.1 bt128.1 bt128.2 bt136.1 true bt102.1)) else (laws_FnForms.j0 k bt102.2.1 bt102.2.2 bt112.1 bt112.2 bt116.1 bt116.2 bt124.1 bt128.1 bt128.2 bt136.1 true bt102.1))) else (laws_FnForms.j0 k bt102.2.1 bt102.2.2 bt112.1 bt112.2 bt116.1 bt116.2 bt124.1 bt128.1 bt128.2 bt136.1 true bt102.1))) else (laws_FnForms.j0 k bt102.2.1 bt102.2.2 bt112.1 bt112.2 bt116.1 bt116.2 bt124.1 bt128.1 bt128.2 bt136.1 true bt102.1))))))))))))))
set_option maxHeartbeats 8000000 in
set_option maxRecDepth 100000 in
theorem laws_FnForms.calls (k : Nat) (A0 : Option Addr) (c0 : Nat) (l0 : List Int) (r : Bool) (w : World) (hr0 : Kd.C (Kd.int .u8) w A0 l0.length l0) (hc0 : l0.length ≤ c0) (h : laws_FnForms.f k l0 = some r) :
  Calls Tryz.prog 3 #[.slice A0 l0.length c0] w fun e w' => e = .returned (.bool r) ∧ Below w.heap.size w w' := by
 have hu26 := Tryz.underlying26
 have HR0 := Aside0.mk hr0
 have HC0 := Aside0.mk hc0
 clear hr0 hc0
 have HB := Aside0.mk (Below.refl w.heap.size w)
 have H := h
 clear h
 unfold laws_FnForms.f at H
 replace H := bd_ H
 obtain ⟨t101, A2, H⟩ := H
 by_cases c3 : t101 = true
 ·as_aux_lemma =>
  subst c3
  have H1 : (some true) = some r := by rw [if_pos rfl] at H; exact H
  clear H
  have H := H1
  clear H1
  obtain rfl := Option.some.inj H
  go_enter Tryz.func3, Tryz.ntmps3
  go_wp2_with (first | ((with_reducible refine gate_callee (f := 4) rfl ?_); refine gl_ (some 43) rfl rfl Tryz.func4 #[.slice A0 l0.length c0] rfl ?_; (with_reducible refine (laws_big.calls _ _ l0 true _ ?side1 ?side2 A2.out).mono ?_); (case side1 => repeat (first | exact HR0.out | (with_reducible refine Kd.C_alloc ?_ _) | (with_reducible refine Kd.C_drewN ?_ _) | (with_reducible refine Kd.C_drew ?_))); (case side2 => exact HC0.out); rintro e w' ⟨rfl, ⟨nd, rfl⟩⟩; refine ⟨_, rfl, ?_⟩))
  go_ret
  exact ⟨t5_, gb_ HB.out⟩
 as_aux_lemma =>
 replace c3 := Bool.eq_false_iff.mpr c3
 subst c3
 have H1 : ((spec_DrawAreAlike.f k l0).bind fun bt102 => ((impl_AreAlike.f bt102.1 bt102.2.1 bt102.2.2).bind fun bt112 => ((spec_AreAlike.f k bt102.1 bt102.2.1 bt102.2.2).bind fun bt114 => ((impl_LeastForm.f bt102.1 bt102.2.1).bind fun bt116 => ((spec_LeastForm.f k bt102.1 bt102.2.1).bind fun bt120 => ((impl_CountKeeping.f bt102.1 bt102.2.1).bind fun bt124 => ((spec_CountKeeping.f k bt102.1 bt102.2.1).bind fun bt126 => ((impl_CodesTogether.f bt102.1 bt102.2.1 bt102.2.2).bind fun bt128 => ((spec_CodesTogether.f k bt102.1 bt102.2.1 bt102.2.2).bind fun bt132 => ((impl_CodesInCommon.f bt102.1 bt102.2.1 bt102.2.2).bind fun bt136 => ((spec_CodesInCommon.f k bt102.1 bt102.2.1 bt102.2.2).bind fun bt140 => (if bt112.2 = bt114.2 then (if (bt112.1 != bt114.1) = true then (laws_FnForms.j0 k bt102.2.1 bt102.2.2 bt112.1 bt112.2 bt116.1 bt116.2 bt124.1 bt128.1 bt128.2 bt136.1 true bt102.1) else (if bt116.2 = bt120.2 then ((laws_likeInts.f k bt116.1 bt120.1).bind fun t144 => (if t144 = true then (if bt124.2 = bt126.2 then (if bt124.1 = bt126.1 then (if bt128.2 = bt132.2 then ((laws_likeInts.f k bt128.1 bt132.1).bind fun t145 => (if t145 = true then (if bt136.2 = bt140.2 then ((laws_likeInts.f k bt136.1 bt140.1).bind fun t146 => (laws_FnForms.j0 k bt102.2.1 bt102.2.2 bt112.1 bt112.2 bt116.1 bt116.2 bt124.1 bt128.1 bt128.2 bt136.1 (!t146) bt102.1)) else (laws_FnForms.j0 k bt102.2.1 bt102.2.2 bt112.1 bt112.2 bt116.1 bt116.2 bt124.1 bt128.1 bt128.2 bt136.1 true bt102.1)) else (laws_FnForms.j0 k bt102.2.1 bt102.2.2 bt112.1 bt112.2 bt116.1 bt116.2 bt124.1 bt128.1 bt128.2 bt136.1 true bt102.1))) else (laws_FnForms.j0 k bt102.2.1 bt102.2.2 bt112.1 bt112.2 bt116.1 bt116.2 bt124.1 bt128.1 bt128.2 bt136.1 true bt102.1)) else (laws_FnForms.j0 k bt102.2.1 bt102.2.2 bt112.1 bt112.2 bt116.1 bt116.2 bt124.1 bt128.1 bt128.2 bt136.1 true bt102.1)) else (laws_FnForms.j0 k bt102.2.1 bt102.2.2 bt112.1 bt112.2 bt116.1 bt116.2 bt124.1 bt128.1 bt128.2 bt136.1 true bt102.1)) else (laws_FnForms.j0 k bt102.2.1 bt102.2.2 bt112.1 bt112.2 bt116.1 bt116.2 bt124.1 bt128.1 bt128.2 bt136.1 true bt102.1))) else (laws_FnForms.j0 k bt102.2.1 bt102.2.2 bt112.1 bt112.2 bt116.1 bt116.2 bt124.1 bt128.1 bt128.2 bt136.1 true bt102.1))) else (laws_FnForms.j0 k bt102.2.1 bt102.2.2 bt112.1 bt112.2 bt116.1 bt116.2 bt124.1 bt128.1 bt128.2 bt136.1 true bt102.1))))))))))))) = some r := by rw [if_neg (show ¬ (false = true) by decide)] at H; exact H
 clear H
 have H := H1
 clear H1
 replace H := bd_ H
 obtain ⟨⟨t102, t105, t108⟩, A4, H⟩ := H
 try dsimp only at H
 replace H := bd_ H
 obtain ⟨⟨t112, t113⟩, A5, H⟩ := H
 try dsimp only at H
 replace H := bd_ H
 obtain ⟨⟨t114, t115⟩, A6, H⟩ := H
 try dsimp only at H
 replace H := bd_ H
 obtain ⟨⟨t116, t119⟩, A7, H⟩ := H
 try dsimp only at H
 replace H := bd_ H
 obtain ⟨⟨t120, t123⟩, A8, H⟩ := H
 try dsimp only at H
 replace H := bd_ H
 obtain ⟨⟨t124, t125⟩, A9, H⟩ := H
 try dsimp only at H
 replace H := bd_ H
 obtain ⟨⟨t126, t127⟩, A10, H⟩ := H
 try dsimp only at H
 replace H := bd_ H
 obtain ⟨⟨t128, t131⟩, A11, H⟩ := H
 try dsimp only at H
 replace H := bd_ H
 obtain ⟨⟨t132, t135⟩, A12, H⟩ := H
 try dsimp only at H
 replace H := bd_ H
 obtain ⟨⟨t136, t139⟩, A13, H⟩ := H
 try dsimp only at H
 replace H := bd_ H
 obtain ⟨⟨t140, t143⟩, A14, H⟩ := H
 try dsimp only at H
 have HC15 := Aside0.mk H
 clear H
 go_enter Tryz.func3, Tryz.ntmps3
 go_upto_region 14 with (first | ((with_reducible refine gate_callee (f := 4) rfl ?_); refine gl_ (some 43) rfl rfl Tryz.func4 #[.slice A0 l0.length c0] rfl ?_; (with_reducible refine (laws_big.calls _ _ l0 false _ ?side1 ?side2 A2.out).mono ?_); (case side1 => repeat (first | exact HR0.out | (with_reducible refine Kd.C_alloc ?_ _) | (with_reducible refine Kd.C_drewN ?_ _) | (with_reducible refine Kd.C_drew ?_))); (case side2 => exact HC0.out); rintro e w' ⟨rfl, ⟨nd, rfl⟩⟩; refine ⟨_, rfl, ?_⟩) | ((with_reducible refine gate_callee (f := 5) rfl ?_); refine gl_ (some 46) rfl rfl Tryz.func5 #[.slice A0 l0.length c0] rfl ?_; (with_reducible refine (spec_DrawAreAlike.calls k _ _ l0 t102 t105 t108 _ ?side1 ?side2 A4.out).mono ?_); (case side1 => repeat (first | exact HR0.out | (with_reducible refine Kd.C_alloc ?_ _) | (with_reducible refine Kd.C_drewN ?_ _) | (with_reducible refine Kd.C_drew ?_))); (case side2 => exact HC0.out); rintro e w16 ⟨v103, v106, v109, rfl, ho0, ho1, ho2, hb⟩; refine ⟨_, rfl, ?_⟩; have HO104 := Aside0.mk (Kd.R_lower ho0 (below_size (gb_ HB.out))); have HO107 := Aside0.mk (Kd.R_lower ho1 (below_size (gb_ HB.out))); have HO110 := Aside0.mk (Kd.R_lower ho2 (below_size (gb_ HB.out))); replace HB := b1_ HB hb; (try clear hb); (try clear hb2); (try clear hk); (try clear hi); (try clear ho0); (try clear ho1); (try clear ho2)) | ((with_reducible refine gate_dst (N := 3) rfl ?_); refine bx_ (N := 3) (cs := #[.slice none 0 0]) (t := 26) rfl rfl ?_; intro gb111 hg w17 hbox hb; replace HO104 := a1_ HO104 hb; replace HO107 := a1_ HO107 hb; replace HO110 := a1_ HO110 hb; have BK111 := Aside0.mk (hbox); have GW111 := ge_ hg HB; have GE111 := ge_ hg HB; replace HB := b1_ HB hb; clear hb hbox hg; obtain ⟨Ao18, co18, eo18⟩ := Kd.R_slice HO104.out; subst eo18; have hcz19_0 := hz_ BK111; have hfz19_0 := blk_frozen BK111.out 0; obtain ⟨Ao20, co20, eo20⟩ := Kd.R_slice HO107.out; subst eo20; obtain ⟨Ao21, co21, eo21⟩ := Kd.R_slice HO110.out; subst eo21) | ((with_reducible refine gate_callee (f := 6) rfl ?_); refine gl_ (some 54) rfl rfl Tryz.func6 #[.agg #[.slice Ao18 t102.length co18], .slice Ao20 t105.length co20, .slice Ao21 t108.length co21] rfl ?_; (with_reducible refine (impl_AreAlike.calls _ _ t102 _ _ t105 _ _ t108 t112 t113 _ ?side1 ?side2 ?side3 ?side4 ?side5 ?side6 A5.out).mono ?_); (case side1 => refine (Kd.R_reads' (e := 2) (base := w.heap.size) (ok := fun _ => True) (n := t102.length) (c := co18) ?_).2.2; exact (rb_ (Kd.R_mono (Kd.R_far (p := ⟨gb111, 0, none⟩) (Kd.R_types HO104.out BK111.out (by decide)) (fun _ hk => hk.2) (.slice Ao18 t102.length co18)) (fun _ _ => trivial)))); (case side2 => exact (Kd.R_reads' HO104.out).2.1); (case side3 => refine (Kd.R_reads' (e := 2) (base := w.heap.size) (ok := fun _ => True) (n := t105.length) (c := co20) ?_).2.2; exact (rb_ (Kd.R_mono (Kd.R_far (p := ⟨gb111, 0, none⟩) (Kd.R_types HO107.out BK111.out (by decide)) (fun _ hk => hk.2) (.slice Ao18 t102.length co18)) (fun _ _ => trivial)))); (case side4 => exact (Kd.R_reads' HO107.out).2.1); (case side5 => refine (Kd.R_reads' (e := 2) (base := w.heap.size) (ok := fun _ => True) (n := t108.length) (c := co21) ?_).2.2; exact (rb_ (Kd.R_mono (Kd.R_far (p := ⟨gb111, 0, none⟩) (Kd.R_types HO110.out BK111.out (by decide)) (fun _ hk => hk.2) (.slice Ao18 t102.length co18)) (fun _ _ => trivial)))); (case side6 => exact (Kd.R_reads' HO110.out).2.1); rintro e w22 ⟨rfl, hb⟩; refine ⟨_, rfl, ?_⟩; replace HO104 := a4_ HO104 BK111 hb; replace HO107 := a4_ HO107 BK111 hb; replace HO110 := a4_ HO110 BK111 hb; replace BK111 := Aside0.mk (blk_below (g := gb111) (o := .cells #[.slice Ao18 t102.length co18] 26 (0, 0)) (by (with_reducible repeat (first | refine blk_drewN ?_ _ | refine blk_drew ?_ | refine blk_alloc ?_ _)); refine blk_put (cs := #[.slice none 0 0]) ?_ 0 _ rfl; (with_reducible repeat (first | refine blk_drewN ?_ _ | refine blk_drew ?_ | refine blk_alloc ?_ _)); exact BK111.out) hb); replace HB := b1_ HB hb; (try clear hb); (try clear hb2); (try clear hk); (try clear hi); have hcz23_0 := hz_ BK111; have hfz23_0 := blk_frozen BK111.out 0) | ((with_reducible refine gate_callee (f := 7) rfl ?_); refine gl_ (some 61) rfl rfl Tryz.func7 #[.agg #[.slice Ao18 t102.length co18], .slice Ao20 t105.length co20, .slice Ao21 t108.length co21] rfl ?_; (with_reducible refine (spec_AreAlike.calls k _ _ t102 _ _ t105 _ _ t108 t114 t115 _ ?side1 ?side2 ?side3 ?side4 ?side5 ?side6 A6.out).mono ?_); (case side1 => exact c1_ HO104); (case side2 => exact (Kd.R_reads' HO104.out).2.1); (case side3 => exact c1_ HO107); (case side4 => exact (Kd.R_reads' HO107.out).2.1); (case side5 => exact c1_ HO110); (case side6 => exact (Kd.R_reads' HO110.out).2.1); rintro e w24 ⟨rfl, hb⟩; refine ⟨_, rfl, ?_⟩; replace HO104 := a1_ HO104 hb; replace HO107 := a1_ HO107 hb; replace HO110 := a1_ HO110 hb; replace BK111 := a2_ BK111 hb; replace HB := b1_ HB hb; (try clear hb); (try clear hb2); (try clear hk); (try clear hi); have hcz25_0 := hz_ BK111; have hfz25_0 := blk_frozen BK111.out 0) | ((with_reducible refine gate_callee (f := 8) rfl ?_); refine gl_ (some 67) rfl rfl Tryz.func8 #[.agg #[.slice Ao18 t102.length co18], .slice Ao20 t105.length co20] rfl ?_; (with_reducible refine (impl_LeastForm.calls _ _ t102 _ _ t105 t116 t119 _ ?side1 ?side2 ?side3 ?side4 A7.out).mono ?_); (case side1 => exact c1_ HO104); (case side2 => exact (Kd.R_reads' HO104.out).2.1); (case side3 => exact c1_ HO107); (case side4 => exact (Kd.R_reads' HO107.out).2.1); rintro e w26 ⟨v117, rfl, ho0, hb⟩; refine ⟨_, rfl, ?_⟩; have HO118 := Aside0.mk (Kd.R_lower (Kd.R_new' (Kd.R_new' (Kd.R_new' ho0 (Kd.R_lt (rb_ HO104.out))) (Kd.R_lt (rb_ HO107.out))) (Kd.R_lt (rb_ HO110.out))) (below_size (gb_ HB.out))); replace HO104 := a5_ HO104 ho0 hb; replace HO107 := a5_ HO107 ho0 hb; replace HO110 := a5_ HO110 ho0 hb; replace BK111 := a2_ BK111 hb; replace HB := b1_ HB hb; (try clear hb); (try clear hb2); (try clear hk); (try clear hi); (try clear ho0); have hcz27_0 := hz_ BK111; have hfz27_0 := blk_frozen BK111.out 0) | ((with_reducible refine gate_callee (f := 9) rfl ?_); refine gl_ (some 73) rfl rfl Tryz.func9 #[.agg #[.slice Ao18 t102.length co18], .slice Ao20 t105.length co20] rfl ?_; (with_reducible refine (spec_LeastForm.calls k _ _ t102 _ _ t105 t120 t123 _ ?side1 ?side2 ?side3 ?side4 A8.out).mono ?_); (case side1 => exact c1_ HO104); (case side2 => exact (Kd.R_reads' HO104.out).2.1); (case side3 => exact c1_ HO107); (case side4 => exact (Kd.R_reads' HO107.out).2.1); rintro e w28 ⟨v121, rfl, ho0, hb⟩; refine ⟨_, rfl, ?_⟩; have HO122 := Aside0.mk (Kd.R_lower (Kd.R_new' (Kd.R_new' (Kd.R_new' (Kd.R_new' ho0 (Kd.R_lt (rb_ HO104.out))) (Kd.R_lt (rb_ HO107.out))) (Kd.R_lt (rb_ HO110.out))) (Kd.R_lt (rb_ HO118.out))) (below_size (gb_ HB.out))); replace HO104 := a5_ HO104 ho0 hb; replace HO107 := a5_ HO107 ho0 hb; replace HO110 := a5_ HO110 ho0 hb; replace HO118 := a5_ HO118 ho0 hb; replace BK111 := a2_ BK111 hb; replace HB := b1_ HB hb; (try clear hb); (try clear hb2); (try clear hk); (try clear hi); (try clear ho0); have hcz29_0 := hz_ BK111; have hfz29_0 := blk_frozen BK111.out 0) | ((with_reducible refine gate_callee (f := 10) rfl ?_); refine gl_ (some 79) rfl rfl Tryz.func10 #[.agg #[.slice Ao18 t102.length co18], .slice Ao20 t105.length co20] rfl ?_; (with_reducible refine (impl_CountKeeping.calls _ _ t102 _ _ t105 t124 t125 _ ?side1 ?side2 ?side3 ?side4 A9.out).mono ?_); (case side1 => exact c1_ HO104); (case side2 => exact (Kd.R_reads' HO104.out).2.1); (case side3 => exact c1_ HO107); (case side4 => exact (Kd.R_reads' HO107.out).2.1); rintro e w30 ⟨rfl, hb⟩; refine ⟨_, rfl, ?_⟩; replace HO104 := a1_ HO104 hb; replace HO107 := a1_ HO107 hb; replace HO110 := a1_ HO110 hb; replace HO118 := a1_ HO118 hb; replace HO122 := a1_ HO122 hb; replace BK111 := a2_ BK111 hb; replace HB := b1_ HB hb; (try clear hb); (try clear hb2); (try clear hk); (try clear hi); have hcz31_0 := hz_ BK111; have hfz31_0 := blk_frozen BK111.out 0) | ((with_reducible refine gate_callee (f := 11) rfl ?_); refine gl_ (some 85) rfl rfl Tryz.func11 #[.agg #[.slice Ao18 t102.length co18], .slice Ao20 t105.length co20] rfl ?_; (with_reducible refine (spec_CountKeeping.calls k _ _ t102 _ _ t105 t126 t127 _ ?side1 ?side2 ?side3 ?side4 A10.out).mono ?_); (case side1 => exact c1_ HO104); (case side2 => exact (Kd.R_reads' HO104.out).2.1); (case side3 => exact c1_ HO107); (case side4 => exact (Kd.R_reads' HO107.out).2.1); rintro e w32 ⟨rfl, hb⟩; refine ⟨_, rfl, ?_⟩; replace HO104 := a1_ HO104 hb; replace HO107 := a1_ HO107 hb; replace HO110 := a1_ HO110 hb; replace HO118 := a1_ HO118 hb; replace HO122 := a1_ HO122 hb; replace BK111 := a2_ BK111 hb; replace HB := b1_ HB hb; (try clear hb); (try clear hb2); (try clear hk); (try clear hi); have hcz33_0 := hz_ BK111; have hfz33_0 := blk_frozen BK111.out 0) | ((with_reducible refine gate_callee (f := 12) rfl ?_); refine gl_ (some 92) rfl rfl Tryz.func12 #[.agg #[.slice Ao18 t102.length co18], .slice Ao20 t105.length co20, .slice Ao21 t108.length co21] rfl ?_; (with_reducible refine (impl_CodesTogether.calls _ _ t102 _ _ t105 _ _ t108 t128 t131 _ ?side1 ?side2 ?side3 ?side4 ?side5 ?side6 A11.out).mono ?_); (case side1 => exact c1_ HO104); (case side2 => exact (Kd.R_reads' HO104.out).2.1); (case side3 => exact c1_ HO107); (case side4 => exact (Kd.R_reads' HO107.out).2.1); (case side5 => exact c1_ HO110); (case side6 => exact (Kd.R_reads' HO110.out).2.1); rintro e w34 ⟨v129, rfl, ho0, hb⟩; refine ⟨_, rfl, ?_⟩; have HO130 := Aside0.mk (Kd.R_lower (Kd.R_new' (Kd.R_new' (Kd.R_new' (Kd.R_new' (Kd.R_new' ho0 (Kd.R_lt (rb_ HO104.out))) (Kd.R_lt (rb_ HO107.out))) (Kd.R_lt (rb_ HO110.out))) (Kd.R_lt (rb_ HO118.out))) (Kd.R_lt (rb_ HO122.out))) (below_size (gb_ HB.out))); replace HO104 := a5_ HO104 ho0 hb; replace HO107 := a5_ HO107 ho0 hb; replace HO110 := a5_ HO110 ho0 hb; replace HO118 := a5_ HO118 ho0 hb; replace HO122 := a5_ HO122 ho0 hb; replace BK111 := a2_ BK111 hb; replace HB := b1_ HB hb; (try clear hb); (try clear hb2); (try clear hk); (try clear hi); (try clear ho0); have hcz35_0 := hz_ BK111; have hfz35_0 := blk_frozen BK111.out 0) | ((with_reducible refine gate_callee (f := 13) rfl ?_); refine gl_ (some 99) rfl rfl Tryz.func13 #[.agg #[.slice Ao18 t102.length co18], .slice Ao20 t105.length co20, .slice Ao21 t108.length co21] rfl ?_; (with_reducible refine (spec_CodesTogether.calls k _ _ t102 _ _ t105 _ _ t108 t132 t135 _ ?side1 ?side2 ?side3 ?side4 ?side5 ?side6 A12.out).mono ?_); (case side1 => exact c1_ HO104); (case side2 => exact (Kd.R_reads' HO104.out).2.1); (case side3 => exact c1_ HO107); (case side4 => exact (Kd.R_reads' HO107.out).2.1); (case side5 => exact c1_ HO110); (case side6 => exact (Kd.R_reads' HO110.out).2.1); rintro e w36 ⟨v133, rfl, ho0, hb⟩; refine ⟨_, rfl, ?_⟩; have HO134 := Aside0.mk (Kd.R_lower (Kd.R_new' (Kd.R_new' (Kd.R_new' (Kd.R_new' (Kd.R_new' (Kd.R_new' ho0 (Kd.R_lt (rb_ HO104.out))) (Kd.R_lt (rb_ HO107.out))) (Kd.R_lt (rb_ HO110.out))) (Kd.R_lt (rb_ HO118.out))) (Kd.R_lt (rb_ HO122.out))) (Kd.R_lt (rb_ HO130.out))) (below_size (gb_ HB.out))); replace HO104 := a5_ HO104 ho0 hb; replace HO107 := a5_ HO107 ho0 hb; replace HO110 := a5_ HO110 ho0 hb; replace HO118 := a5_ HO118 ho0 hb; replace HO122 := a5_ HO122 ho0 hb; replace HO130 := a5_ HO130 ho0 hb; replace BK111 := a2_ BK111 hb; replace HB := b1_ HB hb; (try clear hb); (try clear hb2); (try clear hk); (try clear hi); (try clear ho0); have hcz37_0 := hz_ BK111; have hfz37_0 := blk_frozen BK111.out 0) | ((with_reducible refine gate_callee (f := 14) rfl ?_); refine gl_ (some 106) rfl rfl Tryz.func14 #[.agg #[.slice Ao18 t102.length co18], .slice Ao20 t105.length co20, .slice Ao21 t108.length co21] rfl ?_; (with_reducible refine (impl_CodesInCommon.calls _ _ t102 _ _ t105 _ _ t108 t136 t139 _ ?side1 ?side2 ?side3 ?side4 ?side5 ?side6 A13.out).mono ?_); (case side1 => exact c1_ HO104); (case side2 => exact (Kd.R_reads' HO104.out).2.1); (case side3 => exact c1_ HO107); (case side4 => exact (Kd.R_reads' HO107.out).2.1); (case side5 => exact c1_ HO110); (case side6 => exact (Kd.R_reads' HO110.out).2.1); rintro e w38 ⟨v137, rfl, ho0, hb⟩; refine ⟨_, rfl, ?_⟩; have HO138 := Aside0.mk (Kd.R_lower (Kd.R_new' (Kd.R_new' (Kd.R_new' (Kd.R_new' (Kd.R_new' (Kd.R_new' (Kd.R_new' ho0 (Kd.R_lt (rb_ HO104.out))) (Kd.R_lt (rb_ HO107.out))) (Kd.R_lt (rb_ HO110.out))) (Kd.R_lt (rb_ HO118.out))) (Kd.R_lt (rb_ HO122.out))) (Kd.R_lt (rb_ HO130.out))) (Kd.R_lt (rb_ HO134.out))) (below_size (gb_ HB.out))); replace HO104 := a5_ HO104 ho0 hb; replace HO107 := a5_ HO107 ho0 hb; replace HO110 := a5_ HO110 ho0 hb; replace HO118 := a5_ HO118 ho0 hb; replace HO122 := a5_ HO122 ho0 hb; replace HO130 := a5_ HO130 ho0 hb; replace HO134 := a5_ HO134 ho0 hb; replace BK111 := a2_ BK111 hb; replace HB := b1_ HB hb; (try clear hb); (try clear hb2); (try clear hk); (try clear hi); (try clear ho0); have hcz39_0 := hz_ BK111; have hfz39_0 := blk_frozen BK111.out 0) | ((with_reducible refine gate_callee (f := 15) rfl ?_); refine gl_ (some 113) rfl rfl Tryz.func15 #[.agg #[.slice Ao18 t102.length co18], .slice Ao20 t105.length co20, .slice Ao21 t108.length co21] rfl ?_; (with_reducible refine (spec_CodesInCommon.calls k _ _ t102 _ _ t105 _ _ t108 t140 t143 _ ?side1 ?side2 ?side3 ?side4 ?side5 ?side6 A14.out).mono ?_); (case side1 => exact c1_ HO104); (case side2 => exact (Kd.R_reads' HO104.out).2.1); (case side3 => exact c1_ HO107); (case side4 => exact (Kd.R_reads' HO107.out).2.1); (case side5 => exact c1_ HO110); (case side6 => exact (Kd.R_reads' HO110.out).2.1); rintro e w40 ⟨v141, rfl, ho0, hb⟩; refine ⟨_, rfl, ?_⟩; have HO142 := Aside0.mk (Kd.R_lower (Kd.R_new' (Kd.R_new' (Kd.R_new' (Kd.R_new' (Kd.R_new' (Kd.R_new' (Kd.R_new' (Kd.R_new' ho0 (Kd.R_lt (rb_ HO104.out))) (Kd.R_lt (rb_ HO107.out))) (Kd.R_lt (rb_ HO110.out))) (Kd.R_lt (rb_ HO118.out))) (Kd.R_lt (rb_ HO122.out))) (Kd.R_lt (rb_ HO130.out))) (Kd.R_lt (rb_ HO134.out))) (Kd.R_lt (rb_ HO138.out))) (below_size (gb_ HB.out))); replace HO104 := a5_ HO104 ho0 hb; replace HO107 := a5_ HO107 ho0 hb; replace HO110 := a5_ HO110 ho0 hb; replace HO118 := a5_ HO118 ho0 hb; replace HO122 := a5_ HO122 ho0 hb; replace HO130 := a5_ HO130 ho0 hb; replace HO134 := a5_ HO134 ho0 hb; replace HO138 := a5_ HO138 ho0 hb; replace BK111 := a2_ BK111 hb; replace HB := b1_ HB hb; (try clear hb); (try clear hb2); (try clear hk); (try clear hi); (try clear ho0)))
 (try simp only [Act.put, List.setIfInBounds_toArray, List.set_cons_zero, List.set_cons_succ])
 go_cut [166] (fun cs_166 wc => ∃ (kq : Nat) (x166_14 : Bool), cs_166 = .bool x166_14 ∧ Aside0 (laws_FnForms.j0 kq t105 t108 t112 t113 t116 t119 t124 t128 t131 t136 x166_14 t102 = some r) ∧ Aside0 (kq ≤ k) ∧ Aside0 (Kd.R (Kd.int .i64) 2 wc w.heap.size (fun k_ => OB_ k_ (.slice Ao21 t108.length co21) ∧ OB_ k_ v117 ∧ OB_ k_ v129 ∧ OB_ k_ v137 ∧ OB_ k_ (.slice Ao18 t102.length co18)) (.slice Ao20 t105.length co20) t105) ∧ Aside0 (Kd.R (Kd.int .i64) 2 wc w.heap.size (fun k_ => OB_ k_ (.slice Ao20 t105.length co20) ∧ OB_ k_ v117 ∧ OB_ k_ v129 ∧ OB_ k_ v137 ∧ OB_ k_ (.slice Ao18 t102.length co18)) (.slice Ao21 t108.length co21) t108) ∧ Aside0 (Kd.R (Kd.int .i64) 2 wc w.heap.size (fun k_ => OB_ k_ (.slice Ao20 t105.length co20) ∧ OB_ k_ (.slice Ao21 t108.length co21) ∧ OB_ k_ v129 ∧ OB_ k_ v137 ∧ OB_ k_ (.slice Ao18 t102.length co18)) v117 t116) ∧ Aside0 (Kd.R (Kd.int .i64) 2 wc w.heap.size (fun k_ => OB_ k_ (.slice Ao20 t105.length co20) ∧ OB_ k_ (.slice Ao21 t108.length co21) ∧ OB_ k_ v117 ∧ OB_ k_ v137 ∧ OB_ k_ (.slice Ao18 t102.length co18)) v129 t128) ∧ Aside0 (Kd.R (Kd.int .i64) 2 wc w.heap.size (fun k_ => OB_ k_ (.slice Ao20 t105.length co20) ∧ OB_ k_ (.slice Ao21 t108.length co21) ∧ OB_ k_ v117 ∧ OB_ k_ v129 ∧ OB_ k_ (.slice Ao18 t102.length co18)) v137 t136) ∧ Aside0 (Kd.R (Kd.int .i64) 2 wc w.heap.size (fun k_ => OB_ k_ (.slice Ao20 t105.length co20) ∧ OB_ k_ (.slice Ao21 t108.length co21) ∧ OB_ k_ v117 ∧ OB_ k_ v129 ∧ OB_ k_ v137) (.slice Ao18 t102.length co18) t102) ∧ Aside0 (wc.heap[gb111]? = some (.cells #[(.slice Ao18 t102.length co18)] 26 (0, 0))) ∧ Aside0 (Below w.heap.size w wc))
 case first => as_aux_lemma =>
  have H := HC15.out
  clear HC15
  by_cases c41 : t113 = t115
  ·as_aux_lemma =>
   rw [if_pos c41] at H
   have c41b0 : (t113 == t115) = true := beq_iff_eq.mpr c41
   have c41b1 : (t113 != t115) = false := bne_eq_false_iff_eq.mpr c41
   clear c41
   (first | rw [c41b0] | (simp only [i64_w, i32_w]; rw [c41b0]) | skip)
   by_cases c42 : (t112 != t114) = true
   ·as_aux_lemma =>
    rw [if_pos c42] at H
    have c42b0 : (t112 != t114) = true := c42
    (try (have c42b1 : decide (t112 = t114) = false := by simpa using c42))
    (try (have c42b2 : (t112 == t114) = false := by simpa using c42))
    (try (have c42b3 : ¬ (t112 = t114) := by simpa using c42))
    clear c42
    have H' := Aside0.mk H
    clear H
    go_wp2
    go_meet
    case rel => exact ⟨_, (true), t2_, H', ⟨by first | omega | exact Nat.le_refl _⟩, ⟨rb_ (Kd.R_mono HO107.out (fun _ hk => ⟨hk.1.1.1.1.1.1.2, ⟨hk.1.1.1.1.1.2, ⟨hk.1.1.1.2, ⟨hk.1.2, hk.1.1.1.1.1.1.1⟩⟩⟩⟩))⟩, ⟨rb_ (Kd.R_mono HO110.out (fun _ hk => ⟨hk.1.1.1.1.1.1.2, ⟨hk.1.1.1.1.1.2, ⟨hk.1.1.1.2, ⟨hk.1.2, hk.1.1.1.1.1.1.1⟩⟩⟩⟩))⟩, ⟨rb_ (Kd.R_mono HO118.out (fun _ hk => ⟨hk.1.1.1.1.1.1.2, ⟨hk.1.1.1.1.1.2, ⟨hk.1.1.1.2, ⟨hk.1.2, hk.1.1.1.1.1.1.1.2⟩⟩⟩⟩))⟩, ⟨rb_ (Kd.R_mono HO130.out (fun _ hk => ⟨hk.1.1.1.1.1.1.2, ⟨hk.1.1.1.1.1.2, ⟨hk.1.1.1.1.2, ⟨hk.1.2, hk.1.1.1.1.1.1.1.2⟩⟩⟩⟩))⟩, ⟨rb_ (Kd.R_mono HO138.out (fun _ hk => ⟨hk.1.1.1.1.1.1.2, ⟨hk.1.1.1.1.1.2, ⟨hk.1.1.1.1.2, ⟨hk.1.1.2, hk.1.1.1.1.1.1.1.2⟩⟩⟩⟩))⟩, ⟨rb_ (Kd.R_mono HO104.out (fun _ hk => ⟨hk.1.1.1.1.1.1.1, ⟨hk.1.1.1.1.1.1.2, ⟨hk.1.1.1.1.1.2, ⟨hk.1.1.1.2, hk.1.2⟩⟩⟩⟩))⟩, ⟨bb_ BK111.out⟩, ⟨gb_ HB.out⟩⟩
   ·as_aux_lemma =>
    rw [if_neg c42] at H
    have c42b0 : (t112 != t114) = false := by simpa using c42
    (try (have c42b1 : decide (t112 = t114) = true := by simpa using c42))
    (try (have c42b2 : (t112 == t114) = true := by simpa using c42))
    clear c42
    by_cases c43 : t119 = t123
    ·as_aux_lemma =>
     rw [if_pos c43] at H
     have c43b0 : (t119 == t123) = true := beq_iff_eq.mpr c43
     have c43b1 : (t119 != t123) = false := bne_eq_false_iff_eq.mpr c43
     clear c43
     replace H := bd_ H
     obtain ⟨t144, A44, H⟩ := H
     by_cases c45 : t144 = true
     ·as_aux_lemma =>
      subst c45
      have H1 : (if t125 = t127 then (if t124 = t126 then (if t131 = t135 then ((laws_likeInts.f k t128 t132).bind fun t145 => (if t145 = true then (if t139 = t143 then ((laws_likeInts.f k t136 t140).bind fun t146 => (laws_FnForms.j0 k t105 t108 t112 t113 t116 t119 t124 t128 t131 t136 (!t146) t102)) else (laws_FnForms.j0 k t105 t108 t112 t113 t116 t119 t124 t128 t131 t136 true t102)) else (laws_FnForms.j0 k t105 t108 t112 t113 t116 t119 t124 t128 t131 t136 true t102))) else (laws_FnForms.j0 k t105 t108 t112 t113 t116 t119 t124 t128 t131 t136 true t102)) else (laws_FnForms.j0 k t105 t108 t112 t113 t116 t119 t124 t128 t131 t136 true t102)) else (laws_FnForms.j0 k t105 t108 t112 t113 t116 t119 t124 t128 t131 t136 true t102)) = some r := by rw [if_pos rfl] at H; exact H
      clear H
      have H := H1
      clear H1
      by_cases c46 : t125 = t127
      ·as_aux_lemma =>
       rw [if_pos c46] at H
       have c46b0 : (t125 == t127) = true := beq_iff_eq.mpr c46
       have c46b1 : (t125 != t127) = false := bne_eq_false_iff_eq.mpr c46
       clear c46
       by_cases c47 : t124 = t126
       ·as_aux_lemma =>
        rw [if_pos c47] at H
        have c47b0 : (t124 == t126) = true := beq_iff_eq.mpr c47
        have c47b1 : (t124 != t126) = false := bne_eq_false_iff_eq.mpr c47
        clear c47
        by_cases c48 : t131 = t135
        ·as_aux_lemma =>
         rw [if_pos c48] at H
         have c48b0 : (t131 == t135) = true := beq_iff_eq.mpr c48
         have c48b1 : (t131 != t135) = false := bne_eq_false_iff_eq.mpr c48
         clear c48
         replace H := bd_ H
         obtain ⟨t145, A49, H⟩ := H
         by_cases c50 : t145 = true
         ·as_aux_lemma =>
          subst c50
          have H1 : (if t139 = t143 then ((laws_likeInts.f k t136 t140).bind fun t146 => (laws_FnForms.j0 k t105 t108 t112 t113 t116 t119 t124 t128 t131 t136 (!t146) t102)) else (laws_FnForms.j0 k t105 t108 t112 t113 t116 t119 t124 t128 t131 t136 true t102)) = some r := by rw [if_pos rfl] at H; exact H
          clear H
          have H := H1
          clear H1
          by_cases c51 : t139 = t143
          ·as_aux_lemma =>
           rw [if_pos c51] at H
           have c51b0 : (t139 == t143) = true := beq_iff_eq.mpr c51
           have c51b1 : (t139 != t143) = false := bne_eq_false_iff_eq.mpr c51
           clear c51
           replace H := bd_ H
           obtain ⟨t146, A52, H⟩ := H
           have H' := Aside0.mk H
           clear H
           obtain ⟨Ao53, co53, eo53⟩ := Kd.R_slice HO118.out
           subst eo53
           obtain ⟨Ao54, co54, eo54⟩ := Kd.R_slice HO122.out
           subst eo54
           go_wp2_with (first | (go_at_call 16; (with_reducible refine (laws_likeInts.calls k _ _ t116 _ _ t120 true _ ?side1 ?side2 ?side3 ?side4 A44.out).mono ?_); (case side1 => exact c1_ HO118); (case side2 => exact (Kd.R_reads' HO118.out).2.1); (case side3 => exact c1_ HO122); (case side4 => exact (Kd.R_reads' HO122.out).2.1); rintro e w' ⟨rfl, ⟨nd, rfl⟩⟩; obtain ⟨Ao55, co55, eo55⟩ := Kd.R_slice HO130.out; subst eo55; obtain ⟨Ao56, co56, eo56⟩ := Kd.R_slice HO134.out; subst eo56) | (go_at_call 16; (with_reducible refine (laws_likeInts.calls k _ _ t128 _ _ t132 true _ ?side1 ?side2 ?side3 ?side4 A49.out).mono ?_); (case side1 => exact c1_ HO130); (case side2 => exact (Kd.R_reads' HO130.out).2.1); (case side3 => exact c1_ HO134); (case side4 => exact (Kd.R_reads' HO134.out).2.1); rintro e w' ⟨rfl, ⟨nd, rfl⟩⟩; obtain ⟨Ao57, co57, eo57⟩ := Kd.R_slice HO138.out; subst eo57; obtain ⟨Ao58, co58, eo58⟩ := Kd.R_slice HO142.out; subst eo58) | (go_at_call 16; (with_reducible refine (laws_likeInts.calls k _ _ t136 _ _ t140 t146 _ ?side1 ?side2 ?side3 ?side4 A52.out).mono ?_); (case side1 => exact c1_ HO138); (case side2 => exact (Kd.R_reads' HO138.out).2.1); (case side3 => exact c1_ HO142); (case side4 => exact (Kd.R_reads' HO142.out).2.1); rintro e w' ⟨rfl, ⟨nd, rfl⟩⟩))
           go_meet
           case rel => exact ⟨_, (!t146), t2_, H', ⟨by first | omega | exact Nat.le_refl _⟩, ⟨rb_ (Kd.R_mono HO107.out (fun _ hk => ⟨hk.1.1.1.1.1.1.2, ⟨hk.1.1.1.1.1.2, ⟨hk.1.1.1.2, ⟨hk.1.2, hk.1.1.1.1.1.1.1⟩⟩⟩⟩))⟩, ⟨rb_ (Kd.R_mono HO110.out (fun _ hk => ⟨hk.1.1.1.1.1.1.2, ⟨hk.1.1.1.1.1.2, ⟨hk.1.1.1.2, ⟨hk.1.2, hk.1.1.1.1.1.1.1⟩⟩⟩⟩))⟩, ⟨rb_ (Kd.R_mono HO118.out (fun _ hk => ⟨hk.1.1.1.1.1.1.2, ⟨hk.1.1.1.1.1.2, ⟨hk.1.1.1.2, ⟨hk.1.2, hk.1.1.1.1.1.1.1.2⟩⟩⟩⟩))⟩, ⟨rb_ (Kd.R_mono HO130.out (fun _ hk => ⟨hk.1.1.1.1.1.1.2, ⟨hk.1.1.1.1.1.2, ⟨hk.1.1.1.1.2, ⟨hk.1.2, hk.1.1.1.1.1.1.1.2⟩⟩⟩⟩))⟩, ⟨rb_ (Kd.R_mono HO138.out (fun _ hk => ⟨hk.1.1.1.1.1.1.2, ⟨hk.1.1.1.1.1.2, ⟨hk.1.1.1.1.2, ⟨hk.1.1.2, hk.1.1.1.1.1.1.1.2⟩⟩⟩⟩))⟩, ⟨rb_ (Kd.R_mono HO104.out (fun _ hk => ⟨hk.1.1.1.1.1.1.1, ⟨hk.1.1.1.1.1.1.2, ⟨hk.1.1.1.1.1.2, ⟨hk.1.1.1.2, hk.1.2⟩⟩⟩⟩))⟩, ⟨bb_ BK111.out⟩, ⟨gb_ HB.out⟩⟩
          ·as_aux_lemma =>
           rw [if_neg c51] at H
           have c51b0 : (t139 == t143) = false := beq_eq_false_iff_ne.mpr c51
           have c51b1 : (t139 != t143) = true := bne_iff_ne.mpr c51
           have H' := Aside0.mk H
           clear H
           obtain ⟨Ao59, co59, eo59⟩ := Kd.R_slice HO118.out
           subst eo59
           obtain ⟨Ao60, co60, eo60⟩ := Kd.R_slice HO122.out
           subst eo60
           go_wp2_with (first | (go_at_call 16; (with_reducible refine (laws_likeInts.calls k _ _ t116 _ _ t120 true _ ?side1 ?side2 ?side3 ?side4 A44.out).mono ?_); (case side1 => exact c1_ HO118); (case side2 => exact (Kd.R_reads' HO118.out).2.1); (case side3 => exact c1_ HO122); (case side4 => exact (Kd.R_reads' HO122.out).2.1); rintro e w' ⟨rfl, ⟨nd, rfl⟩⟩; obtain ⟨Ao61, co61, eo61⟩ := Kd.R_slice HO130.out; subst eo61; obtain ⟨Ao62, co62, eo62⟩ := Kd.R_slice HO134.out; subst eo62) | (go_at_call 16; (with_reducible refine (laws_likeInts.calls k _ _ t128 _ _ t132 true _ ?side1 ?side2 ?side3 ?side4 A49.out).mono ?_); (case side1 => exact c1_ HO130); (case side2 => exact (Kd.R_reads' HO130.out).2.1); (case side3 => exact c1_ HO134); (case side4 => exact (Kd.R_reads' HO134.out).2.1); rintro e w' ⟨rfl, ⟨nd, rfl⟩⟩))
           go_meet
           case rel => exact ⟨_, (true), t2_, H', ⟨by first | omega | exact Nat.le_refl _⟩, ⟨rb_ (Kd.R_mono HO107.out (fun _ hk => ⟨hk.1.1.1.1.1.1.2, ⟨hk.1.1.1.1.1.2, ⟨hk.1.1.1.2, ⟨hk.1.2, hk.1.1.1.1.1.1.1⟩⟩⟩⟩))⟩, ⟨rb_ (Kd.R_mono HO110.out (fun _ hk => ⟨hk.1.1.1.1.1.1.2, ⟨hk.1.1.1.1.1.2, ⟨hk.1.1.1.2, ⟨hk.1.2, hk.1.1.1.1.1.1.1⟩⟩⟩⟩))⟩, ⟨rb_ (Kd.R_mono HO118.out (fun _ hk => ⟨hk.1.1.1.1.1.1.2, ⟨hk.1.1.1.1.1.2, ⟨hk.1.1.1.2, ⟨hk.1.2, hk.1.1.1.1.1.1.1.2⟩⟩⟩⟩))⟩, ⟨rb_ (Kd.R_mono HO130.out (fun _ hk => ⟨hk.1.1.1.1.1.1.2, ⟨hk.1.1.1.1.1.2, ⟨hk.1.1.1.1.2, ⟨hk.1.2, hk.1.1.1.1.1.1.1.2⟩⟩⟩⟩))⟩, ⟨rb_ (Kd.R_mono HO138.out (fun _ hk => ⟨hk.1.1.1.1.1.1.2, ⟨hk.1.1.1.1.1.2, ⟨hk.1.1.1.1.2, ⟨hk.1.1.2, hk.1.1.1.1.1.1.1.2⟩⟩⟩⟩))⟩, ⟨rb_ (Kd.R_mono HO104.out (fun _ hk => ⟨hk.1.1.1.1.1.1.1, ⟨hk.1.1.1.1.1.1.2, ⟨hk.1.1.1.1.1.2, ⟨hk.1.1.1.2, hk.1.2⟩⟩⟩⟩))⟩, ⟨bb_ BK111.out⟩, ⟨gb_ HB.out⟩⟩
         ·as_aux_lemma =>
          replace c50 := Bool.eq_false_iff.mpr c50
          subst c50
          have H1 : (laws_FnForms.j0 k t105 t108 t112 t113 t116 t119 t124 t128 t131 t136 true t102) = some r := by rw [if_neg (show ¬ (false = true) by decide)] at H; exact H
          clear H
          have H := H1
          clear H1
          have H' := Aside0.mk H
          clear H
          obtain ⟨Ao63, co63, eo63⟩ := Kd.R_slice HO118.out
          subst eo63
          obtain ⟨Ao64, co64, eo64⟩ := Kd.R_slice HO122.out
          subst eo64
          go_wp2_with (first | (go_at_call 16; (with_reducible refine (laws_likeInts.calls k _ _ t116 _ _ t120 true _ ?side1 ?side2 ?side3 ?side4 A44.out).mono ?_); (case side1 => exact c1_ HO118); (case side2 => exact (Kd.R_reads' HO118.out).2.1); (case side3 => exact c1_ HO122); (case side4 => exact (Kd.R_reads' HO122.out).2.1); rintro e w' ⟨rfl, ⟨nd, rfl⟩⟩; obtain ⟨Ao65, co65, eo65⟩ := Kd.R_slice HO130.out; subst eo65; obtain ⟨Ao66, co66, eo66⟩ := Kd.R_slice HO134.out; subst eo66) | (go_at_call 16; (with_reducible refine (laws_likeInts.calls k _ _ t128 _ _ t132 false _ ?side1 ?side2 ?side3 ?side4 A49.out).mono ?_); (case side1 => exact c1_ HO130); (case side2 => exact (Kd.R_reads' HO130.out).2.1); (case side3 => exact c1_ HO134); (case side4 => exact (Kd.R_reads' HO134.out).2.1); rintro e w' ⟨rfl, ⟨nd, rfl⟩⟩))
          go_meet
          case rel => exact ⟨_, (true), t2_, H', ⟨by first | omega | exact Nat.le_refl _⟩, ⟨rb_ (Kd.R_mono HO107.out (fun _ hk => ⟨hk.1.1.1.1.1.1.2, ⟨hk.1.1.1.1.1.2, ⟨hk.1.1.1.2, ⟨hk.1.2, hk.1.1.1.1.1.1.1⟩⟩⟩⟩))⟩, ⟨rb_ (Kd.R_mono HO110.out (fun _ hk => ⟨hk.1.1.1.1.1.1.2, ⟨hk.1.1.1.1.1.2, ⟨hk.1.1.1.2, ⟨hk.1.2, hk.1.1.1.1.1.1.1⟩⟩⟩⟩))⟩, ⟨rb_ (Kd.R_mono HO118.out (fun _ hk => ⟨hk.1.1.1.1.1.1.2, ⟨hk.1.1.1.1.1.2, ⟨hk.1.1.1.2, ⟨hk.1.2, hk.1.1.1.1.1.1.1.2⟩⟩⟩⟩))⟩, ⟨rb_ (Kd.R_mono HO130.out (fun _ hk => ⟨hk.1.1.1.1.1.1.2, ⟨hk.1.1.1.1.1.2, ⟨hk.1.1.1.1.2, ⟨hk.1.2, hk.1.1.1.1.1.1.1.2⟩⟩⟩⟩))⟩, ⟨rb_ (Kd.R_mono HO138.out (fun _ hk => ⟨hk.1.1.1.1.1.1.2, ⟨hk.1.1.1.1.1.2, ⟨hk.1.1.1.1.2, ⟨hk.1.1.2, hk.1.1.1.1.1.1.1.2⟩⟩⟩⟩))⟩, ⟨rb_ (Kd.R_mono HO104.out (fun _ hk => ⟨hk.1.1.1.1.1.1.1, ⟨hk.1.1.1.1.1.1.2, ⟨hk.1.1.1.1.1.2, ⟨hk.1.1.1.2, hk.1.2⟩⟩⟩⟩))⟩, ⟨bb_ BK111.out⟩, ⟨gb_ HB.out⟩⟩
        ·as_aux_lemma =>
         rw [if_neg c48] at H
         have c48b0 : (t131 == t135) = false := beq_eq_false_iff_ne.mpr c48
         have c48b1 : (t131 != t135) = true := bne_iff_ne.mpr c48
         have H' := Aside0.mk H
         clear H
         obtain ⟨Ao67, co67, eo67⟩ := Kd.R_slice HO118.out
         subst eo67
         obtain ⟨Ao68, co68, eo68⟩ := Kd.R_slice HO122.out
         subst eo68
         go_wp2_with (first | (go_at_call 16; (with_reducible refine (laws_likeInts.calls k _ _ t116 _ _ t120 true _ ?side1 ?side2 ?side3 ?side4 A44.out).mono ?_); (case side1 => exact c1_ HO118); (case side2 => exact (Kd.R_reads' HO118.out).2.1); (case side3 => exact c1_ HO122); (case side4 => exact (Kd.R_reads' HO122.out).2.1); rintro e w' ⟨rfl, ⟨nd, rfl⟩⟩))
         go_meet
         case rel => exact ⟨_, (true), t2_, H', ⟨by first | omega | exact Nat.le_refl _⟩, ⟨rb_ (Kd.R_mono HO107.out (fun _ hk => ⟨hk.1.1.1.1.1.1.2, ⟨hk.1.1.1.1.1.2, ⟨hk.1.1.1.2, ⟨hk.1.2, hk.1.1.1.1.1.1.1⟩⟩⟩⟩))⟩, ⟨rb_ (Kd.R_mono HO110.out (fun _ hk => ⟨hk.1.1.1.1.1.1.2, ⟨hk.1.1.1.1.1.2, ⟨hk.1.1.1.2, ⟨hk.1.2, hk.1.1.1.1.1.1.1⟩⟩⟩⟩))⟩, ⟨rb_ (Kd.R_mono HO118.out (fun _ hk => ⟨hk.1.1.1.1.1.1.2, ⟨hk.1.1.1.1.1.2, ⟨hk.1.1.1.2, ⟨hk.1.2, hk.1.1.1.1.1.1.1.2⟩⟩⟩⟩))⟩, ⟨rb_ (Kd.R_mono HO130.out (fun _ hk => ⟨hk.1.1.1.1.1.1.2, ⟨hk.1.1.1.1.1.2, ⟨hk.1.1.1.1.2, ⟨hk.1.2, hk.1.1.1.1.1.1.1.2⟩⟩⟩⟩))⟩, ⟨rb_ (Kd.R_mono HO138.out (fun _ hk => ⟨hk.1.1.1.1.1.1.2, ⟨hk.1.1.1.1.1.2, ⟨hk.1.1.1.1.2, ⟨hk.1.1.2, hk.1.1.1.1.1.1.1.2⟩⟩⟩⟩))⟩, ⟨rb_ (Kd.R_mono HO104.out (fun _ hk => ⟨hk.1.1.1.1.1.1.1, ⟨hk.1.1.1.1.1.1.2, ⟨hk.1.1.1.1.1.2, ⟨hk.1.1.1.2, hk.1.2⟩⟩⟩⟩))⟩, ⟨bb_ BK111.out⟩, ⟨gb_ HB.out⟩⟩
       ·as_aux_lemma =>
        rw [if_neg c47] at H
        have c47b0 : (t124 == t126) = false := beq_eq_false_iff_ne.mpr c47
        have c47b1 : (t124 != t126) = true := bne_iff_ne.mpr c47
        have H' := Aside0.mk H
        clear H
        obtain ⟨Ao69, co69, eo69⟩ := Kd.R_slice HO118.out
        subst eo69
        obtain ⟨Ao70, co70, eo70⟩ := Kd.R_slice HO122.out
        subst eo70
        go_wp2_with (first | (go_at_call 16; (with_reducible refine (laws_likeInts.calls k _ _ t116 _ _ t120 true _ ?side1 ?side2 ?side3 ?side4 A44.out).mono ?_); (case side1 => exact c1_ HO118); (case side2 => exact (Kd.R_reads' HO118.out).2.1); (case side3 => exact c1_ HO122); (case side4 => exact (Kd.R_reads' HO122.out).2.1); rintro e w' ⟨rfl, ⟨nd, rfl⟩⟩))
        go_meet
        case rel => exact ⟨_, (true), t2_, H', ⟨by first | omega | exact Nat.le_refl _⟩, ⟨rb_ (Kd.R_mono HO107.out (fun _ hk => ⟨hk.1.1.1.1.1.1.2, ⟨hk.1.1.1.1.1.2, ⟨hk.1.1.1.2, ⟨hk.1.2, hk.1.1.1.1.1.1.1⟩⟩⟩⟩))⟩, ⟨rb_ (Kd.R_mono HO110.out (fun _ hk => ⟨hk.1.1.1.1.1.1.2, ⟨hk.1.1.1.1.1.2, ⟨hk.1.1.1.2, ⟨hk.1.2, hk.1.1.1.1.1.1.1⟩⟩⟩⟩))⟩, ⟨rb_ (Kd.R_mono HO118.out (fun _ hk => ⟨hk.1.1.1.1.1.1.2, ⟨hk.1.1.1.1.1.2, ⟨hk.1.1.1.2, ⟨hk.1.2, hk.1.1.1.1.1.1.1.2⟩⟩⟩⟩))⟩, ⟨rb_ (Kd.R_mono HO130.out (fun _ hk => ⟨hk.1.1.1.1.1.1.2, ⟨hk.1.1.1.1.1.2, ⟨hk.1.1.1.1.2, ⟨hk.1.2, hk.1.1.1.1.1.1.1.2⟩⟩⟩⟩))⟩, ⟨rb_ (Kd.R_mono HO138.out (fun _ hk => ⟨hk.1.1.1.1.1.1.2, ⟨hk.1.1.1.1.1.2, ⟨hk.1.1.1.1.2, ⟨hk.1.1.2, hk.1.1.1.1.1.1.1.2⟩⟩⟩⟩))⟩, ⟨rb_ (Kd.R_mono HO104.out (fun _ hk => ⟨hk.1.1.1.1.1.1.1, ⟨hk.1.1.1.1.1.1.2, ⟨hk.1.1.1.1.1.2, ⟨hk.1.1.1.2, hk.1.2⟩⟩⟩⟩))⟩, ⟨bb_ BK111.out⟩, ⟨gb_ HB.out⟩⟩
      ·as_aux_lemma =>
       rw [if_neg c46] at H
       have c46b0 : (t125 == t127) = false := beq_eq_false_iff_ne.mpr c46
       have c46b1 : (t125 != t127) = true := bne_iff_ne.mpr c46
       have H' := Aside0.mk H
       clear H
       obtain ⟨Ao71, co71, eo71⟩ := Kd.R_slice HO118.out
       subst eo71
       obtain ⟨Ao72, co72, eo72⟩ := Kd.R_slice HO122.out
       subst eo72
       go_wp2_with (first | (go_at_call 16; (with_reducible refine (laws_likeInts.calls k _ _ t116 _ _ t120 true _ ?side1 ?side2 ?side3 ?side4 A44.out).mono ?_); (case side1 => exact c1_ HO118); (case side2 => exact (Kd.R_reads' HO118.out).2.1); (case side3 => exact c1_ HO122); (case side4 => exact (Kd.R_reads' HO122.out).2.1); rintro e w' ⟨rfl, ⟨nd, rfl⟩⟩))
       go_meet
       case rel => exact ⟨_, (true), t2_, H', ⟨by first | omega | exact Nat.le_refl _⟩, ⟨rb_ (Kd.R_mono HO107.out (fun _ hk => ⟨hk.1.1.1.1.1.1.2, ⟨hk.1.1.1.1.1.2, ⟨hk.1.1.1.2, ⟨hk.1.2, hk.1.1.1.1.1.1.1⟩⟩⟩⟩))⟩, ⟨rb_ (Kd.R_mono HO110.out (fun _ hk => ⟨hk.1.1.1.1.1.1.2, ⟨hk.1.1.1.1.1.2, ⟨hk.1.1.1.2, ⟨hk.1.2, hk.1.1.1.1.1.1.1⟩⟩⟩⟩))⟩, ⟨rb_ (Kd.R_mono HO118.out (fun _ hk => ⟨hk.1.1.1.1.1.1.2, ⟨hk.1.1.1.1.1.2, ⟨hk.1.1.1.2, ⟨hk.1.2, hk.1.1.1.1.1.1.1.2⟩⟩⟩⟩))⟩, ⟨rb_ (Kd.R_mono HO130.out (fun _ hk => ⟨hk.1.1.1.1.1.1.2, ⟨hk.1.1.1.1.1.2, ⟨hk.1.1.1.1.2, ⟨hk.1.2, hk.1.1.1.1.1.1.1.2⟩⟩⟩⟩))⟩, ⟨rb_ (Kd.R_mono HO138.out (fun _ hk => ⟨hk.1.1.1.1.1.1.2, ⟨hk.1.1.1.1.1.2, ⟨hk.1.1.1.1.2, ⟨hk.1.1.2, hk.1.1.1.1.1.1.1.2⟩⟩⟩⟩))⟩, ⟨rb_ (Kd.R_mono HO104.out (fun _ hk => ⟨hk.1.1.1.1.1.1.1, ⟨hk.1.1.1.1.1.1.2, ⟨hk.1.1.1.1.1.2, ⟨hk.1.1.1.2, hk.1.2⟩⟩⟩⟩))⟩, ⟨bb_ BK111.out⟩, ⟨gb_ HB.out⟩⟩
     ·as_aux_lemma =>
      replace c45 := Bool.eq_false_iff.mpr c45
      subst c45
      have H1 : (laws_FnForms.j0 k t105 t108 t112 t113 t116 t119 t124 t128 t131 t136 true t102) = some r := by rw [if_neg (show ¬ (false = true) by decide)] at H; exact H
      clear H
      have H := H1
      clear H1
      have H' := Aside0.mk H
      clear H
      obtain ⟨Ao73, co73, eo73⟩ := Kd.R_slice HO118.out
      subst eo73
      obtain ⟨Ao74, co74, eo74⟩ := Kd.R_slice HO122.out
      subst eo74
      go_wp2_with (first | (go_at_call 16; (with_reducible refine (laws_likeInts.calls k _ _ t116 _ _ t120 false _ ?side1 ?side2 ?side3 ?side4 A44.out).mono ?_); (case side1 => exact c1_ HO118); (case side2 => exact (Kd.R_reads' HO118.out).2.1); (case side3 => exact c1_ HO122); (case side4 => exact (Kd.R_reads' HO122.out).2.1); rintro e w' ⟨rfl, ⟨nd, rfl⟩⟩))
      go_meet
      case rel => exact ⟨_, (true), t2_, H', ⟨by first | omega | exact Nat.le_refl _⟩, ⟨rb_ (Kd.R_mono HO107.out (fun _ hk => ⟨hk.1.1.1.1.1.1.2, ⟨hk.1.1.1.1.1.2, ⟨hk.1.1.1.2, ⟨hk.1.2, hk.1.1.1.1.1.1.1⟩⟩⟩⟩))⟩, ⟨rb_ (Kd.R_mono HO110.out (fun _ hk => ⟨hk.1.1.1.1.1.1.2, ⟨hk.1.1.1.1.1.2, ⟨hk.1.1.1.2, ⟨hk.1.2, hk.1.1.1.1.1.1.1⟩⟩⟩⟩))⟩, ⟨rb_ (Kd.R_mono HO118.out (fun _ hk => ⟨hk.1.1.1.1.1.1.2, ⟨hk.1.1.1.1.1.2, ⟨hk.1.1.1.2, ⟨hk.1.2, hk.1.1.1.1.1.1.1.2⟩⟩⟩⟩))⟩, ⟨rb_ (Kd.R_mono HO130.out (fun _ hk => ⟨hk.1.1.1.1.1.1.2, ⟨hk.1.1.1.1.1.2, ⟨hk.1.1.1.1.2, ⟨hk.1.2, hk.1.1.1.1.1.1.1.2⟩⟩⟩⟩))⟩, ⟨rb_ (Kd.R_mono HO138.out (fun _ hk => ⟨hk.1.1.1.1.1.1.2, ⟨hk.1.1.1.1.1.2, ⟨hk.1.1.1.1.2, ⟨hk.1.1.2, hk.1.1.1.1.1.1.1.2⟩⟩⟩⟩))⟩, ⟨rb_ (Kd.R_mono HO104.out (fun _ hk => ⟨hk.1.1.1.1.1.1.1, ⟨hk.1.1.1.1.1.1.2, ⟨hk.1.1.1.1.1.2, ⟨hk.1.1.1.2, hk.1.2⟩⟩⟩⟩))⟩, ⟨bb_ BK111.out⟩, ⟨gb_ HB.out⟩⟩
    ·as_aux_lemma =>
     rw [if_neg c43] at H
     have c43b0 : (t119 == t123) = false := beq_eq_false_iff_ne.mpr c43
     have c43b1 : (t119 != t123) = true := bne_iff_ne.mpr c43
     have H' := Aside0.mk H
     clear H
     go_wp2
     go_meet
     case rel => exact ⟨_, (true), t2_, H', ⟨by first | omega | exact Nat.le_refl _⟩, ⟨rb_ (Kd.R_mono HO107.out (fun _ hk => ⟨hk.1.1.1.1.1.1.2, ⟨hk.1.1.1.1.1.2, ⟨hk.1.1.1.2, ⟨hk.1.2, hk.1.1.1.1.1.1.1⟩⟩⟩⟩))⟩, ⟨rb_ (Kd.R_mono HO110.out (fun _ hk => ⟨hk.1.1.1.1.1.1.2, ⟨hk.1.1.1.1.1.2, ⟨hk.1.1.1.2, ⟨hk.1.2, hk.1.1.1.1.1.1.1⟩⟩⟩⟩))⟩, ⟨rb_ (Kd.R_mono HO118.out (fun _ hk => ⟨hk.1.1.1.1.1.1.2, ⟨hk.1.1.1.1.1.2, ⟨hk.1.1.1.2, ⟨hk.1.2, hk.1.1.1.1.1.1.1.2⟩⟩⟩⟩))⟩, ⟨rb_ (Kd.R_mono HO130.out (fun _ hk => ⟨hk.1.1.1.1.1.1.2, ⟨hk.1.1.1.1.1.2, ⟨hk.1.1.1.1.2, ⟨hk.1.2, hk.1.1.1.1.1.1.1.2⟩⟩⟩⟩))⟩, ⟨rb_ (Kd.R_mono HO138.out (fun _ hk => ⟨hk.1.1.1.1.1.1.2, ⟨hk.1.1.1.1.1.2, ⟨hk.1.1.1.1.2, ⟨hk.1.1.2, hk.1.1.1.1.1.1.1.2⟩⟩⟩⟩))⟩, ⟨rb_ (Kd.R_mono HO104.out (fun _ hk => ⟨hk.1.1.1.1.1.1.1, ⟨hk.1.1.1.1.1.1.2, ⟨hk.1.1.1.1.1.2, ⟨hk.1.1.1.2, hk.1.2⟩⟩⟩⟩))⟩, ⟨bb_ BK111.out⟩, ⟨gb_ HB.out⟩⟩
  ·as_aux_lemma =>
   rw [if_neg c41] at H
   have c41b0 : (t113 == t115) = false := beq_eq_false_iff_ne.mpr c41
   have c41b1 : (t113 != t115) = true := bne_iff_ne.mpr c41
   (first | rw [c41b0] | (simp only [i64_w, i32_w]; rw [c41b0]) | skip)
   have H' := Aside0.mk H
   clear H
   go_wp2
   go_meet
   case rel => exact ⟨_, (true), t2_, H', ⟨by first | omega | exact Nat.le_refl _⟩, ⟨rb_ (Kd.R_mono HO107.out (fun _ hk => ⟨hk.1.1.1.1.1.1.2, ⟨hk.1.1.1.1.1.2, ⟨hk.1.1.1.2, ⟨hk.1.2, hk.1.1.1.1.1.1.1⟩⟩⟩⟩))⟩, ⟨rb_ (Kd.R_mono HO110.out (fun _ hk => ⟨hk.1.1.1.1.1.1.2, ⟨hk.1.1.1.1.1.2, ⟨hk.1.1.1.2, ⟨hk.1.2, hk.1.1.1.1.1.1.1⟩⟩⟩⟩))⟩, ⟨rb_ (Kd.R_mono HO118.out (fun _ hk => ⟨hk.1.1.1.1.1.1.2, ⟨hk.1.1.1.1.1.2, ⟨hk.1.1.1.2, ⟨hk.1.2, hk.1.1.1.1.1.1.1.2⟩⟩⟩⟩))⟩, ⟨rb_ (Kd.R_mono HO130.out (fun _ hk => ⟨hk.1.1.1.1.1.1.2, ⟨hk.1.1.1.1.1.2, ⟨hk.1.1.1.1.2, ⟨hk.1.2, hk.1.1.1.1.1.1.1.2⟩⟩⟩⟩))⟩, ⟨rb_ (Kd.R_mono HO138.out (fun _ hk => ⟨hk.1.1.1.1.1.1.2, ⟨hk.1.1.1.1.1.2, ⟨hk.1.1.1.1.2, ⟨hk.1.1.2, hk.1.1.1.1.1.1.1.2⟩⟩⟩⟩))⟩, ⟨rb_ (Kd.R_mono HO104.out (fun _ hk => ⟨hk.1.1.1.1.1.1.1, ⟨hk.1.1.1.1.1.1.2, ⟨hk.1.1.1.1.1.2, ⟨hk.1.1.1.2, hk.1.2⟩⟩⟩⟩))⟩, ⟨bb_ BK111.out⟩, ⟨gb_ HB.out⟩⟩
 case rest => as_aux_lemma =>
  clear HC15
  try clear c1
  try clear p2
  try clear c3
  try clear c4
  try clear c5
  try clear c6
  try clear c7
  try clear c8
  try clear c9
  try clear c10
  try clear c11
  try clear c12
  try clear c13
  try clear c14
  try clear c15
  try clear c41
  try clear c41b0
  try clear c41b1
  try clear c42
  try clear c42b0
  try clear c42b1
  try clear c42b2
  try clear c43
  try clear c43b0
  try clear c43b1
  try clear c45
  try clear c46
  try clear c46b0
  try clear c46b1
  try clear c47
  try clear c47b0
  try clear c47b1
  try clear c48
  try clear c48b0
  try clear c48b1
  try clear c50
  try clear c51
  try clear c51b0
  try clear c51b1
  try clear hcz19_0
  try clear hcz23_0
  try clear hcz25_0
  try clear hcz27_0
  try clear hcz29_0
  try clear hcz31_0
  try clear hcz33_0
  try clear hcz35_0
  try clear hcz37_0
  try clear hcz39_0
  try clear hfz19_0
  try clear hfz23_0
  try clear hfz25_0
  try clear hfz27_0
  try clear hfz29_0
  try clear hfz31_0
  try clear hfz33_0
  try clear hfz35_0
  try clear hfz37_0
  try clear hfz39_0
  obtain ⟨kq, x166_14, rfl, HA, HJ14, HO_4, HO_5, HO_10, HO_18, HO_22, HO_112000, BK111, HB⟩ := hcut
  cases kq with
  | zero => exact absurd HA.out (by simp [laws_FnForms.j0])
  | succ kj14 =>
   have H := HA.out
   clear HA
   simp only [laws_FnForms.j0] at H
   by_cases c75 : x166_14 = true
   ·as_aux_lemma =>
    subst c75
    have H1 : (some false) = some r := by rw [if_pos rfl] at H; exact H
    clear H
    have H := H1
    clear H1
    obtain rfl := Option.some.inj H
    go_wp2
    go_ret
    exact ⟨t5_, gb_ HB.out⟩
   ·as_aux_lemma =>
    replace c75 := Bool.eq_false_iff.mpr c75
    subst c75
    have H1 : (if t131 = 0 then (laws_FnForms.j1 kj14 t105 t108 t112 t113 t116 t119 t124 ((wrap64 ((t128.length : Int) + (t136.length : Int))) != (wrap64 ((t105.length : Int) + (t108.length : Int)))) t102) else (laws_FnForms.j1 kj14 t105 t108 t112 t113 t116 t119 t124 false t102)) = some r := by rw [if_neg (show ¬ (false = true) by decide)] at H; exact H
    clear H
    have H := H1
    clear H1
    have HC76 := Aside0.mk H
    clear H
    go_upto_region 16 with (fail)
    go_cut [181] (fun cs_181 wc => ∃ (kq : Nat) (x181_75 : Bool), cs_181 = .bool x181_75 ∧ Aside0 (laws_FnForms.j1 kq t105 t108 t112 t113 t116 t119 t124 x181_75 t102 = some r) ∧ Aside0 (kq ≤ kj14) ∧ Aside0 (Kd.R (Kd.int .i64) 2 wc w.heap.size (fun k_ => OB_ k_ (.slice Ao21 t108.length co21) ∧ OB_ k_ v117 ∧ OB_ k_ (.slice Ao18 t102.length co18)) (.slice Ao20 t105.length co20) t105) ∧ Aside0 (Kd.R (Kd.int .i64) 2 wc w.heap.size (fun k_ => OB_ k_ (.slice Ao20 t105.length co20) ∧ OB_ k_ v117 ∧ OB_ k_ (.slice Ao18 t102.length co18)) (.slice Ao21 t108.length co21) t108) ∧ Aside0 (Kd.R (Kd.int .i64) 2 wc w.heap.size (fun k_ => OB_ k_ (.slice Ao20 t105.length co20) ∧ OB_ k_ (.slice Ao21 t108.length co21) ∧ OB_ k_ (.slice Ao18 t102.length co18)) v117 t116) ∧ Aside0 (Kd.R (Kd.int .i64) 2 wc w.heap.size (fun k_ => OB_ k_ (.slice Ao20 t105.length co20) ∧ OB_ k_ (.slice Ao21 t108.length co21) ∧ OB_ k_ v117) (.slice Ao18 t102.length co18) t102) ∧ Aside0 (wc.heap[gb111]? = some (.cells #[(.slice Ao18 t102.length co18)] 26 (0, 0))) ∧ Aside0 (Below w.heap.size w wc))
    case first => as_aux_lemma =>
     have H := HC76.out
     clear HC76
     by_cases c77 : t131 = 0
     ·as_aux_lemma =>
      rw [if_pos c77] at H
      have c77b0 : (t131 == 0) = true := beq_iff_eq.mpr c77
      have c77b1 : (t131 != 0) = false := bne_eq_false_iff_eq.mpr c77
      clear c77
      (first | rw [c77b0] | (simp only [i64_w, i32_w]; rw [c77b0]) | skip)
      have H' := Aside0.mk H
      clear H
      obtain ⟨Ao78, co78, eo78⟩ := Kd.R_slice HO_18.out
      subst eo78
      obtain ⟨Ao79, co79, eo79⟩ := Kd.R_slice HO_22.out
      subst eo79
      go_wp2
      go_meet
      case rel => exact ⟨_, (((wrap64 ((t128.length : Int) + (t136.length : Int))) != (wrap64 ((t105.length : Int) + (t108.length : Int))))), t2_, H', ⟨by have := HJ14.out; first | omega | exact Nat.le_refl _⟩, ⟨rb_ (Kd.R_mono HO_4.out (fun _ hk => ⟨hk.1, ⟨hk.2.1, hk.2.2.2.2⟩⟩))⟩, ⟨rb_ (Kd.R_mono HO_5.out (fun _ hk => ⟨hk.1, ⟨hk.2.1, hk.2.2.2.2⟩⟩))⟩, ⟨rb_ (Kd.R_mono HO_10.out (fun _ hk => ⟨hk.1, ⟨hk.2.1, hk.2.2.2.2⟩⟩))⟩, ⟨rb_ (Kd.R_mono HO_112000.out (fun _ hk => ⟨hk.1, ⟨hk.2.1, hk.2.2.1⟩⟩))⟩, ⟨bb_ BK111.out⟩, ⟨gb_ HB.out⟩⟩
     ·as_aux_lemma =>
      rw [if_neg c77] at H
      have c77b0 : (t131 == 0) = false := beq_eq_false_iff_ne.mpr c77
      have c77b1 : (t131 != 0) = true := bne_iff_ne.mpr c77
      (first | rw [c77b0] | (simp only [i64_w, i32_w]; rw [c77b0]) | skip)
      have H' := Aside0.mk H
      clear H
      go_wp2
      go_meet
      case rel => exact ⟨_, (false), t2_, H', ⟨by have := HJ14.out; first | omega | exact Nat.le_refl _⟩, ⟨rb_ (Kd.R_mono HO_4.out (fun _ hk => ⟨hk.1, ⟨hk.2.1, hk.2.2.2.2⟩⟩))⟩, ⟨rb_ (Kd.R_mono HO_5.out (fun _ hk => ⟨hk.1, ⟨hk.2.1, hk.2.2.2.2⟩⟩))⟩, ⟨rb_ (Kd.R_mono HO_10.out (fun _ hk => ⟨hk.1, ⟨hk.2.1, hk.2.2.2.2⟩⟩))⟩, ⟨rb_ (Kd.R_mono HO_112000.out (fun _ hk => ⟨hk.1, ⟨hk.2.1, hk.2.2.1⟩⟩))⟩, ⟨bb_ BK111.out⟩, ⟨gb_ HB.out⟩⟩
    case rest => as_aux_lemma =>
     clear HC76
     try clear c1
     try clear p2
     try clear c3
     try clear c4
     try clear c5
     try clear c6
     try clear p6
     try clear c7
     try clear c8
     try clear c9
     try clear c10
     try clear c11
     try clear c12
     try clear c13
     try clear c14
     try clear c15
     try clear c41
     try clear c41b0
     try clear c41b1
     try clear c42
     try clear c42b0
     try clear c42b1
     try clear c42b2
     try clear c43
     try clear c43b0
     try clear c43b1
     try clear c45
     try clear c46
     try clear c46b0
     try clear c46b1
     try clear c47
     try clear c47b0
     try clear c47b1
     try clear c48
     try clear c48b0
     try clear c48b1
     try clear c50
     try clear c51
     try clear c51b0
     try clear c51b1
     try clear p64
     try clear c75
     try clear c77
     try clear c77b0
     try clear c77b1
     try clear hcz19_0
     try clear hcz23_0
     try clear hcz25_0
     try clear hcz27_0
     try clear hcz29_0
     try clear hcz31_0
     try clear hcz33_0
     try clear hcz35_0
     try clear hcz37_0
     try clear hcz39_0
     try clear hfz19_0
     try clear hfz23_0
     try clear hfz25_0
     try clear hfz27_0
     try clear hfz29_0
     try clear hfz31_0
     try clear hfz33_0
     try clear hfz35_0
     try clear hfz37_0
     try clear hfz39_0
     try clear p2
     obtain ⟨kq, x181_75, rfl, HA, HJ75, HO_4, HO_5, HO_10, HO_112000, BK111, HB⟩ := hcut
     cases kq with
     | zero => exact absurd HA.out (by simp [laws_FnForms.j1])
     | succ kj75 =>
      have H := HA.out
      clear HA
      simp only [laws_FnForms.j1] at H
      by_cases c80 : x181_75 = true
      ·as_aux_lemma =>
       subst c80
       have H1 : (some false) = some r := by rw [if_pos rfl] at H; exact H
       clear H
       have H := H1
       clear H1
       obtain rfl := Option.some.inj H
       go_wp2
       go_ret
       exact ⟨t5_, gb_ HB.out⟩
      ·as_aux_lemma =>
       replace c80 := Bool.eq_false_iff.mpr c80
       subst c80
       have H1 : (if t119 = 0 then ((impl_CountWords.f kj75 t102).bind fun bt147 => ((impl_LeastForm.f t102 t116).bind fun bt149 => ((impl_AreAlike.f t102 t105 t116).bind fun bt153 => ((impl_CountKeeping.f t102 t116).bind fun bt155 => (if bt147.2 = 0 then (if bt149.2 = 0 then (if bt153.2 = 0 then (if bt155.2 = 0 then ((laws_likeInts.f kj75 bt149.1 t116).bind fun t157 => (if t157 = true then (if bt153.1 = true then (if bt155.1 = t124 then (if t124 < 1 then (laws_FnForms.j2 kj75 t105 t108 t112 t113 t116 bt147.1 true t102) else (if (t116.length : Int) = (t105.length : Int) then (if (t105.length : Int) > 0 then (if 0 < (t116.length : Int) then (if (rd t116 0) = 0 then (laws_FnForms.j2 kj75 t105 t108 t112 t113 t116 bt147.1 (decide (t124 > (wrap64 (bt147.1 * 40320)))) t102) else (laws_FnForms.j2 kj75 t105 t108 t112 t113 t116 bt147.1 true t102)) else (none)) else (laws_FnForms.j2 kj75 t105 t108 t112 t113 t116 bt147.1 false t102)) else (laws_FnForms.j2 kj75 t105 t108 t112 t113 t116 bt147.1 true t102))) else (laws_FnForms.j2 kj75 t105 t108 t112 t113 t116 bt147.1 true t102)) else (laws_FnForms.j2 kj75 t105 t108 t112 t113 t116 bt147.1 true t102)) else (laws_FnForms.j2 kj75 t105 t108 t112 t113 t116 bt147.1 true t102))) else (laws_FnForms.j2 kj75 t105 t108 t112 t113 t116 bt147.1 true t102)) else (laws_FnForms.j2 kj75 t105 t108 t112 t113 t116 bt147.1 true t102)) else (laws_FnForms.j2 kj75 t105 t108 t112 t113 t116 bt147.1 true t102)) else (laws_FnForms.j2 kj75 t105 t108 t112 t113 t116 bt147.1 true t102)))))) else (some true)) = some r := by rw [if_neg (show ¬ (false = true) by decide)] at H; exact H
       clear H
       have H := H1
       clear H1
       by_cases c81 : t119 = 0
       ·as_aux_lemma =>
        rw [if_pos c81] at H
        have c81b0 : (t119 == 0) = true := beq_iff_eq.mpr c81
        have c81b1 : (t119 != 0) = false := bne_eq_false_iff_eq.mpr c81
        clear c81
        replace H := bd_ H
        obtain ⟨⟨t147, t148⟩, A82, H⟩ := H
        try dsimp only at H
        replace H := bd_ H
        obtain ⟨⟨t149, t152⟩, A83, H⟩ := H
        try dsimp only at H
        replace H := bd_ H
        obtain ⟨⟨t153, t154⟩, A84, H⟩ := H
        try dsimp only at H
        replace H := bd_ H
        obtain ⟨⟨t155, t156⟩, A85, H⟩ := H
        try dsimp only at H
        have HC86 := Aside0.mk H
        clear H
        have hcz87_0 := hz_ BK111
        have hfz87_0 := blk_frozen BK111.out 0
        go_upto_region 23 with (first | ((with_reducible refine gate_callee (f := 17) rfl ?_); refine gl_ (some 186) rfl rfl Tryz.func17 #[.agg #[.slice Ao18 t102.length co18]] rfl ?_; (with_reducible refine (impl_CountWords.calls kj75 _ _ t102 t147 t148 _ ?side1 ?side2 A82.out).mono ?_); (case side1 => exact c1_ HO_112000); (case side2 => exact (Kd.R_reads' HO_112000.out).2.1); rintro e w88 ⟨rfl, hb⟩; refine ⟨_, rfl, ?_⟩; replace HO_4 := a1_ HO_4 hb; replace HO_5 := a1_ HO_5 hb; replace HO_10 := a1_ HO_10 hb; replace HO_112000 := a1_ HO_112000 hb; replace BK111 := a2_ BK111 hb; replace HB := b1_ HB hb; (try clear hb); (try clear hb2); (try clear hk); (try clear hi); have hcz89_0 := hz_ BK111; have hfz89_0 := blk_frozen BK111.out 0; obtain ⟨Ao90, co90, eo90⟩ := Kd.R_slice HO_10.out; subst eo90) | ((with_reducible refine gate_callee (f := 8) rfl ?_); refine gl_ (some 192) rfl rfl Tryz.func8 #[.agg #[.slice Ao18 t102.length co18], .slice Ao90 t116.length co90] rfl ?_; (with_reducible refine (impl_LeastForm.calls _ _ t102 _ _ t116 t149 t152 _ ?side1 ?side2 ?side3 ?side4 A83.out).mono ?_); (case side1 => exact c1_ HO_112000); (case side2 => exact (Kd.R_reads' HO_112000.out).2.1); (case side3 => exact c1_ HO_10); (case side4 => exact (Kd.R_reads' HO_10.out).2.1); rintro e w91 ⟨v150, rfl, ho0, hb⟩; refine ⟨_, rfl, ?_⟩; have HO151 := Aside0.mk (Kd.R_lower (Kd.R_new' (Kd.R_new' (Kd.R_new' (Kd.R_new' ho0 (Kd.R_lt (rb_ HO_4.out))) (Kd.R_lt (rb_ HO_5.out))) (Kd.R_lt (rb_ HO_10.out))) (Kd.R_lt (rb_ HO_112000.out))) (below_size (gb_ HB.out))); replace HO_4 := a5_ HO_4 ho0 hb; replace HO_5 := a5_ HO_5 ho0 hb; replace HO_10 := a5_ HO_10 ho0 hb; replace HO_112000 := a5_ HO_112000 ho0 hb; replace BK111 := a2_ BK111 hb; replace HB := b1_ HB hb; (try clear hb); (try clear hb2); (try clear hk); (try clear hi); (try clear ho0); have hcz92_0 := hz_ BK111; have hfz92_0 := blk_frozen BK111.out 0) | ((with_reducible refine gate_callee (f := 6) rfl ?_); refine gl_ (some 199) rfl rfl Tryz.func6 #[.agg #[.slice Ao18 t102.length co18], .slice Ao20 t105.length co20, .slice Ao90 t116.length co90] rfl ?_; (with_reducible refine (impl_AreAlike.calls _ _ t102 _ _ t105 _ _ t116 t153 t154 _ ?side1 ?side2 ?side3 ?side4 ?side5 ?side6 A84.out).mono ?_); (case side1 => exact c1_ HO_112000); (case side2 => exact (Kd.R_reads' HO_112000.out).2.1); (case side3 => exact c1_ HO_4); (case side4 => exact (Kd.R_reads' HO_4.out).2.1); (case side5 => exact c1_ HO_10); (case side6 => exact (Kd.R_reads' HO_10.out).2.1); rintro e w93 ⟨rfl, hb⟩; refine ⟨_, rfl, ?_⟩; replace HO_4 := a1_ HO_4 hb; replace HO_5 := a1_ HO_5 hb; replace HO_10 := a1_ HO_10 hb; replace HO_112000 := a1_ HO_112000 hb; replace HO151 := a1_ HO151 hb; replace BK111 := a2_ BK111 hb; replace HB := b1_ HB hb; (try clear hb); (try clear hb2); (try clear hk); (try clear hi); have hcz94_0 := hz_ BK111; have hfz94_0 := blk_frozen BK111.out 0) | ((with_reducible refine gate_callee (f := 10) rfl ?_); refine gl_ (some 205) rfl rfl Tryz.func10 #[.agg #[.slice Ao18 t102.length co18], .slice Ao90 t116.length co90] rfl ?_; (with_reducible refine (impl_CountKeeping.calls _ _ t102 _ _ t116 t155 t156 _ ?side1 ?side2 ?side3 ?side4 A85.out).mono ?_); (case side1 => exact c1_ HO_112000); (case side2 => exact (Kd.R_reads' HO_112000.out).2.1); (case side3 => exact c1_ HO_10); (case side4 => exact (Kd.R_reads' HO_10.out).2.1); rintro e w95 ⟨rfl, hb⟩; refine ⟨_, rfl, ?_⟩; replace HO_4 := a1_ HO_4 hb; replace HO_5 := a1_ HO_5 hb; replace HO_10 := a1_ HO_10 hb; replace HO_112000 := a1_ HO_112000 hb; replace HO151 := a1_ HO151 hb; replace BK111 := a2_ BK111 hb; replace HB := b1_ HB hb; (try clear hb); (try clear hb2); (try clear hk); (try clear hi)))
        (try simp only [Act.put, List.setIfInBounds_toArray, List.set_cons_zero, List.set_cons_succ])
        go_cut [264] (fun cs_264 wc => ∃ (kq : Nat) (x264_85 : Bool), cs_264 = .bool x264_85 ∧ Aside0 (laws_FnForms.j2 kq t105 t108 t112 t113 t116 t147 x264_85 t102 = some r) ∧ Aside0 (kq ≤ kj75) ∧ Aside0 (Kd.R (Kd.int .i64) 2 wc w.heap.size (fun k_ => OB_ k_ (.slice Ao21 t108.length co21) ∧ OB_ k_ (.slice Ao90 t116.length co90) ∧ OB_ k_ (.slice Ao18 t102.length co18)) (.slice Ao20 t105.length co20) t105) ∧ Aside0 (Kd.R (Kd.int .i64) 2 wc w.heap.size (fun k_ => OB_ k_ (.slice Ao20 t105.length co20) ∧ OB_ k_ (.slice Ao90 t116.length co90) ∧ OB_ k_ (.slice Ao18 t102.length co18)) (.slice Ao21 t108.length co21) t108) ∧ Aside0 (Kd.R (Kd.int .i64) 2 wc w.heap.size (fun k_ => OB_ k_ (.slice Ao20 t105.length co20) ∧ OB_ k_ (.slice Ao21 t108.length co21) ∧ OB_ k_ (.slice Ao18 t102.length co18)) (.slice Ao90 t116.length co90) t116) ∧ Aside0 (Kd.R (Kd.int .i64) 2 wc w.heap.size (fun k_ => OB_ k_ (.slice Ao20 t105.length co20) ∧ OB_ k_ (.slice Ao21 t108.length co21) ∧ OB_ k_ (.slice Ao90 t116.length co90)) (.slice Ao18 t102.length co18) t102) ∧ Aside0 (wc.heap[gb111]? = some (.cells #[(.slice Ao18 t102.length co18)] 26 (0, 0))) ∧ Aside0 (Below w.heap.size w wc))
        case first => as_aux_lemma =>
         have H := HC86.out
         clear HC86
         by_cases c96 : t148 = 0
         ·as_aux_lemma =>
          rw [if_pos c96] at H
          have c96b0 : (t148 == 0) = true := beq_iff_eq.mpr c96
          have c96b1 : (t148 != 0) = false := bne_eq_false_iff_eq.mpr c96
          clear c96
          (first | rw [c96b0] | (simp only [i64_w, i32_w]; rw [c96b0]) | skip)
          by_cases c97 : t152 = 0
          ·as_aux_lemma =>
           rw [if_pos c97] at H
           have c97b0 : (t152 == 0) = true := beq_iff_eq.mpr c97
           have c97b1 : (t152 != 0) = false := bne_eq_false_iff_eq.mpr c97
           clear c97
           by_cases c98 : t154 = 0
           ·as_aux_lemma =>
            rw [if_pos c98] at H
            have c98b0 : (t154 == 0) = true := beq_iff_eq.mpr c98
            have c98b1 : (t154 != 0) = false := bne_eq_false_iff_eq.mpr c98
            clear c98
            by_cases c99 : t156 = 0
            ·as_aux_lemma =>
             rw [if_pos c99] at H
             have c99b0 : (t156 == 0) = true := beq_iff_eq.mpr c99
             have c99b1 : (t156 != 0) = false := bne_eq_false_iff_eq.mpr c99
             clear c99
             replace H := bd_ H
             obtain ⟨t157, A100, H⟩ := H
             by_cases c101 : t157 = true
             ·as_aux_lemma =>
              subst c101
              have H1 : (if t153 = true then (if t155 = t124 then (if t124 < 1 then (laws_FnForms.j2 kj75 t105 t108 t112 t113 t116 t147 true t102) else (if (t116.length : Int) = (t105.length : Int) then (if (t105.length : Int) > 0 then (if 0 < (t116.length : Int) then (if (rd t116 0) = 0 then (laws_FnForms.j2 kj75 t105 t108 t112 t113 t116 t147 (decide (t124 > (wrap64 (t147 * 40320)))) t102) else (laws_FnForms.j2 kj75 t105 t108 t112 t113 t116 t147 true t102)) else (none)) else (laws_FnForms.j2 kj75 t105 t108 t112 t113 t116 t147 false t102)) else (laws_FnForms.j2 kj75 t105 t108 t112 t113 t116 t147 true t102))) else (laws_FnForms.j2 kj75 t105 t108 t112 t113 t116 t147 true t102)) else (laws_FnForms.j2 kj75 t105 t108 t112 t113 t116 t147 true t102)) = some r := by rw [if_pos rfl] at H; exact H
              clear H
              have H := H1
              clear H1
              by_cases c102 : t153 = true
              ·as_aux_lemma =>
               subst c102
               have H1 : (if t155 = t124 then (if t124 < 1 then (laws_FnForms.j2 kj75 t105 t108 t112 t113 t116 t147 true t102) else (if (t116.length : Int) = (t105.length : Int) then (if (t105.length : Int) > 0 then (if 0 < (t116.length : Int) then (if (rd t116 0) = 0 then (laws_FnForms.j2 kj75 t105 t108 t112 t113 t116 t147 (decide (t124 > (wrap64 (t147 * 40320)))) t102) else (laws_FnForms.j2 kj75 t105 t108 t112 t113 t116 t147 true t102)) else (none)) else (laws_FnForms.j2 kj75 t105 t108 t112 t113 t116 t147 false t102)) else (laws_FnForms.j2 kj75 t105 t108 t112 t113 t116 t147 true t102))) else (laws_FnForms.j2 kj75 t105 t108 t112 t113 t116 t147 true t102)) = some r := by rw [if_pos rfl] at H; exact H
               clear H
               have H := H1
               clear H1
               by_cases c103 : t155 = t124
               ·as_aux_lemma =>
                rw [if_pos c103] at H
                have c103b0 : (t155 == t124) = true := beq_iff_eq.mpr c103
                have c103b1 : (t155 != t124) = false := bne_eq_false_iff_eq.mpr c103
                clear c103
                by_cases c104 : t124 < 1
                ·as_aux_lemma =>
                 rw [if_pos c104] at H
                 have c104b0 := decide_eq_true c104
                 clear c104
                 have H' := Aside0.mk H
                 clear H
                 obtain ⟨Ao105, co105, eo105⟩ := Kd.R_slice HO151.out
                 subst eo105
                 go_wp2_with (first | (go_at_call 16; (with_reducible refine (laws_likeInts.calls kj75 _ _ t149 _ _ t116 true _ ?side1 ?side2 ?side3 ?side4 A100.out).mono ?_); (case side1 => exact c1_ HO151); (case side2 => exact (Kd.R_reads' HO151.out).2.1); (case side3 => exact c1_ HO_10); (case side4 => exact (Kd.R_reads' HO_10.out).2.1); rintro e w' ⟨rfl, ⟨nd, rfl⟩⟩))
                 go_meet
                 case rel => exact ⟨_, (true), t2_, H', ⟨by have := HJ14.out; have := HJ75.out; first | omega | exact Nat.le_refl _⟩, ⟨rb_ (Kd.R_mono HO_4.out (fun _ hk => ⟨hk.1.1, ⟨hk.1.2.1, hk.1.2.2⟩⟩))⟩, ⟨rb_ (Kd.R_mono HO_5.out (fun _ hk => ⟨hk.1.1, ⟨hk.1.2.1, hk.1.2.2⟩⟩))⟩, ⟨rb_ (Kd.R_mono HO_10.out (fun _ hk => ⟨hk.1.1, ⟨hk.1.2.1, hk.1.2.2⟩⟩))⟩, ⟨rb_ (Kd.R_mono HO_112000.out (fun _ hk => ⟨hk.1.1, ⟨hk.1.2.1, hk.1.2.2⟩⟩))⟩, ⟨bb_ BK111.out⟩, ⟨gb_ HB.out⟩⟩
                ·as_aux_lemma =>
                 rw [if_neg c104] at H
                 have c104b0 := decide_eq_false c104
                 clear c104
                 by_cases c106 : (t116.length : Int) = (t105.length : Int)
                 ·as_aux_lemma =>
                  rw [if_pos c106] at H
                  have c106b0 : ((t116.length : Int) == (t105.length : Int)) = true := beq_iff_eq.mpr c106
                  have c106b1 : ((t116.length : Int) != (t105.length : Int)) = false := bne_eq_false_iff_eq.mpr c106
                  have c106b2 : (t116.length == t105.length) = true := by first | simpa using c106 | (simp at c106 ⊢; omega)
                  clear c106
                  by_cases c107 : (t105.length : Int) > 0
                  ·as_aux_lemma =>
                   rw [if_pos c107] at H
                   have c107b0 : decide (0 < (t105.length : Int)) = true := decide_eq_true c107
                   have c107b1 : decide (0 < t105.length) = true := decide_eq_true (by omega)
                   clear c107
                   by_cases c108 : 0 < (t116.length : Int)
                   ·as_aux_lemma =>
                    rw [if_pos c108] at H
                    have c108b0 := decide_eq_true c108
                    have c108b1 : decide (0 < t116.length) = true := decide_eq_true (by omega)
                    clear c108
                    by_cases c109 : (rd t116 0) = 0
                    ·as_aux_lemma =>
                     rw [if_pos c109] at H
                     have c109b0 : ((rd t116 0) == 0) = true := beq_iff_eq.mpr c109
                     have c109b1 : ((rd t116 0) != 0) = false := bne_eq_false_iff_eq.mpr c109
                     clear c109
                     have H' := Aside0.mk H
                     clear H
                     obtain ⟨Ao110, co110, eo110⟩ := Kd.R_slice HO151.out
                     subst eo110
                     go_wp2_with (first | (go_at_call 16; (with_reducible refine (laws_likeInts.calls kj75 _ _ t149 _ _ t116 true _ ?side1 ?side2 ?side3 ?side4 A100.out).mono ?_); (case side1 => exact c1_ HO151); (case side2 => exact (Kd.R_reads' HO151.out).2.1); (case side3 => exact c1_ HO_10); (case side4 => exact (Kd.R_reads' HO_10.out).2.1); rintro e w' ⟨rfl, ⟨nd, rfl⟩⟩; have p158 : 0 ≤ (0 : Int) := (by omega); have q158 : 0 < (t116.length : Int) := of_decide_eq_true t6_; obtain ⟨ad158, e158, hx158_0⟩ := Kd.at_int (Kd.R_reads' HO_10.out).2.2 0 p158 q158; cases e158; have qi158 : (0 < t116.length) = True := eq_true (by omega); (try rw [show ((0 : Int)).toNat = 0 from rfl] at hx158_0); (try rw [Addr.add_zero'] at hx158_0); replace p158 := eq_true p158; replace q158 := eq_true q158))
                     go_meet
                     case rel => exact ⟨_, (decide (t124 > (wrap64 (t147 * 40320)))), t2_, H', ⟨by have := HJ14.out; have := HJ75.out; first | omega | exact Nat.le_refl _⟩, ⟨rb_ (Kd.R_mono HO_4.out (fun _ hk => ⟨hk.1.1, ⟨hk.1.2.1, hk.1.2.2⟩⟩))⟩, ⟨rb_ (Kd.R_mono HO_5.out (fun _ hk => ⟨hk.1.1, ⟨hk.1.2.1, hk.1.2.2⟩⟩))⟩, ⟨rb_ (Kd.R_mono HO_10.out (fun _ hk => ⟨hk.1.1, ⟨hk.1.2.1, hk.1.2.2⟩⟩))⟩, ⟨rb_ (Kd.R_mono HO_112000.out (fun _ hk => ⟨hk.1.1, ⟨hk.1.2.1, hk.1.2.2⟩⟩))⟩, ⟨bb_ BK111.out⟩, ⟨gb_ HB.out⟩⟩
                    ·as_aux_lemma =>
                     rw [if_neg c109] at H
                     have c109b0 : ((rd t116 0) == 0) = false := beq_eq_false_iff_ne.mpr c109
                     have c109b1 : ((rd t116 0) != 0) = true := bne_iff_ne.mpr c109
                     have H' := Aside0.mk H
                     clear H
                     obtain ⟨Ao111, co111, eo111⟩ := Kd.R_slice HO151.out
                     subst eo111
                     go_wp2_with (first | (go_at_call 16; (with_reducible refine (laws_likeInts.calls kj75 _ _ t149 _ _ t116 true _ ?side1 ?side2 ?side3 ?side4 A100.out).mono ?_); (case side1 => exact c1_ HO151); (case side2 => exact (Kd.R_reads' HO151.out).2.1); (case side3 => exact c1_ HO_10); (case side4 => exact (Kd.R_reads' HO_10.out).2.1); rintro e w' ⟨rfl, ⟨nd, rfl⟩⟩; have p158 : 0 ≤ (0 : Int) := (by omega); have q158 : 0 < (t116.length : Int) := of_decide_eq_true t6_; obtain ⟨ad158, e158, hx158_0⟩ := Kd.at_int (Kd.R_reads' HO_10.out).2.2 0 p158 q158; cases e158; have qi158 : (0 < t116.length) = True := eq_true (by omega); (try rw [show ((0 : Int)).toNat = 0 from rfl] at hx158_0); (try rw [Addr.add_zero'] at hx158_0); replace p158 := eq_true p158; replace q158 := eq_true q158))
                     go_meet
                     case rel => exact ⟨_, (true), t2_, H', ⟨by have := HJ14.out; have := HJ75.out; first | omega | exact Nat.le_refl _⟩, ⟨rb_ (Kd.R_mono HO_4.out (fun _ hk => ⟨hk.1.1, ⟨hk.1.2.1, hk.1.2.2⟩⟩))⟩, ⟨rb_ (Kd.R_mono HO_5.out (fun _ hk => ⟨hk.1.1, ⟨hk.1.2.1, hk.1.2.2⟩⟩))⟩, ⟨rb_ (Kd.R_mono HO_10.out (fun _ hk => ⟨hk.1.1, ⟨hk.1.2.1, hk.1.2.2⟩⟩))⟩, ⟨rb_ (Kd.R_mono HO_112000.out (fun _ hk => ⟨hk.1.1, ⟨hk.1.2.1, hk.1.2.2⟩⟩))⟩, ⟨bb_ BK111.out⟩, ⟨gb_ HB.out⟩⟩
                   ·as_aux_lemma =>
                    rw [if_neg c108] at H
                    exact absurd H (by simp)
                  ·as_aux_lemma =>
                   rw [if_neg c107] at H
                   have c107b0 : decide (0 < (t105.length : Int)) = false := decide_eq_false c107
                   have c107b1 : decide (0 < t105.length) = false := decide_eq_false (by omega)
                   clear c107
                   have H' := Aside0.mk H
                   clear H
                   obtain ⟨Ao112, co112, eo112⟩ := Kd.R_slice HO151.out
                   subst eo112
                   go_wp2_with (first | (go_at_call 16; (with_reducible refine (laws_likeInts.calls kj75 _ _ t149 _ _ t116 true _ ?side1 ?side2 ?side3 ?side4 A100.out).mono ?_); (case side1 => exact c1_ HO151); (case side2 => exact (Kd.R_reads' HO151.out).2.1); (case side3 => exact c1_ HO_10); (case side4 => exact (Kd.R_reads' HO_10.out).2.1); rintro e w' ⟨rfl, ⟨nd, rfl⟩⟩))
                   go_meet
                   case rel => exact ⟨_, (false), t2_, H', ⟨by have := HJ14.out; have := HJ75.out; first | omega | exact Nat.le_refl _⟩, ⟨rb_ (Kd.R_mono HO_4.out (fun _ hk => ⟨hk.1.1, ⟨hk.1.2.1, hk.1.2.2⟩⟩))⟩, ⟨rb_ (Kd.R_mono HO_5.out (fun _ hk => ⟨hk.1.1, ⟨hk.1.2.1, hk.1.2.2⟩⟩))⟩, ⟨rb_ (Kd.R_mono HO_10.out (fun _ hk => ⟨hk.1.1, ⟨hk.1.2.1, hk.1.2.2⟩⟩))⟩, ⟨rb_ (Kd.R_mono HO_112000.out (fun _ hk => ⟨hk.1.1, ⟨hk.1.2.1, hk.1.2.2⟩⟩))⟩, ⟨bb_ BK111.out⟩, ⟨gb_ HB.out⟩⟩
                 ·as_aux_lemma =>
                  rw [if_neg c106] at H
                  have c106b0 : ((t116.length : Int) == (t105.length : Int)) = false := beq_eq_false_iff_ne.mpr c106
                  have c106b1 : ((t116.length : Int) != (t105.length : Int)) = true := bne_iff_ne.mpr c106
                  have c106b2 : (t116.length == t105.length) = false := by first | simpa using c106 | (simp at c106 ⊢; omega)
                  have H' := Aside0.mk H
                  clear H
                  obtain ⟨Ao113, co113, eo113⟩ := Kd.R_slice HO151.out
                  subst eo113
                  go_wp2_with (first | (go_at_call 16; (with_reducible refine (laws_likeInts.calls kj75 _ _ t149 _ _ t116 true _ ?side1 ?side2 ?side3 ?side4 A100.out).mono ?_); (case side1 => exact c1_ HO151); (case side2 => exact (Kd.R_reads' HO151.out).2.1); (case side3 => exact c1_ HO_10); (case side4 => exact (Kd.R_reads' HO_10.out).2.1); rintro e w' ⟨rfl, ⟨nd, rfl⟩⟩))
                  go_meet
                  case rel => exact ⟨_, (true), t2_, H', ⟨by have := HJ14.out; have := HJ75.out; first | omega | exact Nat.le_refl _⟩, ⟨rb_ (Kd.R_mono HO_4.out (fun _ hk => ⟨hk.1.1, ⟨hk.1.2.1, hk.1.2.2⟩⟩))⟩, ⟨rb_ (Kd.R_mono HO_5.out (fun _ hk => ⟨hk.1.1, ⟨hk.1.2.1, hk.1.2.2⟩⟩))⟩, ⟨rb_ (Kd.R_mono HO_10.out (fun _ hk => ⟨hk.1.1, ⟨hk.1.2.1, hk.1.2.2⟩⟩))⟩, ⟨rb_ (Kd.R_mono HO_112000.out (fun _ hk => ⟨hk.1.1, ⟨hk.1.2.1, hk.1.2.2⟩⟩))⟩, ⟨bb_ BK111.out⟩, ⟨gb_ HB.out⟩⟩
               ·as_aux_lemma =>
                rw [if_neg c103] at H
                have c103b0 : (t155 == t124) = false := beq_eq_false_iff_ne.mpr c103
                have c103b1 : (t155 != t124) = true := bne_iff_ne.mpr c103
                have H' := Aside0.mk H
                clear H
                obtain ⟨Ao114, co114, eo114⟩ := Kd.R_slice HO151.out
                subst eo114
                go_wp2_with (first | (go_at_call 16; (with_reducible refine (laws_likeInts.calls kj75 _ _ t149 _ _ t116 true _ ?side1 ?side2 ?side3 ?side4 A100.out).mono ?_); (case side1 => exact c1_ HO151); (case side2 => exact (Kd.R_reads' HO151.out).2.1); (case side3 => exact c1_ HO_10); (case side4 => exact (Kd.R_reads' HO_10.out).2.1); rintro e w' ⟨rfl, ⟨nd, rfl⟩⟩))
                go_meet
                case rel => exact ⟨_, (true), t2_, H', ⟨by have := HJ14.out; have := HJ75.out; first | omega | exact Nat.le_refl _⟩, ⟨rb_ (Kd.R_mono HO_4.out (fun _ hk => ⟨hk.1.1, ⟨hk.1.2.1, hk.1.2.2⟩⟩))⟩, ⟨rb_ (Kd.R_mono HO_5.out (fun _ hk => ⟨hk.1.1, ⟨hk.1.2.1, hk.1.2.2⟩⟩))⟩, ⟨rb_ (Kd.R_mono HO_10.out (fun _ hk => ⟨hk.1.1, ⟨hk.1.2.1, hk.1.2.2⟩⟩))⟩, ⟨rb_ (Kd.R_mono HO_112000.out (fun _ hk => ⟨hk.1.1, ⟨hk.1.2.1, hk.1.2.2⟩⟩))⟩, ⟨bb_ BK111.out⟩, ⟨gb_ HB.out⟩⟩
              ·as_aux_lemma =>
               replace c102 := Bool.eq_false_iff.mpr c102
               subst c102
               have H1 : (laws_FnForms.j2 kj75 t105 t108 t112 t113 t116 t147 true t102) = some r := by rw [if_neg (show ¬ (false = true) by decide)] at H; exact H
               clear H
               have H := H1
               clear H1
               have H' := Aside0.mk H
               clear H
               obtain ⟨Ao115, co115, eo115⟩ := Kd.R_slice HO151.out
               subst eo115
               go_wp2_with (first | (go_at_call 16; (with_reducible refine (laws_likeInts.calls kj75 _ _ t149 _ _ t116 true _ ?side1 ?side2 ?side3 ?side4 A100.out).mono ?_); (case side1 => exact c1_ HO151); (case side2 => exact (Kd.R_reads' HO151.out).2.1); (case side3 => exact c1_ HO_10); (case side4 => exact (Kd.R_reads' HO_10.out).2.1); rintro e w' ⟨rfl, ⟨nd, rfl⟩⟩))
               go_meet
               case rel => exact ⟨_, (true), t2_, H', ⟨by have := HJ14.out; have := HJ75.out; first | omega | exact Nat.le_refl _⟩, ⟨rb_ (Kd.R_mono HO_4.out (fun _ hk => ⟨hk.1.1, ⟨hk.1.2.1, hk.1.2.2⟩⟩))⟩, ⟨rb_ (Kd.R_mono HO_5.out (fun _ hk => ⟨hk.1.1, ⟨hk.1.2.1, hk.1.2.2⟩⟩))⟩, ⟨rb_ (Kd.R_mono HO_10.out (fun _ hk => ⟨hk.1.1, ⟨hk.1.2.1, hk.1.2.2⟩⟩))⟩, ⟨rb_ (Kd.R_mono HO_112000.out (fun _ hk => ⟨hk.1.1, ⟨hk.1.2.1, hk.1.2.2⟩⟩))⟩, ⟨bb_ BK111.out⟩, ⟨gb_ HB.out⟩⟩
             ·as_aux_lemma =>
              replace c101 := Bool.eq_false_iff.mpr c101
              subst c101
              have H1 : (laws_FnForms.j2 kj75 t105 t108 t112 t113 t116 t147 true t102) = some r := by rw [if_neg (show ¬ (false = true) by decide)] at H; exact H
              clear H
              have H := H1
              clear H1
              have H' := Aside0.mk H
              clear H
              obtain ⟨Ao116, co116, eo116⟩ := Kd.R_slice HO151.out
              subst eo116
              go_wp2_with (first | (go_at_call 16; (with_reducible refine (laws_likeInts.calls kj75 _ _ t149 _ _ t116 false _ ?side1 ?side2 ?side3 ?side4 A100.out).mono ?_); (case side1 => exact c1_ HO151); (case side2 => exact (Kd.R_reads' HO151.out).2.1); (case side3 => exact c1_ HO_10); (case side4 => exact (Kd.R_reads' HO_10.out).2.1); rintro e w' ⟨rfl, ⟨nd, rfl⟩⟩))
              go_meet
              case rel => exact ⟨_, (true), t2_, H', ⟨by have := HJ14.out; have := HJ75.out; first | omega | exact Nat.le_refl _⟩, ⟨rb_ (Kd.R_mono HO_4.out (fun _ hk => ⟨hk.1.1, ⟨hk.1.2.1, hk.1.2.2⟩⟩))⟩, ⟨rb_ (Kd.R_mono HO_5.out (fun _ hk => ⟨hk.1.1, ⟨hk.1.2.1, hk.1.2.2⟩⟩))⟩, ⟨rb_ (Kd.R_mono HO_10.out (fun _ hk => ⟨hk.1.1, ⟨hk.1.2.1, hk.1.2.2⟩⟩))⟩, ⟨rb_ (Kd.R_mono HO_112000.out (fun _ hk => ⟨hk.1.1, ⟨hk.1.2.1, hk.1.2.2⟩⟩))⟩, ⟨bb_ BK111.out⟩, ⟨gb_ HB.out⟩⟩
            ·as_aux_lemma =>
             rw [if_neg c99] at H
             have c99b0 : (t156 == 0) = false := beq_eq_false_iff_ne.mpr c99
             have c99b1 : (t156 != 0) = true := bne_iff_ne.mpr c99
             have H' := Aside0.mk H
             clear H
             go_wp2
             go_meet
             case rel => exact ⟨_, (true), t2_, H', ⟨by have := HJ14.out; have := HJ75.out; first | omega | exact Nat.le_refl _⟩, ⟨rb_ (Kd.R_mono HO_4.out (fun _ hk => ⟨hk.1.1, ⟨hk.1.2.1, hk.1.2.2⟩⟩))⟩, ⟨rb_ (Kd.R_mono HO_5.out (fun _ hk => ⟨hk.1.1, ⟨hk.1.2.1, hk.1.2.2⟩⟩))⟩, ⟨rb_ (Kd.R_mono HO_10.out (fun _ hk => ⟨hk.1.1, ⟨hk.1.2.1, hk.1.2.2⟩⟩))⟩, ⟨rb_ (Kd.R_mono HO_112000.out (fun _ hk => ⟨hk.1.1, ⟨hk.1.2.1, hk.1.2.2⟩⟩))⟩, ⟨bb_ BK111.out⟩, ⟨gb_ HB.out⟩⟩
           ·as_aux_lemma =>
            rw [if_neg c98] at H
            have c98b0 : (t154 == 0) = false := beq_eq_false_iff_ne.mpr c98
            have c98b1 : (t154 != 0) = true := bne_iff_ne.mpr c98
            have H' := Aside0.mk H
            clear H
            go_wp2
            go_meet
            case rel => exact ⟨_, (true), t2_, H', ⟨by have := HJ14.out; have := HJ75.out; first | omega | exact Nat.le_refl _⟩, ⟨rb_ (Kd.R_mono HO_4.out (fun _ hk => ⟨hk.1.1, ⟨hk.1.2.1, hk.1.2.2⟩⟩))⟩, ⟨rb_ (Kd.R_mono HO_5.out (fun _ hk => ⟨hk.1.1, ⟨hk.1.2.1, hk.1.2.2⟩⟩))⟩, ⟨rb_ (Kd.R_mono HO_10.out (fun _ hk => ⟨hk.1.1, ⟨hk.1.2.1, hk.1.2.2⟩⟩))⟩, ⟨rb_ (Kd.R_mono HO_112000.out (fun _ hk => ⟨hk.1.1, ⟨hk.1.2.1, hk.1.2.2⟩⟩))⟩, ⟨bb_ BK111.out⟩, ⟨gb_ HB.out⟩⟩
          ·as_aux_lemma =>
           rw [if_neg c97] at H
           have c97b0 : (t152 == 0) = false := beq_eq_false_iff_ne.mpr c97
           have c97b1 : (t152 != 0) = true := bne_iff_ne.mpr c97
           have H' := Aside0.mk H
           clear H
           go_wp2
           go_meet
           case rel => exact ⟨_, (true), t2_, H', ⟨by have := HJ14.out; have := HJ75.out; first | omega | exact Nat.le_refl _⟩, ⟨rb_ (Kd.R_mono HO_4.out (fun _ hk => ⟨hk.1.1, ⟨hk.1.2.1, hk.1.2.2⟩⟩))⟩, ⟨rb_ (Kd.R_mono HO_5.out (fun _ hk => ⟨hk.1.1, ⟨hk.1.2.1, hk.1.2.2⟩⟩))⟩, ⟨rb_ (Kd.R_mono HO_10.out (fun _ hk => ⟨hk.1.1, ⟨hk.1.2.1, hk.1.2.2⟩⟩))⟩, ⟨rb_ (Kd.R_mono HO_112000.out (fun _ hk => ⟨hk.1.1, ⟨hk.1.2.1, hk.1.2.2⟩⟩))⟩, ⟨bb_ BK111.out⟩, ⟨gb_ HB.out⟩⟩
         ·as_aux_lemma =>
          rw [if_neg c96] at H
          have c96b0 : (t148 == 0) = false := beq_eq_false_iff_ne.mpr c96
          have c96b1 : (t148 != 0) = true := bne_iff_ne.mpr c96
          (first | rw [c96b0] | (simp only [i64_w, i32_w]; rw [c96b0]) | skip)
          have H' := Aside0.mk H
          clear H
          go_wp2
          go_meet
          case rel => exact ⟨_, (true), t2_, H', ⟨by have := HJ14.out; have := HJ75.out; first | omega | exact Nat.le_refl _⟩, ⟨rb_ (Kd.R_mono HO_4.out (fun _ hk => ⟨hk.1.1, ⟨hk.1.2.1, hk.1.2.2⟩⟩))⟩, ⟨rb_ (Kd.R_mono HO_5.out (fun _ hk => ⟨hk.1.1, ⟨hk.1.2.1, hk.1.2.2⟩⟩))⟩, ⟨rb_ (Kd.R_mono HO_10.out (fun _ hk => ⟨hk.1.1, ⟨hk.1.2.1, hk.1.2.2⟩⟩))⟩, ⟨rb_ (Kd.R_mono HO_112000.out (fun _ hk => ⟨hk.1.1, ⟨hk.1.2.1, hk.1.2.2⟩⟩))⟩, ⟨bb_ BK111.out⟩, ⟨gb_ HB.out⟩⟩
        case rest => as_aux_lemma =>
         clear HC86
         try clear c1
         try clear p1
         try clear q1
         try clear hx1
         try clear qi1
         try clear p2
         try clear c3
         try clear c4
         try clear c5
         try clear c6
         try clear p6
         try clear c7
         try clear c8
         try clear c9
         try clear c10
         try clear c11
         try clear c12
         try clear c13
         try clear c14
         try clear c15
         try clear p15
         try clear q15
         try clear hx15
         try clear qi15
         try clear c17
         try clear c41
         try clear c41b0
         try clear c41b1
         try clear c42
         try clear c42b0
         try clear c42b1
         try clear c42b2
         try clear c43
         try clear c43b0
         try clear c43b1
         try clear c45
         try clear c46
         try clear c46b0
         try clear c46b1
         try clear c47
         try clear c47b0
         try clear c47b1
         try clear c48
         try clear c48b0
         try clear c48b1
         try clear c50
         try clear c51
         try clear c51b0
         try clear c51b1
         try clear p64
         try clear c75
         try clear c77
         try clear c77b0
         try clear c77b1
         try clear c80
         try clear c81
         try clear c81b0
         try clear c81b1
         try clear c96
         try clear c96b0
         try clear c96b1
         try clear c97
         try clear c97b0
         try clear c97b1
         try clear c98
         try clear c98b0
         try clear c98b1
         try clear c99
         try clear c99b0
         try clear c99b1
         try clear c101
         try clear c102
         try clear c103
         try clear c103b0
         try clear c103b1
         try clear c104
         try clear c104b0
         try clear c106
         try clear c106b0
         try clear c106b1
         try clear c106b2
         try clear c107
         try clear c107b0
         try clear c107b1
         try clear c108
         try clear c108b0
         try clear c108b1
         try clear c109
         try clear c109b0
         try clear c109b1
         try clear hcz19_0
         try clear hcz23_0
         try clear hcz25_0
         try clear hcz27_0
         try clear hcz29_0
         try clear hcz31_0
         try clear hcz33_0
         try clear hcz35_0
         try clear hcz37_0
         try clear hcz39_0
         try clear hcz87_0
         try clear hcz89_0
         try clear hcz92_0
         try clear hcz94_0
         try clear hfz19_0
         try clear hfz23_0
         try clear hfz25_0
         try clear hfz27_0
         try clear hfz29_0
         try clear hfz31_0
         try clear hfz33_0
         try clear hfz35_0
         try clear hfz37_0
         try clear hfz39_0
         try clear hfz87_0
         try clear hfz89_0
         try clear hfz92_0
         try clear hfz94_0
         try clear hx158_0
         try clear p158
         try clear p2
         try clear p6
         try clear p64
         try clear q158
         obtain ⟨kq, x264_85, rfl, HA, HJ85, HO_4, HO_5, HO_10, HO_112000, BK111, HB⟩ := hcut
         cases kq with
         | zero => exact absurd HA.out (by simp [laws_FnForms.j2])
         | succ kj85 =>
          have H := HA.out
          clear HA
          simp only [laws_FnForms.j2] at H
          by_cases c117 : x264_85 = true
          ·as_aux_lemma =>
           subst c117
           have H1 : (some false) = some r := by rw [if_pos rfl] at H; exact H
           clear H
           have H := H1
           clear H1
           obtain rfl := Option.some.inj H
           go_wp2
           go_ret
           exact ⟨t5_, gb_ HB.out⟩
          ·as_aux_lemma =>
           replace c117 := Bool.eq_false_iff.mpr c117
           subst c117
           have H1 : ((impl_ShiftCode.f kj85 t102 t105 (wrap64 (t147 - 1))).bind fun bt159 => ((impl_LeastForm.f t102 bt159.1).bind fun bt163 => (if bt159.2 = 0 then (if bt163.2 = 0 then ((laws_likeInts.f kj85 bt163.1 t116).bind fun t167 => (laws_FnForms.j3 kj85 t105 t108 t112 t113 (!t167) t102)) else (laws_FnForms.j3 kj85 t105 t108 t112 t113 true t102)) else (laws_FnForms.j3 kj85 t105 t108 t112 t113 true t102)))) = some r := by rw [if_neg (show ¬ (false = true) by decide)] at H; exact H
           clear H
           have H := H1
           clear H1
           replace H := bd_ H
           obtain ⟨⟨t159, t162⟩, A118, H⟩ := H
           try dsimp only at H
           replace H := bd_ H
           obtain ⟨⟨t163, t166⟩, A119, H⟩ := H
           try dsimp only at H
           have HC120 := Aside0.mk H
           clear H
           have hcz121_0 := hz_ BK111
           have hfz121_0 := blk_frozen BK111.out 0
           go_upto_region 27 with (first | ((with_reducible refine gate_callee (f := 18) rfl ?_); refine gl_ (some 270) rfl rfl Tryz.func18 #[.agg #[.slice Ao18 t102.length co18], .slice Ao20 t105.length co20, .int .i64 (wrap64 (t147 - 1))] rfl ?_; (with_reducible refine (impl_ShiftCode.calls kj85 _ _ t102 _ _ t105 (wrap64 (t147 - 1)) t159 t162 _ ?side1 ?side2 ?side3 ?side4 A118.out).mono ?_); (case side1 => exact c1_ HO_112000); (case side2 => exact (Kd.R_reads' HO_112000.out).2.1); (case side3 => exact c1_ HO_4); (case side4 => exact (Kd.R_reads' HO_4.out).2.1); rintro e w122 ⟨v160, rfl, ho0, hb⟩; refine ⟨_, rfl, ?_⟩; have HO161 := Aside0.mk (Kd.R_lower (Kd.R_new' (Kd.R_new' (Kd.R_new' (Kd.R_new' ho0 (Kd.R_lt (rb_ HO_4.out))) (Kd.R_lt (rb_ HO_5.out))) (Kd.R_lt (rb_ HO_10.out))) (Kd.R_lt (rb_ HO_112000.out))) (below_size (gb_ HB.out))); replace HO_4 := a5_ HO_4 ho0 hb; replace HO_5 := a5_ HO_5 ho0 hb; replace HO_10 := a5_ HO_10 ho0 hb; replace HO_112000 := a5_ HO_112000 ho0 hb; replace BK111 := a2_ BK111 hb; replace HB := b1_ HB hb; (try clear hb); (try clear hb2); (try clear hk); (try clear hi); (try clear ho0); have hcz123_0 := hz_ BK111; have hfz123_0 := blk_frozen BK111.out 0; obtain ⟨Ao124, co124, eo124⟩ := Kd.R_slice HO161.out; subst eo124) | ((with_reducible refine gate_callee (f := 8) rfl ?_); refine gl_ (some 276) rfl rfl Tryz.func8 #[.agg #[.slice Ao18 t102.length co18], .slice Ao124 t159.length co124] rfl ?_; (with_reducible refine (impl_LeastForm.calls _ _ t102 _ _ t159 t163 t166 _ ?side1 ?side2 ?side3 ?side4 A119.out).mono ?_); (case side1 => exact c1_ HO_112000); (case side2 => exact (Kd.R_reads' HO_112000.out).2.1); (case side3 => exact c1_ HO161); (case side4 => exact (Kd.R_reads' HO161.out).2.1); rintro e w125 ⟨v164, rfl, ho0, hb⟩; refine ⟨_, rfl, ?_⟩; have HO165 := Aside0.mk (Kd.R_lower (Kd.R_new' (Kd.R_new' (Kd.R_new' (Kd.R_new' (Kd.R_new' ho0 (Kd.R_lt (rb_ HO_4.out))) (Kd.R_lt (rb_ HO_5.out))) (Kd.R_lt (rb_ HO_10.out))) (Kd.R_lt (rb_ HO_112000.out))) (Kd.R_lt (rb_ HO161.out))) (below_size (gb_ HB.out))); replace HO_4 := a5_ HO_4 ho0 hb; replace HO_5 := a5_ HO_5 ho0 hb; replace HO_10 := a5_ HO_10 ho0 hb; replace HO_112000 := a5_ HO_112000 ho0 hb; replace HO161 := a5_ HO161 ho0 hb; replace BK111 := a2_ BK111 hb; replace HB := b1_ HB hb; (try clear hb); (try clear hb2); (try clear hk); (try clear hi); (try clear ho0)))
           (try simp only [Act.put, List.setIfInBounds_toArray, List.set_cons_zero, List.set_cons_succ])
           go_cut [290] (fun cs_290 wc => ∃ (kq : Nat) (x290_119 : Bool), cs_290 = .bool x290_119 ∧ Aside0 (laws_FnForms.j3 kq t105 t108 t112 t113 x290_119 t102 = some r) ∧ Aside0 (kq ≤ kj85) ∧ Aside0 (Kd.R (Kd.int .i64) 2 wc w.heap.size (fun k_ => OB_ k_ (.slice Ao21 t108.length co21) ∧ OB_ k_ (.slice Ao18 t102.length co18)) (.slice Ao20 t105.length co20) t105) ∧ Aside0 (Kd.R (Kd.int .i64) 2 wc w.heap.size (fun k_ => OB_ k_ (.slice Ao20 t105.length co20) ∧ OB_ k_ (.slice Ao18 t102.length co18)) (.slice Ao21 t108.length co21) t108) ∧ Aside0 (Kd.R (Kd.int .i64) 2 wc w.heap.size (fun k_ => OB_ k_ (.slice Ao20 t105.length co20) ∧ OB_ k_ (.slice Ao21 t108.length co21)) (.slice Ao18 t102.length co18) t102) ∧ Aside0 (wc.heap[gb111]? = some (.cells #[(.slice Ao18 t102.length co18)] 26 (0, 0))) ∧ Aside0 (Below w.heap.size w wc))
           case first => as_aux_lemma =>
            have H := HC120.out
            clear HC120
            by_cases c126 : t162 = 0
            ·as_aux_lemma =>
             rw [if_pos c126] at H
             have c126b0 : (t162 == 0) = true := beq_iff_eq.mpr c126
             have c126b1 : (t162 != 0) = false := bne_eq_false_iff_eq.mpr c126
             clear c126
             (first | rw [c126b0] | (simp only [i64_w, i32_w]; rw [c126b0]) | skip)
             by_cases c127 : t166 = 0
             ·as_aux_lemma =>
              rw [if_pos c127] at H
              have c127b0 : (t166 == 0) = true := beq_iff_eq.mpr c127
              have c127b1 : (t166 != 0) = false := bne_eq_false_iff_eq.mpr c127
              clear c127
              replace H := bd_ H
              obtain ⟨t167, A128, H⟩ := H
              have H' := Aside0.mk H
              clear H
              obtain ⟨Ao129, co129, eo129⟩ := Kd.R_slice HO165.out
              subst eo129
              go_wp2_with (first | (go_at_call 16; (with_reducible refine (laws_likeInts.calls kj85 _ _ t163 _ _ t116 t167 _ ?side1 ?side2 ?side3 ?side4 A128.out).mono ?_); (case side1 => exact c1_ HO165); (case side2 => exact (Kd.R_reads' HO165.out).2.1); (case side3 => exact c1_ HO_10); (case side4 => exact (Kd.R_reads' HO_10.out).2.1); rintro e w' ⟨rfl, ⟨nd, rfl⟩⟩))
              go_meet
              case rel => exact ⟨_, (!t167), t2_, H', ⟨by have := HJ14.out; have := HJ75.out; have := HJ85.out; first | omega | exact Nat.le_refl _⟩, ⟨rb_ (Kd.R_mono HO_4.out (fun _ hk => ⟨hk.1.1.1, hk.1.1.2.2⟩))⟩, ⟨rb_ (Kd.R_mono HO_5.out (fun _ hk => ⟨hk.1.1.1, hk.1.1.2.2⟩))⟩, ⟨rb_ (Kd.R_mono HO_112000.out (fun _ hk => ⟨hk.1.1.1, hk.1.1.2.1⟩))⟩, ⟨bb_ BK111.out⟩, ⟨gb_ HB.out⟩⟩
             ·as_aux_lemma =>
              rw [if_neg c127] at H
              have c127b0 : (t166 == 0) = false := beq_eq_false_iff_ne.mpr c127
              have c127b1 : (t166 != 0) = true := bne_iff_ne.mpr c127
              have H' := Aside0.mk H
              clear H
              go_wp2
              go_meet
              case rel => exact ⟨_, (true), t2_, H', ⟨by have := HJ14.out; have := HJ75.out; have := HJ85.out; first | omega | exact Nat.le_refl _⟩, ⟨rb_ (Kd.R_mono HO_4.out (fun _ hk => ⟨hk.1.1.1, hk.1.1.2.2⟩))⟩, ⟨rb_ (Kd.R_mono HO_5.out (fun _ hk => ⟨hk.1.1.1, hk.1.1.2.2⟩))⟩, ⟨rb_ (Kd.R_mono HO_112000.out (fun _ hk => ⟨hk.1.1.1, hk.1.1.2.1⟩))⟩, ⟨bb_ BK111.out⟩, ⟨gb_ HB.out⟩⟩
            ·as_aux_lemma =>
             rw [if_neg c126] at H
             have c126b0 : (t162 == 0) = false := beq_eq_false_iff_ne.mpr c126
             have c126b1 : (t162 != 0) = true := bne_iff_ne.mpr c126
             (first | rw [c126b0] | (simp only [i64_w, i32_w]; rw [c126b0]) | skip)
             have H' := Aside0.mk H
             clear H
             go_wp2
             go_meet
             case rel => exact ⟨_, (true), t2_, H', ⟨by have := HJ14.out; have := HJ75.out; have := HJ85.out; first | omega | exact Nat.le_refl _⟩, ⟨rb_ (Kd.R_mono HO_4.out (fun _ hk => ⟨hk.1.1.1, hk.1.1.2.2⟩))⟩, ⟨rb_ (Kd.R_mono HO_5.out (fun _ hk => ⟨hk.1.1.1, hk.1.1.2.2⟩))⟩, ⟨rb_ (Kd.R_mono HO_112000.out (fun _ hk => ⟨hk.1.1.1, hk.1.1.2.1⟩))⟩, ⟨bb_ BK111.out⟩, ⟨gb_ HB.out⟩⟩
           case rest => as_aux_lemma =>
            clear HC120
            try clear c1
            try clear p1
            try clear q1
            try clear hx1
            try clear qi1
            try clear p2
            try clear c3
            try clear c4
            try clear c5
            try clear c6
            try clear p6
            try clear c7
            try clear c8
            try clear c9
            try clear c10
            try clear c11
            try clear c12
            try clear c13
            try clear c14
            try clear c15
            try clear p15
            try clear q15
            try clear hx15
            try clear qi15
            try clear c17
            try clear c18
            try clear c41
            try clear c41b0
            try clear c41b1
            try clear c42
            try clear c42b0
            try clear c42b1
            try clear c42b2
            try clear c43
            try clear c43b0
            try clear c43b1
            try clear c45
            try clear c46
            try clear c46b0
            try clear c46b1
            try clear c47
            try clear c47b0
            try clear c47b1
            try clear c48
            try clear c48b0
            try clear c48b1
            try clear c50
            try clear c51
            try clear c51b0
            try clear c51b1
            try clear p64
            try clear c75
            try clear c77
            try clear c77b0
            try clear c77b1
            try clear c80
            try clear c81
            try clear c81b0
            try clear c81b1
            try clear c96
            try clear c96b0
            try clear c96b1
            try clear c97
            try clear c97b0
            try clear c97b1
            try clear c98
            try clear c98b0
            try clear c98b1
            try clear c99
            try clear c99b0
            try clear c99b1
            try clear c101
            try clear c102
            try clear c103
            try clear c103b0
            try clear c103b1
            try clear c104
            try clear c104b0
            try clear c106
            try clear c106b0
            try clear c106b1
            try clear c106b2
            try clear c107
            try clear c107b0
            try clear c107b1
            try clear c108
            try clear c108b0
            try clear c108b1
            try clear c109
            try clear c109b0
            try clear c109b1
            try clear c117
            try clear c126
            try clear c126b0
            try clear c126b1
            try clear c127
            try clear c127b0
            try clear c127b1
            try clear hcz121_0
            try clear hcz123_0
            try clear hcz19_0
            try clear hcz23_0
            try clear hcz25_0
            try clear hcz27_0
            try clear hcz29_0
            try clear hcz31_0
            try clear hcz33_0
            try clear hcz35_0
            try clear hcz37_0
            try clear hcz39_0
            try clear hcz87_0
            try clear hcz89_0
            try clear hcz92_0
            try clear hcz94_0
            try clear hfz121_0
            try clear hfz123_0
            try clear hfz19_0
            try clear hfz23_0
            try clear hfz25_0
            try clear hfz27_0
            try clear hfz29_0
            try clear hfz31_0
            try clear hfz33_0
            try clear hfz35_0
            try clear hfz37_0
            try clear hfz39_0
            try clear hfz87_0
            try clear hfz89_0
            try clear hfz92_0
            try clear hfz94_0
            try clear hx158_0
            try clear p1
            try clear p15
            try clear p158
            try clear p2
            try clear p6
            try clear p64
            try clear q1
            try clear q15
            try clear q158
            obtain ⟨kq, x290_119, rfl, HA, HJ119, HO_4, HO_5, HO_112000, BK111, HB⟩ := hcut
            cases kq with
            | zero => exact absurd HA.out (by simp [laws_FnForms.j3])
            | succ kj119 =>
             have H := HA.out
             clear HA
             simp only [laws_FnForms.j3] at H
             by_cases c130 : x290_119 = true
             ·as_aux_lemma =>
              subst c130
              have H1 : (some false) = some r := by rw [if_pos rfl] at H; exact H
              clear H
              have H := H1
              clear H1
              obtain rfl := Option.some.inj H
              go_wp2
              go_ret
              exact ⟨t5_, gb_ HB.out⟩
             ·as_aux_lemma =>
              replace c130 := Bool.eq_false_iff.mpr c130
              subst c130
              have H1 : (if t113 = 0 then (laws_FnForms.j4 kj119 t105 t108 t112 t102) else (laws_FnForms.j4 kj119 t105 t108 false t102)) = some r := by rw [if_neg (show ¬ (false = true) by decide)] at H; exact H
              clear H
              have H := H1
              clear H1
              have HC131 := Aside0.mk H
              clear H
              go_upto_region 29 with (fail)
              go_cut [295] (fun cs_295 wc => ∃ (kq : Nat) (x295_130 : Bool), cs_295 = .bool x295_130 ∧ Aside0 (laws_FnForms.j4 kq t105 t108 x295_130 t102 = some r) ∧ Aside0 (kq ≤ kj119) ∧ Aside0 (Kd.R (Kd.int .i64) 2 wc w.heap.size (fun k_ => OB_ k_ (.slice Ao21 t108.length co21) ∧ OB_ k_ (.slice Ao18 t102.length co18)) (.slice Ao20 t105.length co20) t105) ∧ Aside0 (Kd.R (Kd.int .i64) 2 wc w.heap.size (fun k_ => OB_ k_ (.slice Ao20 t105.length co20) ∧ OB_ k_ (.slice Ao18 t102.length co18)) (.slice Ao21 t108.length co21) t108) ∧ Aside0 (Kd.R (Kd.int .i64) 2 wc w.heap.size (fun k_ => OB_ k_ (.slice Ao20 t105.length co20) ∧ OB_ k_ (.slice Ao21 t108.length co21)) (.slice Ao18 t102.length co18) t102) ∧ Aside0 (wc.heap[gb111]? = some (.cells #[(.slice Ao18 t102.length co18)] 26 (0, 0))) ∧ Aside0 (Below w.heap.size w wc))
              case first => as_aux_lemma =>
               have H := HC131.out
               clear HC131
               by_cases c132 : t113 = 0
               ·as_aux_lemma =>
                rw [if_pos c132] at H
                have c132b0 : (t113 == 0) = true := beq_iff_eq.mpr c132
                have c132b1 : (t113 != 0) = false := bne_eq_false_iff_eq.mpr c132
                clear c132
                (first | rw [c132b0] | (simp only [i64_w, i32_w]; rw [c132b0]) | skip)
                have H' := Aside0.mk H
                clear H
                go_wp2
                go_meet
                case rel => exact ⟨_, (t112), t2_, H', ⟨by have := HJ14.out; have := HJ75.out; have := HJ85.out; have := HJ119.out; first | omega | exact Nat.le_refl _⟩, ⟨rb_ HO_4.out⟩, ⟨rb_ HO_5.out⟩, ⟨rb_ HO_112000.out⟩, ⟨bb_ BK111.out⟩, ⟨gb_ HB.out⟩⟩
               ·as_aux_lemma =>
                rw [if_neg c132] at H
                have c132b0 : (t113 == 0) = false := beq_eq_false_iff_ne.mpr c132
                have c132b1 : (t113 != 0) = true := bne_iff_ne.mpr c132
                (first | rw [c132b0] | (simp only [i64_w, i32_w]; rw [c132b0]) | skip)
                have H' := Aside0.mk H
                clear H
                go_wp2
                go_meet
                case rel => exact ⟨_, (false), t2_, H', ⟨by have := HJ14.out; have := HJ75.out; have := HJ85.out; have := HJ119.out; first | omega | exact Nat.le_refl _⟩, ⟨rb_ HO_4.out⟩, ⟨rb_ HO_5.out⟩, ⟨rb_ HO_112000.out⟩, ⟨bb_ BK111.out⟩, ⟨gb_ HB.out⟩⟩
              case rest => as_aux_lemma =>
               clear HC131
               try clear c1
               try clear p1
               try clear q1
               try clear hx1
               try clear qi1
               try clear p2
               try clear c3
               try clear c4
               try clear c5
               try clear c6
               try clear p6
               try clear c7
               try clear c8
               try clear c9
               try clear c10
               try clear c11
               try clear c12
               try clear c13
               try clear c14
               try clear c15
               try clear p15
               try clear q15
               try clear hx15
               try clear qi15
               try clear c17
               try clear c18
               try clear c41
               try clear c41b0
               try clear c41b1
               try clear c42
               try clear c42b0
               try clear c42b1
               try clear c42b2
               try clear c43
               try clear c43b0
               try clear c43b1
               try clear c45
               try clear c46
               try clear c46b0
               try clear c46b1
               try clear c47
               try clear c47b0
               try clear c47b1
               try clear c48
               try clear c48b0
               try clear c48b1
               try clear c50
               try clear c51
               try clear c51b0
               try clear c51b1
               try clear p64
               try clear c75
               try clear c77
               try clear c77b0
               try clear c77b1
               try clear c80
               try clear c81
               try clear c81b0
               try clear c81b1
               try clear c96
               try clear c96b0
               try clear c96b1
               try clear c97
               try clear c97b0
               try clear c97b1
               try clear c98
               try clear c98b0
               try clear c98b1
               try clear c99
               try clear c99b0
               try clear c99b1
               try clear c101
               try clear c102
               try clear c103
               try clear c103b0
               try clear c103b1
               try clear c104
               try clear c104b0
               try clear c106
               try clear c106b0
               try clear c106b1
               try clear c106b2
               try clear c107
               try clear c107b0
               try clear c107b1
               try clear c108
               try clear c108b0
               try clear c108b1
               try clear c109
               try clear c109b0
               try clear c109b1
               try clear c117
               try clear c126
               try clear c126b0
               try clear c126b1
               try clear c127
               try clear c127b0
               try clear c127b1
               try clear c130
               try clear c132
               try clear c132b0
               try clear c132b1
               try clear hcz121_0
               try clear hcz123_0
               try clear hcz19_0
               try clear hcz23_0
               try clear hcz25_0
               try clear hcz27_0
               try clear hcz29_0
               try clear hcz31_0
               try clear hcz33_0
               try clear hcz35_0
               try clear hcz37_0
               try clear hcz39_0
               try clear hcz87_0
               try clear hcz89_0
               try clear hcz92_0
               try clear hcz94_0
               try clear hfz121_0
               try clear hfz123_0
               try clear hfz19_0
               try clear hfz23_0
               try clear hfz25_0
               try clear hfz27_0
               try clear hfz29_0
               try clear hfz31_0
               try clear hfz33_0
               try clear hfz35_0
               try clear hfz37_0
               try clear hfz39_0
               try clear hfz87_0
               try clear hfz89_0
               try clear hfz92_0
               try clear hfz94_0
               try clear hx158_0
               try clear p1
               try clear p15
               try clear p158
               try clear p2
               try clear p6
               try clear p64
               try clear q1
               try clear q15
               try clear q158
               obtain ⟨kq, x295_130, rfl, HA, HJ130, HO_4, HO_5, HO_112000, BK111, HB⟩ := hcut
               cases kq with
               | zero => exact absurd HA.out (by simp [laws_FnForms.j4])
               | succ kj130 =>
                have H := HA.out
                clear HA
                simp only [laws_FnForms.j4] at H
                by_cases c133 : x295_130 = true
                ·as_aux_lemma =>
                 subst c133
                 have H1 : ((impl_DistanceCounts.f t102 t105).bind fun bt168 => ((impl_DistanceCounts.f t102 t108).bind fun bt172 => (if bt168.2 = 0 then (if bt172.2 = 0 then ((laws_likeInts.f kj130 bt168.1 bt172.1).bind fun t176 => (some t176)) else (some false)) else (some false)))) = some r := by rw [if_pos rfl] at H; exact H
                 clear H
                 have H := H1
                 clear H1
                 replace H := bd_ H
                 obtain ⟨⟨t168, t171⟩, A134, H⟩ := H
                 try dsimp only at H
                 replace H := bd_ H
                 obtain ⟨⟨t172, t175⟩, A135, H⟩ := H
                 try dsimp only at H
                 by_cases c136 : t171 = 0
                 ·as_aux_lemma =>
                  rw [if_pos c136] at H
                  have c136b0 : (t171 == 0) = true := beq_iff_eq.mpr c136
                  have c136b1 : (t171 != 0) = false := bne_eq_false_iff_eq.mpr c136
                  clear c136
                  by_cases c137 : t175 = 0
                  ·as_aux_lemma =>
                   rw [if_pos c137] at H
                   have c137b0 : (t175 == 0) = true := beq_iff_eq.mpr c137
                   have c137b1 : (t175 != 0) = false := bne_eq_false_iff_eq.mpr c137
                   clear c137
                   replace H := bd_ H
                   obtain ⟨t176, A138, H⟩ := H
                   obtain rfl := Option.some.inj H
                   have hcz139_0 := hz_ BK111
                   have hfz139_0 := blk_frozen BK111.out 0
                   go_wp2_with (first | ((with_reducible refine gate_callee (f := 19) rfl ?_); refine gl_ (some 299) rfl rfl Tryz.func19 #[.agg #[.slice Ao18 t102.length co18], .slice Ao20 t105.length co20] rfl ?_; (with_reducible refine (impl_DistanceCounts.calls _ _ t102 _ _ t105 t168 t171 _ ?side1 ?side2 ?side3 ?side4 A134.out).mono ?_); (case side1 => exact c1_ HO_112000); (case side2 => exact (Kd.R_reads' HO_112000.out).2.1); (case side3 => exact c1_ HO_4); (case side4 => exact (Kd.R_reads' HO_4.out).2.1); rintro e w140 ⟨v169, rfl, ho0, hb⟩; refine ⟨_, rfl, ?_⟩; have HO170 := Aside0.mk (Kd.R_lower (Kd.R_new' (Kd.R_new' (Kd.R_new' ho0 (Kd.R_lt (rb_ HO_4.out))) (Kd.R_lt (rb_ HO_5.out))) (Kd.R_lt (rb_ HO_112000.out))) (below_size (gb_ HB.out))); replace HO_4 := a5_ HO_4 ho0 hb; replace HO_5 := a5_ HO_5 ho0 hb; replace HO_112000 := a5_ HO_112000 ho0 hb; replace BK111 := a2_ BK111 hb; replace HB := b1_ HB hb; (try clear hb); (try clear hb2); (try clear hk); (try clear hi); (try clear ho0); have hcz141_0 := hz_ BK111; have hfz141_0 := blk_frozen BK111.out 0) | ((with_reducible refine gate_callee (f := 19) rfl ?_); refine gl_ (some 305) rfl rfl Tryz.func19 #[.agg #[.slice Ao18 t102.length co18], .slice Ao21 t108.length co21] rfl ?_; (with_reducible refine (impl_DistanceCounts.calls _ _ t102 _ _ t108 t172 t175 _ ?side1 ?side2 ?side3 ?side4 A135.out).mono ?_); (case side1 => exact c1_ HO_112000); (case side2 => exact (Kd.R_reads' HO_112000.out).2.1); (case side3 => exact c1_ HO_5); (case side4 => exact (Kd.R_reads' HO_5.out).2.1); rintro e w142 ⟨v173, rfl, ho0, hb⟩; refine ⟨_, rfl, ?_⟩; have HO174 := Aside0.mk (Kd.R_lower (Kd.R_new' (Kd.R_new' (Kd.R_new' (Kd.R_new' ho0 (Kd.R_lt (rb_ HO_4.out))) (Kd.R_lt (rb_ HO_5.out))) (Kd.R_lt (rb_ HO_112000.out))) (Kd.R_lt (rb_ HO170.out))) (below_size (gb_ HB.out))); replace HO_4 := a5_ HO_4 ho0 hb; replace HO_5 := a5_ HO_5 ho0 hb; replace HO_112000 := a5_ HO_112000 ho0 hb; replace HO170 := a5_ HO170 ho0 hb; replace BK111 := a2_ BK111 hb; replace HB := b1_ HB hb; (try clear hb); (try clear hb2); (try clear hk); (try clear hi); (try clear ho0); obtain ⟨Ao143, co143, eo143⟩ := Kd.R_slice HO170.out; subst eo143; obtain ⟨Ao144, co144, eo144⟩ := Kd.R_slice HO174.out; subst eo144) | (go_at_call 16; (with_reducible refine (laws_likeInts.calls kj130 _ _ t168 _ _ t172 t176 _ ?side1 ?side2 ?side3 ?side4 A138.out).mono ?_); (case side1 => exact c1_ HO170); (case side2 => exact (Kd.R_reads' HO170.out).2.1); (case side3 => exact c1_ HO174); (case side4 => exact (Kd.R_reads' HO174.out).2.1); rintro e w' ⟨rfl, ⟨nd, rfl⟩⟩))
                   go_ret
                   exact ⟨t5_, gb_ HB.out⟩
                  ·as_aux_lemma =>
                   rw [if_neg c137] at H
                   have c137b0 : (t175 == 0) = false := beq_eq_false_iff_ne.mpr c137
                   have c137b1 : (t175 != 0) = true := bne_iff_ne.mpr c137
                   obtain rfl := Option.some.inj H
                   have hcz145_0 := hz_ BK111
                   have hfz145_0 := blk_frozen BK111.out 0
                   go_wp2_with (first | ((with_reducible refine gate_callee (f := 19) rfl ?_); refine gl_ (some 299) rfl rfl Tryz.func19 #[.agg #[.slice Ao18 t102.length co18], .slice Ao20 t105.length co20] rfl ?_; (with_reducible refine (impl_DistanceCounts.calls _ _ t102 _ _ t105 t168 t171 _ ?side1 ?side2 ?side3 ?side4 A134.out).mono ?_); (case side1 => exact c1_ HO_112000); (case side2 => exact (Kd.R_reads' HO_112000.out).2.1); (case side3 => exact c1_ HO_4); (case side4 => exact (Kd.R_reads' HO_4.out).2.1); rintro e w146 ⟨v169, rfl, ho0, hb⟩; refine ⟨_, rfl, ?_⟩; have HO170 := Aside0.mk (Kd.R_lower (Kd.R_new' (Kd.R_new' (Kd.R_new' ho0 (Kd.R_lt (rb_ HO_4.out))) (Kd.R_lt (rb_ HO_5.out))) (Kd.R_lt (rb_ HO_112000.out))) (below_size (gb_ HB.out))); replace HO_4 := a5_ HO_4 ho0 hb; replace HO_5 := a5_ HO_5 ho0 hb; replace HO_112000 := a5_ HO_112000 ho0 hb; replace BK111 := a2_ BK111 hb; replace HB := b1_ HB hb; (try clear hb); (try clear hb2); (try clear hk); (try clear hi); (try clear ho0); have hcz147_0 := hz_ BK111; have hfz147_0 := blk_frozen BK111.out 0) | ((with_reducible refine gate_callee (f := 19) rfl ?_); refine gl_ (some 305) rfl rfl Tryz.func19 #[.agg #[.slice Ao18 t102.length co18], .slice Ao21 t108.length co21] rfl ?_; (with_reducible refine (impl_DistanceCounts.calls _ _ t102 _ _ t108 t172 t175 _ ?side1 ?side2 ?side3 ?side4 A135.out).mono ?_); (case side1 => exact c1_ HO_112000); (case side2 => exact (Kd.R_reads' HO_112000.out).2.1); (case side3 => exact c1_ HO_5); (case side4 => exact (Kd.R_reads' HO_5.out).2.1); rintro e w148 ⟨v173, rfl, ho0, hb⟩; refine ⟨_, rfl, ?_⟩; have HO174 := Aside0.mk (Kd.R_lower (Kd.R_new' (Kd.R_new' (Kd.R_new' (Kd.R_new' ho0 (Kd.R_lt (rb_ HO_4.out))) (Kd.R_lt (rb_ HO_5.out))) (Kd.R_lt (rb_ HO_112000.out))) (Kd.R_lt (rb_ HO170.out))) (below_size (gb_ HB.out))); replace HO_4 := a5_ HO_4 ho0 hb; replace HO_5 := a5_ HO_5 ho0 hb; replace HO_112000 := a5_ HO_112000 ho0 hb; replace HO170 := a5_ HO170 ho0 hb; replace BK111 := a2_ BK111 hb; replace HB := b1_ HB hb; (try clear hb); (try clear hb2); (try clear hk); (try clear hi); (try clear ho0)))
                   go_ret
                   exact ⟨t5_, gb_ HB.out⟩
                 ·as_aux_lemma =>
                  rw [if_neg c136] at H
                  have c136b0 : (t171 == 0) = false := beq_eq_false_iff_ne.mpr c136
                  have c136b1 : (t171 != 0) = true := bne_iff_ne.mpr c136
                  obtain rfl := Option.some.inj H
                  have hcz149_0 := hz_ BK111
                  have hfz149_0 := blk_frozen BK111.out 0
                  go_wp2_with (first | ((with_reducible refine gate_callee (f := 19) rfl ?_); refine gl_ (some 299) rfl rfl Tryz.func19 #[.agg #[.slice Ao18 t102.length co18], .slice Ao20 t105.length co20] rfl ?_; (with_reducible refine (impl_DistanceCounts.calls _ _ t102 _ _ t105 t168 t171 _ ?side1 ?side2 ?side3 ?side4 A134.out).mono ?_); (case side1 => exact c1_ HO_112000); (case side2 => exact (Kd.R_reads' HO_112000.out).2.1); (case side3 => exact c1_ HO_4); (case side4 => exact (Kd.R_reads' HO_4.out).2.1); rintro e w150 ⟨v169, rfl, ho0, hb⟩; refine ⟨_, rfl, ?_⟩; have HO170 := Aside0.mk (Kd.R_lower (Kd.R_new' (Kd.R_new' (Kd.R_new' ho0 (Kd.R_lt (rb_ HO_4.out))) (Kd.R_lt (rb_ HO_5.out))) (Kd.R_lt (rb_ HO_112000.out))) (below_size (gb_ HB.out))); replace HO_4 := a5_ HO_4 ho0 hb; replace HO_5 := a5_ HO_5 ho0 hb; replace HO_112000 := a5_ HO_112000 ho0 hb; replace BK111 := a2_ BK111 hb; replace HB := b1_ HB hb; (try clear hb); (try clear hb2); (try clear hk); (try clear hi); (try clear ho0); have hcz151_0 := hz_ BK111; have hfz151_0 := blk_frozen BK111.out 0) | ((with_reducible refine gate_callee (f := 19) rfl ?_); refine gl_ (some 305) rfl rfl Tryz.func19 #[.agg #[.slice Ao18 t102.length co18], .slice Ao21 t108.length co21] rfl ?_; (with_reducible refine (impl_DistanceCounts.calls _ _ t102 _ _ t108 t172 t175 _ ?side1 ?side2 ?side3 ?side4 A135.out).mono ?_); (case side1 => exact c1_ HO_112000); (case side2 => exact (Kd.R_reads' HO_112000.out).2.1); (case side3 => exact c1_ HO_5); (case side4 => exact (Kd.R_reads' HO_5.out).2.1); rintro e w152 ⟨v173, rfl, ho0, hb⟩; refine ⟨_, rfl, ?_⟩; have HO174 := Aside0.mk (Kd.R_lower (Kd.R_new' (Kd.R_new' (Kd.R_new' (Kd.R_new' ho0 (Kd.R_lt (rb_ HO_4.out))) (Kd.R_lt (rb_ HO_5.out))) (Kd.R_lt (rb_ HO_112000.out))) (Kd.R_lt (rb_ HO170.out))) (below_size (gb_ HB.out))); replace HO_4 := a5_ HO_4 ho0 hb; replace HO_5 := a5_ HO_5 ho0 hb; replace HO_112000 := a5_ HO_112000 ho0 hb; replace HO170 := a5_ HO170 ho0 hb; replace BK111 := a2_ BK111 hb; replace HB := b1_ HB hb; (try clear hb); (try clear hb2); (try clear hk); (try clear hi); (try clear ho0)))
                  go_ret
                  exact ⟨t5_, gb_ HB.out⟩
                ·as_aux_lemma =>
                 replace c133 := Bool.eq_false_iff.mpr c133
                 subst c133
                 have H1 : (some true) = some r := by rw [if_neg (show ¬ (false = true) by decide)] at H; exact H
                 clear H
                 have H := H1
                 clear H1
                 obtain rfl := Option.some.inj H
                 go_wp2
                 go_ret
                 exact ⟨t5_, gb_ HB.out⟩
       ·as_aux_lemma =>
        rw [if_neg c81] at H
        have c81b0 : (t119 == 0) = false := beq_eq_false_iff_ne.mpr c81
        have c81b1 : (t119 != 0) = true := bne_iff_ne.mpr c81
        obtain rfl := Option.some.inj H
        go_wp2
        go_ret
        exact ⟨t5_, gb_ HB.out⟩
end Go.Proofs.YtnkndaapamenmaaGreat.P
set_option linter.unusedVariables false
set_option linter.unusedSimpArgs false
namespace Go.Proofs.YtnkndaapamenmaaGreat.Q
open Go.RowKit Go.Proofs.YtnkndaapamenmaaGreat.P Go.Proofs.YtnkndaapamenmaaGreatW.PrintWords CC
theorem rCode_nil {s c : List Int} (hs : isSp s = true) (hc : isC s c = true) : rCode s c [] = 0 := by
  unfold rCode
  rw [rWords_nil, if_pos hs, if_pos rfl, if_pos hc]
theorem rF1_of {s c : List Int} (hs : isSp s = true) (hc : isC s c = true) (hP : prd s ≤ 81) : rF1 s c = 0 := by
  unfold rF1
  rw [if_pos (rCode_nil hs hc), if_neg (by omega)]
theorem least_of {s c : List Int} (hs : isSp s = true) (hc : isC s c = true) (hP : prd s ≤ 81) : leastFR s c = (bestL s c, 0) := by
  obtain ⟨h1, h2, _⟩ := least_rel hs hc hP
  unfold leastFR
  rw [if_pos (rF1_of hs hc hP), selL_bits h1, h2]
  rfl
theorem count_of {s c : List Int} (hs : isSp s = true) (hc : isC s c = true) (hP : prd s ≤ 81) : countKR s c = (((keeps s c).length : Int), 0) := by
  unfold countKR
  rw [if_pos (rF1_of hs hc hP), count_rel hs hc hP, count_keeps hs hc]
theorem alike_of {s c d : List Int} (hs : isSp s = true) (hc : isC s c = true) (hd : isC s d = true) (hP : prd s ≤ 81) : alikeR s c d = (decide (bestL s c = bestL s d), 0) := by
  obtain ⟨g1, g2, _⟩ := least_rel hs hc hP
  obtain ⟨e1, e2, _⟩ := least_rel hs hd hP
  have key : (lo (allF stepL s c c) = lo (allF stepL s d d) ∧ hi (allF stepL s c c) = hi (allF stepL s d d)) ↔ ordL (allF stepL s c c) = ordL (allF stepL s d d) := by
    rw [lo_ordL g1, hi_ordL g1, lo_ordL e1, hi_ordL e1]
    exact set_eq (ordL_pw _) (ordL_pw _) (small_ordL g1) (small_ordL e1)
  have hz : rF2 s c d = 0 := by
    unfold rF2
    rw [if_pos (rCode_nil hs hc)]
    exact rF1_of hs hd hP
  unfold alikeR
  rw [show ordL (allF stepL s c c) = bestL s c from g2, show ordL (allF stepL s d d) = bestL s d from e2] at key
  rw [if_pos hz, ← Bool.decide_and, decide_eq_decide.2 key]
theorem shift_of {s c : List Int} (hs : isSp s = true) (hc : isC s c = true) {w : Int} (hw : isW s w = true) : rShift s c w = (img s c (upTo s.length, w), 0) := by
  have hz : rCode s c [w] = 0 := by
    unfold rCode rWords
    simp [hs, hc, hw]
  unfold rShift
  rw [if_pos hz]
  have e : c.map (shW s w) = c.map (act s (upTo s.length, w)) := List.map_congr_left (fun x hx => by
    rw [shW_eq hs]
    unfold act
    rw [plW_id hs (isC_words hc x hx)])
  rw [e]
  rfl
theorem forms_j4 {s a b : List Int} {al : Bool} (h : al = true → isSp s = true ∧ isC s a = true ∧ ∃ g, inG s g ∧ b = img s a g) : Ev (fun k => laws_FnForms.j4 k a b al s) true := by
  refine Ev.step (fun k => by simp only [laws_FnForms.j4]; exact rfl) ?_
  by_cases ha : al = true
  · obtain ⟨hs, hc, g, hg, rfl⟩ := h ha
    have hd := img_isC (c := a) hs g
    have h1 : countsR s a = (cout s a a.length, 0) := by
      unfold countsR
      rw [if_pos (rCode_nil hs hc)]
    have h2 : countsR s (img s a g) = (cout s a a.length, 0) := by
      unfold countsR
      rw [if_pos (rCode_nil hs hd), cout_img hs hc hg]
    have i1 := implDistanceCounts_eq s (c := a) (by have := isC_len hs hc; omega)
    have i2 := implDistanceCounts_eq s (c := img s a g) (by have := isC_len hs hd; omega)
    have hl := countsR_len s a
    rw [h1] at i1 hl
    rw [h2] at i2
    refine Ev.iff_pos ha (Ev.bindc i1 (Ev.bindc i2 (Ev.iff_pos rfl (Ev.iff_pos rfl ?_))))
    exact Ev.bind (likeInts_same hl) (Ev.now _)
  · exact Ev.iff_neg ha (Ev.now _)
theorem forms_j3 {s a b : List Int} (hs : isSp s = true) (hc : isC s a = true) (hP : prd s ≤ 81) : Ev (fun k => laws_FnForms.j3 k a b (alikeR s a b).1 (alikeR s a b).2 false s) true := by
  refine Ev.step (fun k => by simp only [laws_FnForms.j3]; exact rfl) ?_
  refine Ev.iff_neg (by simp) ?_
  by_cases hz : (alikeR s a b).2 = 0
  · refine Ev.iff_pos hz (forms_j4 fun ht => ?_)
    have hz2 : rF2 s a b = 0 := by
      unfold alikeR at hz
      by_cases h : rF2 s a b = 0
      · exact h
      · rw [if_neg h] at hz
        exact hz
    obtain ⟨_, hd, _⟩ := rCode_zero (rF1_zero (rF2_zero hz2).2).1
    rw [alike_of hs hc hd hP] at ht
    exact ⟨hs, hc, alike_img hs hc hd (of_decide_eq_true ht)⟩
  · exact Ev.iff_neg hz (forms_j4 fun h => by cases h)
theorem forms_j2 {s a b : List Int} (hs : isSp s = true) (hc : isC s a = true) (hP : prd s ≤ 81) : Ev (fun k => laws_FnForms.j2 k a b (alikeR s a b).1 (alikeR s a b).2 (bestL s a) (prd s) false s) true := by
  have hp := isSp_prd1 hs
  have hw : isW s (prd s - 1) = true := (isW_iff s _).2 (by omega)
  have hg : inG s (upTo s.length, prd s - 1) := ⟨upTo_kO s, hw⟩
  refine Ev.step (fun k => by simp only [laws_FnForms.j2]; exact rfl) ?_
  refine Ev.iff_neg (by simp) ?_
  have i1 := implShiftCode_ev s (c := a) (by have := isC_len hs hc; omega) (prd s - 1)
  rw [shift_of hs hc hw] at i1
  have hd := img_isC (c := a) hs (upTo s.length, prd s - 1)
  have i2 := implLeastForm_eq s (c := img s a (upTo s.length, prd s - 1)) (by have := isC_len hs hd; omega)
  rw [least_of hs hd hP, bestL_img hs hc hg] at i2
  rw [wrap_id (x := prd s - 1) (by omega) (by omega)]
  refine Ev.bind i1 (Ev.bindc i2 (Ev.iff_pos rfl (Ev.iff_pos rfl ?_)))
  have hl := leastFR_len s a
  rw [least_of hs hc hP] at hl
  exact Ev.bind (likeInts_same hl) (forms_j3 hs hc hP)
theorem forms_j1 {s a b : List Int} (ha : a.length ≤ 1048576) : Ev (fun k => laws_FnForms.j1 k a b (alikeR s a b).1 (alikeR s a b).2 (leastFR s a).1 (leastFR s a).2 (countKR s a).1 false s) true := by
  refine Ev.step (fun k => by simp only [laws_FnForms.j1]; exact rfl) ?_
  refine Ev.iff_neg (by simp) ?_
  by_cases hz : (leastFR s a).2 = 0
  · have hz1 : rF1 s a = 0 := by
      unfold leastFR at hz
      by_cases h : rF1 s a = 0
      · exact h
      · rw [if_neg h] at hz
        exact hz
    obtain ⟨hr, hP⟩ := rF1_zero hz1
    obtain ⟨hs, hc, _⟩ := rCode_zero hr
    have hp := isSp_prd1 hs
    have hl := leastFR_len s a
    rw [least_of hs hc hP] at hl ⊢
    rw [count_of hs hc hP]
    obtain ⟨⟨g, hg, eg⟩, _⟩ := bestL_spec hs hc
    have hd : isC s (bestL s a) = true := by rw [eg]; exact img_isC hs g
    have hlen : (bestL s a).length = a.length := by rw [eg]; exact img_len hs hc hg
    have hbb : bestL s (bestL s a) = bestL s a := by
      have := bestL_img hs hc hg
      rw [← eg] at this
      exact this
    have hkb : (keeps s (bestL s a)).length = (keeps s a).length := by
      have := keeps_img hs hc hg
      rw [← eg] at this
      exact this
    have i1 := implCountWords_ev s
    rw [show rCountWords s = (prd s, 0) from by unfold rCountWords; rw [if_pos hs]] at i1
    have i2 := implLeastForm_eq s (c := bestL s a) hl
    rw [least_of hs hd hP, hbb] at i2
    have i3 := implAreAlike_eq s (c := a) (d := bestL s a) ha hl
    rw [alike_of hs hc hd hP, hbb, decide_eq_true rfl] at i3
    have i4 := implCountKeeping_eq s (c := bestL s a) hl
    rw [count_of hs hd hP, hkb] at i4
    have k1 := keeps_pos hs hc
    have k2 := keeps_bound hs a
    refine Ev.iff_pos rfl (Ev.bind i1 (Ev.bindc i2 (Ev.bindc i3 (Ev.bindc i4 ?_))))
    refine Ev.iff_pos rfl (Ev.iff_pos rfl (Ev.iff_pos rfl (Ev.iff_pos rfl (Ev.bind (likeInts_same hl) (Ev.iff_pos rfl (Ev.iff_pos rfl (Ev.iff_pos rfl ?_)))))))
    refine Ev.iff_neg (by show ¬ (((keeps s a).length : Int) < 1); omega) ?_
    refine Ev.iff_pos (by show ((bestL s a).length : Int) = a.length; omega) ?_
    have hj := forms_j2 (b := b) hs hc hP
    by_cases h0 : 0 < a.length
    · refine Ev.iff_pos (by show (a.length : Int) > 0; omega) (Ev.iff_pos (by show (0 : Int) < (bestL s a).length; omega) (Ev.iff_pos (best_zero hs hc h0) ?_))
      have e : decide (((keeps s a).length : Int) > wrap64 (prd s * 40320)) = false := by
        rw [wrap_id (by omega) (by omega)]
        exact decide_eq_false (by omega)
      show Ev (fun k => laws_FnForms.j2 k a b (alikeR s a b).1 (alikeR s a b).2 (bestL s a) (prd s) (decide (((keeps s a).length : Int) > wrap64 (prd s * 40320))) s) true
      rw [e]
      exact hj
    · exact Ev.iff_neg (by show ¬ (a.length : Int) > 0; omega) hj
  · exact Ev.iff_neg hz (Ev.now _)
theorem forms_j0 {s a b : List Int} (ha : a.length ≤ 1048576) (hb : b.length ≤ 1048576) : Ev (fun k => laws_FnForms.j0 k a b (alikeR s a b).1 (alikeR s a b).2 (leastFR s a).1 (leastFR s a).2 (countKR s a).1 (togetherR s a b).1 (togetherR s a b).2 (commonR s a b).1 false s) true := by
  refine Ev.step (fun k => by simp only [laws_FnForms.j0]; exact rfl) ?_
  refine Ev.iff_neg (by simp) ?_
  by_cases hz : (togetherR s a b).2 = 0
  · refine Ev.iff_pos hz ?_
    have hz2 : rTwo s a b = 0 := by
      unfold togetherR at hz
      by_cases h : rTwo s a b = 0
      · exact h
      · rw [if_neg h] at hz
        exact hz
    obtain ⟨hs, hc, hd⟩ := rTwo_zero hz2
    have e1 : (togetherR s a b).1 = ordL (a ++ b) := by
      unfold togetherR
      rw [if_pos hz2, mappedL_id]
    have e2 : (commonR s a b).1 = a.filter (fun x => decide (x ∈ b)) := by
      unfold commonR
      rw [if_pos hz2]
    have h := together_common (pw_nodup (asc_pw (isC_asc hc))) (pw_nodup (asc_pw (isC_asc hd)))
    have e : (wrap64 (((togetherR s a b).1.length : Int) + ((commonR s a b).1.length : Int)) != wrap64 ((a.length : Int) + (b.length : Int))) = false := by
      rw [e1, e2, show ((ordL (a ++ b)).length : Int) + ((a.filter (fun x => decide (x ∈ b))).length : Int) = (a.length : Int) + (b.length : Int) from by omega]
      simp
    rw [e]
    exact forms_j1 ha
  · exact Ev.iff_neg hz (forms_j1 ha)
theorem FnForms (l0 : List Int) (m0 : l0.length ≤ maxLen) (b0 : l0.length * 1 ≤ 140737488351232) (w0 : ∀ x ∈ l0, (Lit.int .u8 x).wf = true) : ∃ k, laws_FnForms.f k l0 = some true := by
  have hb := bytes_in w0
  suffices h : Ev (fun k => laws_FnForms.f k l0) true by
    obtain ⟨N, h⟩ := h
    exact ⟨N, h N (Nat.le_refl _)⟩
  unfold laws_FnForms.f
  refine Ev.bindc rfl ?_
  by_cases hbig : (l0.length : Int) > 4096
  · refine Ev.iff_pos (decide_eq_true hbig) (Ev.now _)
  refine Ev.iff_neg (by simpa using hbig) ?_
  obtain ⟨s, a, b, e1, _, hA, hB⟩ := draw3_tot m0 hb
  refine Ev.bind (a := (s, a, b)) (by unfold spec_DrawAreAlike.f; exact Ev.bind e1 (Ev.now _)) ?_
  refine Ev.bindc (implAreAlike_eq s hA hB) (Ev.bind (specAreAlike_ev s hA hB) ?_)
  refine Ev.bindc (implLeastForm_eq s hA) (Ev.bind (specLeastForm_ev s hA) ?_)
  refine Ev.bindc (implCountKeeping_eq s hA) (Ev.bind (specCountKeeping_ev s hA) ?_)
  refine Ev.bindc (implCodesTogether_eq s hA hB) (Ev.bind (specCodesTogether_ev s hA hB) ?_)
  refine Ev.bindc (implCodesInCommon_eq s hA hB) (Ev.bind (specCodesInCommon_ev s hA hB) ?_)
  refine Ev.iff_pos rfl (Ev.iff_neg (by simp) (Ev.iff_pos rfl ?_))
  refine Ev.bind (likeInts_same (leastFR_len s a)) (Ev.iff_pos rfl (Ev.iff_pos rfl (Ev.iff_pos rfl (Ev.iff_pos rfl ?_))))
  have hT : (togetherR s a b).1.length ≤ 1048576 := by have := togetherR_len s a b; omega
  refine Ev.bind (likeInts_same hT) (Ev.iff_pos rfl (Ev.iff_pos rfl ?_))
  refine Ev.bind (likeInts_same (commonR_len s hA b)) ?_
  exact forms_j0 hA hB
end Go.Proofs.YtnkndaapamenmaaGreat.Q
