/- A code mapped: what the program's mapped returns for each function that it is handed. -/
import Derived.Test.YtbhgnphdhkmliaaHSort
import Derived.FnLit
set_option linter.unusedVariables false
set_option linter.unusedSimpArgs false
namespace Go.Proofs.Ytbhgnphdhkmliaa.P
open Go.RowKit Go.Proofs.YtbhgnphdhkmliaaW.PrintWords Go.Proofs.YtbhgnphdhkmliaaW.PrintLast Go.Proofs.YtbhgnphdhkmliaaW.PrintMore CC

/-- What is made of a list's words, in order and without doubles. -/
def mappedL (f : Int → Int) (xs : List Int) : List Int := ordL (xs.map f)
theorem grown_belowM {w W : World} (h : Below w.heap.size w W) (row : Option Nat) : w.grownBy W row := ⟨h.os, h.tape, h.output, h.size, fun k hk _ => h.block k hk⟩
theorem rd_memM {l : List Int} {n : Nat} (h : n < l.length) : rd l (n : Int) ∈ l := by
  have : rd l (n : Int) = l[n] := by simp [rd, List.getD_eq_getElem?_getD, h]
  rw [this]
  exact List.getElem_mem h
theorem map_succ (f : Int → Int) {xs : List Int} {n : Nat} (h : n < xs.length) : (xs.take (n + 1)).map f = (xs.take n).map f ++ [f (rd xs (n : Int))] := by
  rw [take_rd8 h, List.map_append]
  rfl

set_option maxHeartbeats 4000000 in
set_option maxRecDepth 100000 in
theorem «AddSumPlace$1».mapped_calls (P1 P2 : Option Addr) (f : Int → Int) (A : Option Addr) (c : Nat) (xs : List Int) (w : World) (hr : Kd.C (Kd.int .i64) w A xs.length xs) (hc : xs.length ≤ c) (hl : xs.length ≤ 1048576)
    (hf : ∀ (x : Int) (W : World), x ∈ xs → Below w.heap.size w W → Calls Try.prog 46 #[.int .i64 x, .pointer P1, .pointer P2] W fun e w' => e = .returned (.int .i64 (f x)) ∧ Below W.heap.size W w') :
    Calls Try.prog 45 #[.slice A xs.length c, .func (Fn.func 46) #[] #[.pointer P1, .pointer P2]] w
      fun e w' => ∃ v, e = .returned v ∧ Kd.R (Kd.int .i64) 2 w' w.heap.size (fun _ => True) v (mappedL f xs) ∧ Below w.heap.size w w' := by
  have HR := Aside0.mk hr
  have HF := Aside0.mk hf
  clear hr hf
  obtain ⟨i0, hi, hz0, hz1, hz2⟩ := info_parts infoI
  have HI := Aside0.mk (And.intro hi (And.intro hz0 (And.intro hz1 hz2)))
  clear hi hz0 hz1 hz2
  go_enter Try.func45, Try.ntmps45
  go_wp2_with fail
  have hO : (w.alloc (.cells #[] 2)).ownsRow w.heap.size 2 1 (.slice (some ⟨w.heap.size, 0, none⟩) 0 0) 0 (nums .i64 ((xs.take 0).map f)) :=
    ⟨rfl, .inr ⟨w.heap.size, 0, #[], rfl, by omega, blk_new w (.cells #[] 2), by omega, by unfold maxLen; omega, rfl, rfl⟩⟩
  have hB : Below w.heap.size w (w.alloc (.cells #[] 2)) := (Below.refl _ _).alloc (Nat.le_refl _) _
  have HO := Aside0.mk hO
  have HB := Aside0.mk hB
  clear hO hB
  go_loopw [5, 11] (fun v i W => ∃ (n : Nat) (vo : Value), n ≤ xs.length ∧ vo = v ∧ i = .int .i64 n ∧ Aside0 (W.ownsRow w.heap.size 2 1 vo n (nums .i64 ((xs.take n).map f))) ∧ Aside0 (Below w.heap.size w W)) (fun _ i _ => xs.length - (intOf i).toNat)
  case atStart => exact ⟨0, _, by omega, rfl, rfl, HO, HB⟩
  case round =>
    clear HO HB
    obtain ⟨n, vo, hn, rfl, rfl, HO, HB⟩ := hrel
    by_cases hlt : n < xs.length
    · obtain ⟨ad1, e1, _⟩ := Kd.at_int HR.out (n : Int) (by omega) (by omega)
      subst e1
      have hx := rd_cell HR.out HB.out n hlt
      have HM := Aside0.mk (rd_memM hlt)
      have HL := Aside0.mk (map_succ f hlt)
      have hlen : ((xs.take n).map f).length ≤ n := by rw [List.length_map]; exact List.length_take_le _ _
      generalize rd xs (n : Int) = x at *
      go_wp2_with fail
      refine (HF.out x _ HM.out (by first | exact HB.out | exact below_drew HB.out | exact pw_below_drewN HB.out _)).mono ?_
      rintro e w2 ⟨rfl, hb2⟩
      have O2 := Aside0.mk (pw_own_below (by first | exact HO.out | exact own_drew HO.out | exact pw_own_drewN HO.out _) hb2)
      have B2 := Aside0.mk (below_then (by first | exact HB.out | exact below_drew HB.out | exact pw_below_drewN HB.out _) (by first | exact HB.out.size | exact (below_drew HB.out).size | exact (pw_below_drewN HB.out _).size) hb2)
      clear hb2 hx HO HB
      generalize f x = y at *
      go_wp2_with (at_builtin; obtain ⟨hi, hz0, hz1, hz2⟩ := HI.out; refine wpList_append_own _ rfl _ _ 22 rfl w.heap.size 2 i0 (.int .i64 0) 1 8 Try.underlying22 hi hz0 hz1 hz2 rfl (by decide) _ n (nums .i64 ((xs.take n).map f)) rfl (O2.out.alloc _) ⟨w2.heap.size, 0, none⟩ 1 1 [.int .i64 y] rfl ?c0 ?c1 ?c2 ?c3 ?c4 ?c5 ?_; clear hi hz0 hz1 hz2)
      case c0 => rfl
      case c1 =>
        intro j u hj
        have hb := blk_cell (blk_new w2 (.cells #[.int .i64 y] 2)) j
        rw [add_plain, hb]
        simpa using hj
      case c2 => intro u hu; simp only [List.mem_cons, List.not_mem_nil, or_false] at hu; rcases hu with rfl; rfl
      case c3 => unfold maxLen; omega
      case c4 => omega
      case c5 => have := B2.out.size; simp; omega
      intro v' w3 O3 G3 _
      have O4 : Aside0 (w3.ownsRow w.heap.size 2 1 v' (n + 1) (nums .i64 ((xs.take (n + 1)).map f))) := ⟨by rw [HL.out, nums_append, List.map_take]; exact O3⟩
      have B3 := Aside0.mk (pw_below_grown (below_alloc B2.out _) _ (by have := B2.out.size; simp; omega) G3 (fun k hk => own_base O2.out k hk))
      clear O3 G3 O2 B2
      go_wp2
      go_roundw
      case rel => exact ⟨n + 1, _, by omega, rfl, by go_num, O4, B3⟩
      case measure => simp [intOf]; omega
    · have hn2 : n = xs.length := by omega
      subst hn2
      have HT : Aside0 ((xs.take xs.length).map f = xs.map f) := ⟨by rw [List.take_length]⟩
      have hO := HO.out
      rw [HT.out] at hO
      obtain ⟨A2, c2, rfl⟩ := own_slice hO
      have HO2 := Aside0.mk hO
      clear hO HO HT
      go_wp2_with fail
      have hs := sort_calls w.heap.size A2 c2 (xs.map f) wr (by rw [List.length_map]; exact HO2.out) (by rw [List.length_map]; exact hl)
      rw [List.length_map] at hs
      refine hs.mono ?_
      rintro e w2 ⟨rfl, hO3, hG3⟩
      have HO3 := Aside0.mk hO3
      have HB3 := Aside0.mk (pw_below_grown HB.out _ HB.out.size hG3 (fun k hk => own_base HO2.out k hk))
      clear hs hO3 hG3 HB HO2
      go_wp2_with fail
      have hml : (msort (xs.map f)).length = xs.length := by rw [msort_length, List.length_map]
      have hc2 := compact_calls w.heap.size A2 c2 (msort (xs.map f)) w2 (by rw [hml]; exact HO3.out) (by rw [hml]; exact hl)
      rw [hml] at hc2
      refine hc2.mono ?_
      rintro e w3 ⟨v, rfl, hR, hG⟩
      have HR3 := Aside0.mk hR
      have HB4 := Aside0.mk (pw_below_grown HB3.out _ HB3.out.size hG (fun k hk => own_base HO3.out k hk))
      clear hc2 hR hG
      go_wp2
      go_ret
      exact ⟨_, rfl, HR3.out, HB4.out⟩
set_option maxHeartbeats 4000000 in
set_option maxRecDepth 100000 in
theorem «OrderPlaces$1».mapped_calls (P1 P2 P3 : Option Addr) (f : Int → Int) (A : Option Addr) (c : Nat) (xs : List Int) (w : World) (hr : Kd.C (Kd.int .i64) w A xs.length xs) (hc : xs.length ≤ c) (hl : xs.length ≤ 1048576)
    (hf : ∀ (x : Int) (W : World), x ∈ xs → Below w.heap.size w W → Calls Try.prog 53 #[.int .i64 x, .pointer P1, .pointer P2, .pointer P3] W fun e w' => e = .returned (.int .i64 (f x)) ∧ Below W.heap.size W w') :
    Calls Try.prog 45 #[.slice A xs.length c, .func (Fn.func 53) #[] #[.pointer P1, .pointer P2, .pointer P3]] w
      fun e w' => ∃ v, e = .returned v ∧ Kd.R (Kd.int .i64) 2 w' w.heap.size (fun _ => True) v (mappedL f xs) ∧ Below w.heap.size w w' := by
  have HR := Aside0.mk hr
  have HF := Aside0.mk hf
  clear hr hf
  obtain ⟨i0, hi, hz0, hz1, hz2⟩ := info_parts infoI
  have HI := Aside0.mk (And.intro hi (And.intro hz0 (And.intro hz1 hz2)))
  clear hi hz0 hz1 hz2
  go_enter Try.func45, Try.ntmps45
  go_wp2_with fail
  have hO : (w.alloc (.cells #[] 2)).ownsRow w.heap.size 2 1 (.slice (some ⟨w.heap.size, 0, none⟩) 0 0) 0 (nums .i64 ((xs.take 0).map f)) :=
    ⟨rfl, .inr ⟨w.heap.size, 0, #[], rfl, by omega, blk_new w (.cells #[] 2), by omega, by unfold maxLen; omega, rfl, rfl⟩⟩
  have hB : Below w.heap.size w (w.alloc (.cells #[] 2)) := (Below.refl _ _).alloc (Nat.le_refl _) _
  have HO := Aside0.mk hO
  have HB := Aside0.mk hB
  clear hO hB
  go_loopw [5, 11] (fun v i W => ∃ (n : Nat) (vo : Value), n ≤ xs.length ∧ vo = v ∧ i = .int .i64 n ∧ Aside0 (W.ownsRow w.heap.size 2 1 vo n (nums .i64 ((xs.take n).map f))) ∧ Aside0 (Below w.heap.size w W)) (fun _ i _ => xs.length - (intOf i).toNat)
  case atStart => exact ⟨0, _, by omega, rfl, rfl, HO, HB⟩
  case round =>
    clear HO HB
    obtain ⟨n, vo, hn, rfl, rfl, HO, HB⟩ := hrel
    by_cases hlt : n < xs.length
    · obtain ⟨ad1, e1, _⟩ := Kd.at_int HR.out (n : Int) (by omega) (by omega)
      subst e1
      have hx := rd_cell HR.out HB.out n hlt
      have HM := Aside0.mk (rd_memM hlt)
      have HL := Aside0.mk (map_succ f hlt)
      have hlen : ((xs.take n).map f).length ≤ n := by rw [List.length_map]; exact List.length_take_le _ _
      generalize rd xs (n : Int) = x at *
      go_wp2_with fail
      refine (HF.out x _ HM.out (by first | exact HB.out | exact below_drew HB.out | exact pw_below_drewN HB.out _)).mono ?_
      rintro e w2 ⟨rfl, hb2⟩
      have O2 := Aside0.mk (pw_own_below (by first | exact HO.out | exact own_drew HO.out | exact pw_own_drewN HO.out _) hb2)
      have B2 := Aside0.mk (below_then (by first | exact HB.out | exact below_drew HB.out | exact pw_below_drewN HB.out _) (by first | exact HB.out.size | exact (below_drew HB.out).size | exact (pw_below_drewN HB.out _).size) hb2)
      clear hb2 hx HO HB
      generalize f x = y at *
      go_wp2_with (at_builtin; obtain ⟨hi, hz0, hz1, hz2⟩ := HI.out; refine wpList_append_own _ rfl _ _ 22 rfl w.heap.size 2 i0 (.int .i64 0) 1 8 Try.underlying22 hi hz0 hz1 hz2 rfl (by decide) _ n (nums .i64 ((xs.take n).map f)) rfl (O2.out.alloc _) ⟨w2.heap.size, 0, none⟩ 1 1 [.int .i64 y] rfl ?c0 ?c1 ?c2 ?c3 ?c4 ?c5 ?_; clear hi hz0 hz1 hz2)
      case c0 => rfl
      case c1 =>
        intro j u hj
        have hb := blk_cell (blk_new w2 (.cells #[.int .i64 y] 2)) j
        rw [add_plain, hb]
        simpa using hj
      case c2 => intro u hu; simp only [List.mem_cons, List.not_mem_nil, or_false] at hu; rcases hu with rfl; rfl
      case c3 => unfold maxLen; omega
      case c4 => omega
      case c5 => have := B2.out.size; simp; omega
      intro v' w3 O3 G3 _
      have O4 : Aside0 (w3.ownsRow w.heap.size 2 1 v' (n + 1) (nums .i64 ((xs.take (n + 1)).map f))) := ⟨by rw [HL.out, nums_append, List.map_take]; exact O3⟩
      have B3 := Aside0.mk (pw_below_grown (below_alloc B2.out _) _ (by have := B2.out.size; simp; omega) G3 (fun k hk => own_base O2.out k hk))
      clear O3 G3 O2 B2
      go_wp2
      go_roundw
      case rel => exact ⟨n + 1, _, by omega, rfl, by go_num, O4, B3⟩
      case measure => simp [intOf]; omega
    · have hn2 : n = xs.length := by omega
      subst hn2
      have HT : Aside0 ((xs.take xs.length).map f = xs.map f) := ⟨by rw [List.take_length]⟩
      have hO := HO.out
      rw [HT.out] at hO
      obtain ⟨A2, c2, rfl⟩ := own_slice hO
      have HO2 := Aside0.mk hO
      clear hO HO HT
      go_wp2_with fail
      have hs := sort_calls w.heap.size A2 c2 (xs.map f) wr (by rw [List.length_map]; exact HO2.out) (by rw [List.length_map]; exact hl)
      rw [List.length_map] at hs
      refine hs.mono ?_
      rintro e w2 ⟨rfl, hO3, hG3⟩
      have HO3 := Aside0.mk hO3
      have HB3 := Aside0.mk (pw_below_grown HB.out _ HB.out.size hG3 (fun k hk => own_base HO2.out k hk))
      clear hs hO3 hG3 HB HO2
      go_wp2_with fail
      have hml : (msort (xs.map f)).length = xs.length := by rw [msort_length, List.length_map]
      have hc2 := compact_calls w.heap.size A2 c2 (msort (xs.map f)) w2 (by rw [hml]; exact HO3.out) (by rw [hml]; exact hl)
      rw [hml] at hc2
      refine hc2.mono ?_
      rintro e w3 ⟨v, rfl, hR, hG⟩
      have HR3 := Aside0.mk hR
      have HB4 := Aside0.mk (pw_below_grown HB3.out _ HB3.out.size hG (fun k hk => own_base HO3.out k hk))
      clear hc2 hR hG
      go_wp2
      go_ret
      exact ⟨_, rfl, HR3.out, HB4.out⟩
set_option maxHeartbeats 4000000 in
set_option maxRecDepth 100000 in
theorem «TakeOutPlace$1».mapped_calls (P1 P2 P3 : Option Addr) (f : Int → Int) (A : Option Addr) (c : Nat) (xs : List Int) (w : World) (hr : Kd.C (Kd.int .i64) w A xs.length xs) (hc : xs.length ≤ c) (hl : xs.length ≤ 1048576)
    (hf : ∀ (x : Int) (W : World), x ∈ xs → Below w.heap.size w W → Calls Try.prog 61 #[.int .i64 x, .pointer P1, .pointer P2, .pointer P3] W fun e w' => e = .returned (.int .i64 (f x)) ∧ Below W.heap.size W w') :
    Calls Try.prog 45 #[.slice A xs.length c, .func (Fn.func 61) #[] #[.pointer P1, .pointer P2, .pointer P3]] w
      fun e w' => ∃ v, e = .returned v ∧ Kd.R (Kd.int .i64) 2 w' w.heap.size (fun _ => True) v (mappedL f xs) ∧ Below w.heap.size w w' := by
  have HR := Aside0.mk hr
  have HF := Aside0.mk hf
  clear hr hf
  obtain ⟨i0, hi, hz0, hz1, hz2⟩ := info_parts infoI
  have HI := Aside0.mk (And.intro hi (And.intro hz0 (And.intro hz1 hz2)))
  clear hi hz0 hz1 hz2
  go_enter Try.func45, Try.ntmps45
  go_wp2_with fail
  have hO : (w.alloc (.cells #[] 2)).ownsRow w.heap.size 2 1 (.slice (some ⟨w.heap.size, 0, none⟩) 0 0) 0 (nums .i64 ((xs.take 0).map f)) :=
    ⟨rfl, .inr ⟨w.heap.size, 0, #[], rfl, by omega, blk_new w (.cells #[] 2), by omega, by unfold maxLen; omega, rfl, rfl⟩⟩
  have hB : Below w.heap.size w (w.alloc (.cells #[] 2)) := (Below.refl _ _).alloc (Nat.le_refl _) _
  have HO := Aside0.mk hO
  have HB := Aside0.mk hB
  clear hO hB
  go_loopw [5, 11] (fun v i W => ∃ (n : Nat) (vo : Value), n ≤ xs.length ∧ vo = v ∧ i = .int .i64 n ∧ Aside0 (W.ownsRow w.heap.size 2 1 vo n (nums .i64 ((xs.take n).map f))) ∧ Aside0 (Below w.heap.size w W)) (fun _ i _ => xs.length - (intOf i).toNat)
  case atStart => exact ⟨0, _, by omega, rfl, rfl, HO, HB⟩
  case round =>
    clear HO HB
    obtain ⟨n, vo, hn, rfl, rfl, HO, HB⟩ := hrel
    by_cases hlt : n < xs.length
    · obtain ⟨ad1, e1, _⟩ := Kd.at_int HR.out (n : Int) (by omega) (by omega)
      subst e1
      have hx := rd_cell HR.out HB.out n hlt
      have HM := Aside0.mk (rd_memM hlt)
      have HL := Aside0.mk (map_succ f hlt)
      have hlen : ((xs.take n).map f).length ≤ n := by rw [List.length_map]; exact List.length_take_le _ _
      generalize rd xs (n : Int) = x at *
      go_wp2_with fail
      refine (HF.out x _ HM.out (by first | exact HB.out | exact below_drew HB.out | exact pw_below_drewN HB.out _)).mono ?_
      rintro e w2 ⟨rfl, hb2⟩
      have O2 := Aside0.mk (pw_own_below (by first | exact HO.out | exact own_drew HO.out | exact pw_own_drewN HO.out _) hb2)
      have B2 := Aside0.mk (below_then (by first | exact HB.out | exact below_drew HB.out | exact pw_below_drewN HB.out _) (by first | exact HB.out.size | exact (below_drew HB.out).size | exact (pw_below_drewN HB.out _).size) hb2)
      clear hb2 hx HO HB
      generalize f x = y at *
      go_wp2_with (at_builtin; obtain ⟨hi, hz0, hz1, hz2⟩ := HI.out; refine wpList_append_own _ rfl _ _ 22 rfl w.heap.size 2 i0 (.int .i64 0) 1 8 Try.underlying22 hi hz0 hz1 hz2 rfl (by decide) _ n (nums .i64 ((xs.take n).map f)) rfl (O2.out.alloc _) ⟨w2.heap.size, 0, none⟩ 1 1 [.int .i64 y] rfl ?c0 ?c1 ?c2 ?c3 ?c4 ?c5 ?_; clear hi hz0 hz1 hz2)
      case c0 => rfl
      case c1 =>
        intro j u hj
        have hb := blk_cell (blk_new w2 (.cells #[.int .i64 y] 2)) j
        rw [add_plain, hb]
        simpa using hj
      case c2 => intro u hu; simp only [List.mem_cons, List.not_mem_nil, or_false] at hu; rcases hu with rfl; rfl
      case c3 => unfold maxLen; omega
      case c4 => omega
      case c5 => have := B2.out.size; simp; omega
      intro v' w3 O3 G3 _
      have O4 : Aside0 (w3.ownsRow w.heap.size 2 1 v' (n + 1) (nums .i64 ((xs.take (n + 1)).map f))) := ⟨by rw [HL.out, nums_append, List.map_take]; exact O3⟩
      have B3 := Aside0.mk (pw_below_grown (below_alloc B2.out _) _ (by have := B2.out.size; simp; omega) G3 (fun k hk => own_base O2.out k hk))
      clear O3 G3 O2 B2
      go_wp2
      go_roundw
      case rel => exact ⟨n + 1, _, by omega, rfl, by go_num, O4, B3⟩
      case measure => simp [intOf]; omega
    · have hn2 : n = xs.length := by omega
      subst hn2
      have HT : Aside0 ((xs.take xs.length).map f = xs.map f) := ⟨by rw [List.take_length]⟩
      have hO := HO.out
      rw [HT.out] at hO
      obtain ⟨A2, c2, rfl⟩ := own_slice hO
      have HO2 := Aside0.mk hO
      clear hO HO HT
      go_wp2_with fail
      have hs := sort_calls w.heap.size A2 c2 (xs.map f) wr (by rw [List.length_map]; exact HO2.out) (by rw [List.length_map]; exact hl)
      rw [List.length_map] at hs
      refine hs.mono ?_
      rintro e w2 ⟨rfl, hO3, hG3⟩
      have HO3 := Aside0.mk hO3
      have HB3 := Aside0.mk (pw_below_grown HB.out _ HB.out.size hG3 (fun k hk => own_base HO2.out k hk))
      clear hs hO3 hG3 HB HO2
      go_wp2_with fail
      have hml : (msort (xs.map f)).length = xs.length := by rw [msort_length, List.length_map]
      have hc2 := compact_calls w.heap.size A2 c2 (msort (xs.map f)) w2 (by rw [hml]; exact HO3.out) (by rw [hml]; exact hl)
      rw [hml] at hc2
      refine hc2.mono ?_
      rintro e w3 ⟨v, rfl, hR, hG⟩
      have HR3 := Aside0.mk hR
      have HB4 := Aside0.mk (pw_below_grown HB3.out _ HB3.out.size hG (fun k hk => own_base HO3.out k hk))
      clear hc2 hR hG
      go_wp2
      go_ret
      exact ⟨_, rfl, HR3.out, HB4.out⟩
set_option maxHeartbeats 4000000 in
set_option maxRecDepth 100000 in
theorem «KeepSign$2».mapped_calls (P1 P2 P3 : Option Addr) (f : Int → Int) (A : Option Addr) (c : Nat) (xs : List Int) (w : World) (hr : Kd.C (Kd.int .i64) w A xs.length xs) (hc : xs.length ≤ c) (hl : xs.length ≤ 1048576)
    (hf : ∀ (x : Int) (W : World), x ∈ xs → Below w.heap.size w W → Calls Try.prog 74 #[.int .i64 x, .pointer P1, .pointer P2, .pointer P3] W fun e w' => e = .returned (.int .i64 (f x)) ∧ Below W.heap.size W w') :
    Calls Try.prog 45 #[.slice A xs.length c, .func (Fn.func 74) #[] #[.pointer P1, .pointer P2, .pointer P3]] w
      fun e w' => ∃ v, e = .returned v ∧ Kd.R (Kd.int .i64) 2 w' w.heap.size (fun _ => True) v (mappedL f xs) ∧ Below w.heap.size w w' := by
  have HR := Aside0.mk hr
  have HF := Aside0.mk hf
  clear hr hf
  obtain ⟨i0, hi, hz0, hz1, hz2⟩ := info_parts infoI
  have HI := Aside0.mk (And.intro hi (And.intro hz0 (And.intro hz1 hz2)))
  clear hi hz0 hz1 hz2
  go_enter Try.func45, Try.ntmps45
  go_wp2_with fail
  have hO : (w.alloc (.cells #[] 2)).ownsRow w.heap.size 2 1 (.slice (some ⟨w.heap.size, 0, none⟩) 0 0) 0 (nums .i64 ((xs.take 0).map f)) :=
    ⟨rfl, .inr ⟨w.heap.size, 0, #[], rfl, by omega, blk_new w (.cells #[] 2), by omega, by unfold maxLen; omega, rfl, rfl⟩⟩
  have hB : Below w.heap.size w (w.alloc (.cells #[] 2)) := (Below.refl _ _).alloc (Nat.le_refl _) _
  have HO := Aside0.mk hO
  have HB := Aside0.mk hB
  clear hO hB
  go_loopw [5, 11] (fun v i W => ∃ (n : Nat) (vo : Value), n ≤ xs.length ∧ vo = v ∧ i = .int .i64 n ∧ Aside0 (W.ownsRow w.heap.size 2 1 vo n (nums .i64 ((xs.take n).map f))) ∧ Aside0 (Below w.heap.size w W)) (fun _ i _ => xs.length - (intOf i).toNat)
  case atStart => exact ⟨0, _, by omega, rfl, rfl, HO, HB⟩
  case round =>
    clear HO HB
    obtain ⟨n, vo, hn, rfl, rfl, HO, HB⟩ := hrel
    by_cases hlt : n < xs.length
    · obtain ⟨ad1, e1, _⟩ := Kd.at_int HR.out (n : Int) (by omega) (by omega)
      subst e1
      have hx := rd_cell HR.out HB.out n hlt
      have HM := Aside0.mk (rd_memM hlt)
      have HL := Aside0.mk (map_succ f hlt)
      have hlen : ((xs.take n).map f).length ≤ n := by rw [List.length_map]; exact List.length_take_le _ _
      generalize rd xs (n : Int) = x at *
      go_wp2_with fail
      refine (HF.out x _ HM.out (by first | exact HB.out | exact below_drew HB.out | exact pw_below_drewN HB.out _)).mono ?_
      rintro e w2 ⟨rfl, hb2⟩
      have O2 := Aside0.mk (pw_own_below (by first | exact HO.out | exact own_drew HO.out | exact pw_own_drewN HO.out _) hb2)
      have B2 := Aside0.mk (below_then (by first | exact HB.out | exact below_drew HB.out | exact pw_below_drewN HB.out _) (by first | exact HB.out.size | exact (below_drew HB.out).size | exact (pw_below_drewN HB.out _).size) hb2)
      clear hb2 hx HO HB
      generalize f x = y at *
      go_wp2_with (at_builtin; obtain ⟨hi, hz0, hz1, hz2⟩ := HI.out; refine wpList_append_own _ rfl _ _ 22 rfl w.heap.size 2 i0 (.int .i64 0) 1 8 Try.underlying22 hi hz0 hz1 hz2 rfl (by decide) _ n (nums .i64 ((xs.take n).map f)) rfl (O2.out.alloc _) ⟨w2.heap.size, 0, none⟩ 1 1 [.int .i64 y] rfl ?c0 ?c1 ?c2 ?c3 ?c4 ?c5 ?_; clear hi hz0 hz1 hz2)
      case c0 => rfl
      case c1 =>
        intro j u hj
        have hb := blk_cell (blk_new w2 (.cells #[.int .i64 y] 2)) j
        rw [add_plain, hb]
        simpa using hj
      case c2 => intro u hu; simp only [List.mem_cons, List.not_mem_nil, or_false] at hu; rcases hu with rfl; rfl
      case c3 => unfold maxLen; omega
      case c4 => omega
      case c5 => have := B2.out.size; simp; omega
      intro v' w3 O3 G3 _
      have O4 : Aside0 (w3.ownsRow w.heap.size 2 1 v' (n + 1) (nums .i64 ((xs.take (n + 1)).map f))) := ⟨by rw [HL.out, nums_append, List.map_take]; exact O3⟩
      have B3 := Aside0.mk (pw_below_grown (below_alloc B2.out _) _ (by have := B2.out.size; simp; omega) G3 (fun k hk => own_base O2.out k hk))
      clear O3 G3 O2 B2
      go_wp2
      go_roundw
      case rel => exact ⟨n + 1, _, by omega, rfl, by go_num, O4, B3⟩
      case measure => simp [intOf]; omega
    · have hn2 : n = xs.length := by omega
      subst hn2
      have HT : Aside0 ((xs.take xs.length).map f = xs.map f) := ⟨by rw [List.take_length]⟩
      have hO := HO.out
      rw [HT.out] at hO
      obtain ⟨A2, c2, rfl⟩ := own_slice hO
      have HO2 := Aside0.mk hO
      clear hO HO HT
      go_wp2_with fail
      have hs := sort_calls w.heap.size A2 c2 (xs.map f) wr (by rw [List.length_map]; exact HO2.out) (by rw [List.length_map]; exact hl)
      rw [List.length_map] at hs
      refine hs.mono ?_
      rintro e w2 ⟨rfl, hO3, hG3⟩
      have HO3 := Aside0.mk hO3
      have HB3 := Aside0.mk (pw_below_grown HB.out _ HB.out.size hG3 (fun k hk => own_base HO2.out k hk))
      clear hs hO3 hG3 HB HO2
      go_wp2_with fail
      have hml : (msort (xs.map f)).length = xs.length := by rw [msort_length, List.length_map]
      have hc2 := compact_calls w.heap.size A2 c2 (msort (xs.map f)) w2 (by rw [hml]; exact HO3.out) (by rw [hml]; exact hl)
      rw [hml] at hc2
      refine hc2.mono ?_
      rintro e w3 ⟨v, rfl, hR, hG⟩
      have HR3 := Aside0.mk hR
      have HB4 := Aside0.mk (pw_below_grown HB3.out _ HB3.out.size hG (fun k hk => own_base HO3.out k hk))
      clear hc2 hR hG
      go_wp2
      go_ret
      exact ⟨_, rfl, HR3.out, HB4.out⟩
end Go.Proofs.Ytbhgnphdhkmliaa.P
