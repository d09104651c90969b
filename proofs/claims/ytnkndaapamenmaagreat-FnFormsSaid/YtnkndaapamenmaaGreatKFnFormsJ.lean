/- What the law FnForms needs, part 10: words, walks of functions (each says that a call returns what the plain Lean function beside it says), plain lemmas. -/
import Derived.Test.YtnkndaapamenmaaGreatKFnFormsI
import Derived.Lib.SliceRun
set_option linter.unusedVariables false
set_option linter.unusedSimpArgs false
namespace Go.Proofs.YtnkndaapamenmaaGreat.P
open Go.RowKit Go.Proofs.YtnkndaapamenmaaGreatW.PrintWords Go.Proofs.YtnkndaapamenmaaGreatW.PrintLast Go.Proofs.YtnkndaapamenmaaGreatW.PrintMore CC
set_option maxHeartbeats 4000000 in
set_option maxRecDepth 100000 in
theorem clone_calls (A : Option Addr) (c : Nat) (xs : List Int) (w : World) (hr : Kd.C (Kd.int .i64) w A xs.length xs) (hc : xs.length ≤ c) (hl : xs.length ≤ 1048576) :
    Calls Tryz.prog 39 #[.slice A xs.length c] w
      fun e w' => ∃ v, e = .returned v ∧ Kd.R (Kd.int .i64) 2 w' w.heap.size (fun _ => True) v xs ∧ Below w.heap.size w w' := by
  have HR := Aside0.mk hr
  clear hr
  have q22 : ∀ (w : World) (a : Option Addr) (n c n' c' : Nat), (binOp .eql 24 (.slice a n c) (.slice none n' c')).run Tryz.prog w = .ok (.bool a.isNone) w := fun w a n c n' c' => Lib.run_eql_slice_nil w _ _ a n c n' c' Tryz.underlying24
  cases A with
  | none =>
    have h0 : xs = [] := by
      cases xs with
      | nil => rfl
      | cons x l =>
        obtain ⟨ad1, e1, _⟩ := Kd.at_int HR.out (0 : Int) (by omega) (by simp)
        cases e1
    subst h0
    go_enter Tryz.func39, Tryz.ntmps39
    go_wp2
    go_ret
    exact ⟨_, rfl, Kd.R_nil _ _ _ _ _, Below.refl _ _⟩
  | some ad =>
    go_enter Tryz.func39, Tryz.ntmps39
    have HB := Aside0.mk (Below.refl w.heap.size w)
    go_wp2_with (first
      | ((with_reducible refine gate_dst (N := 5) rfl ?_); refine Kd.R_lit (Kd.int .i64) _ 2 ?hg (N := 5) ?hd (xs := ([] : List Int)) (inner := []) (ok := fun _ => True) (okp := fun _ => True) ?hr ?hp (fun _ hk => hk) trivial (Below.refl _ _) (Nat.le_refl _) (by simp) ?_; (case hd => rfl); (case hg => rfl); (case hr => first | (go_simp; done) | (go_simp; rfl)); (case hp => exact (Reps.none _ _)); intro v102 w3 ho4 hb hg_ hnew_; clear hg_ hnew_; have HO1 := Aside0.mk ho4; have HB1 := Aside0.mk hb; clear ho4 hb)
      | ((with_reducible refine gate_builtin (b := .append) (xs := #[.tmp 5, .tmp 6]) rfl ?_); at_builtin; refine Kd.R_append_rows (Kd.int .i64) (w0 := w) w.heap.size rfl (.tmp 5) (.tmp 6) 24 2 (.int .i64 0) 8 rfl Tryz.underlying24 infoI rfl (by decide) (by omega) v102 ([] : List Int) xs _ _ _ (fun _ => True) (fun _ => False) rfl rfl ?aO ?aR (fun _ _ h => h) (fun _ h => h.elim) ?aF ?aB ?aS ?aL ?_; (case aR => exact Kd.C_below HR.out HB1.out); (case aB => exact HB1.out); (case aF => exact (fun _ _ => trivial)); (case aO => exact HO1.out); (case aS => exact HB1.out.size); (case aL => simp; omega); intro v105 w5 ho hb hg hat; have HB2 := Aside0.mk hb; have HO2 := Aside0.mk ho; clear ho hb hg hat))
    go_ret
    exact ⟨_, rfl, by simpa using HO2.out, HB2.out⟩
theorem rd_setn (L : List Int) (k u : Nat) (v : Int) : rd (L.set k v) (u : Int) = if k = u ∧ k < L.length then v else rd L (u : Int) := by
  simp only [rd, Int.toNat_natCast, List.getD_eq_getElem?_getD, List.getElem?_set]
  by_cases h : k = u
  · subst h
    by_cases h2 : k < L.length
    · simp [h2]
    · simp [h2]
  · simp [h]
def setAll (L : List Int) : Nat → List Int → List Int
  | _, [] => L
  | o, v :: vs => setAll (L.set o v) (o + 1) vs
theorem setAll_length : ∀ (vs : List Int) (o : Nat) (L : List Int), (setAll L o vs).length = L.length
  | [], _, _ => rfl
  | v :: vs, o, L => by
    rw [setAll, setAll_length vs (o + 1)]
    simp
theorem setAll_take : ∀ (vs : List Int) (o : Nat) (L : List Int), (setAll L o vs).take o = L.take o
  | [], _, _ => rfl
  | v :: vs, o, L => by
    have ih := setAll_take vs (o + 1) (L.set o v)
    have h2 : ((setAll (L.set o v) (o + 1) vs).take (o + 1)).take o = ((L.set o v).take (o + 1)).take o := by rw [ih]
    rw [List.take_take, List.take_take, show min o (o + 1) = o by omega] at h2
    rw [setAll, h2, List.take_set, List.set_eq_of_length_le (by simp; omega)]
theorem own_setCells {b g n cap : Nat} : ∀ (vs : List Int) (o : Nat) {W : World} {L : List Int}, W.ownsRow b 2 1 (.slice (some ⟨g, 0, none⟩) n cap) n (nums .i64 L) →
    (W.setCells g o (nums .i64 vs)).ownsRow b 2 1 (.slice (some ⟨g, 0, none⟩) n cap) n (nums .i64 (setAll L o vs)) ∧ W.grownBy (W.setCells g o (nums .i64 vs)) (some g)
  | [], o, W, L, h => ⟨h, World.grownBy.refl _ _⟩
  | v :: vs, o, W, L, h => by
    have h1 := own_store h (o : Int) v
    rw [Int.toNat_natCast] at h1
    have h2 := own_setCells vs (o + 1) h1.1
    exact ⟨h2.1, h1.2.trans h2.2⟩
theorem grown_below {w W : World} (h : Below w.heap.size w W) (row : Option Nat) : w.grownBy W row := ⟨h.os, h.tape, h.output, h.size, fun k hk _ => h.block k hk⟩
theorem grown_drew {w W : World} {row : Option Nat} (h : w.grownBy W row) : w.grownBy W.drew row := ⟨h.os, h.tape, h.output, h.size, h.block⟩
theorem grown_drewN {w W : World} {row : Option Nat} (h : w.grownBy W row) (n : Nat) : w.grownBy (W.drewN n) row := ⟨h.os, h.tape, h.output, h.size, h.block⟩
theorem zeroI : ∀ w, (zeroValue 2).run Tryz.prog w = .ok (.int .i64 0) w := by
  obtain ⟨i0, hi, hz0, hz1, hz2⟩ := info_parts infoI
  intro w
  simp [zeroValue, typeInfo, hi, hz0]
def keptL (p : Int → Bool) (xs : List Int) (j : Nat) : List Int := (xs.take j).filter fun x => !p x
theorem keptL_succ (p : Int → Bool) (xs : List Int) {j : Nat} (h : j < xs.length) : keptL p xs (j + 1) = keptL p xs j ++ if p (rd xs (j : Int)) then [] else [rd xs (j : Int)] := by
  unfold keptL
  rw [take_rd8 h, List.filter_append]
  congr 1
  cases hp : p (rd xs (j : Int)) <;> simp [hp]
theorem keptL_all (p : Int → Bool) (xs : List Int) : ∀ j, j ≤ xs.length → (∀ i : Nat, i < j → p (rd xs (i : Int)) = false) → keptL p xs j = xs.take j
  | 0, _, _ => by simp [keptL]
  | j + 1, hj, h => by
    rw [keptL_succ p xs (by omega), keptL_all p xs j (by omega) (fun i hi => h i (by omega)), h j (by omega), take_rd8 (by omega)]
    simp
theorem keptL_end (p : Int → Bool) (xs : List Int) : keptL p xs xs.length = xs.filter fun x => !p x := by unfold keptL; rw [List.take_length]
structure Kept8 (p : Int → Bool) (xs : List Int) (j k : Nat) (L : List Int) : Prop where
  len : L.length = xs.length
  pre : L.take k = keptL p xs j
  cnt : k = (keptL p xs j).length
  lt : k < j
  post : ∀ u : Nat, j ≤ u → rd L (u : Int) = rd xs (u : Int)
theorem Kept8.start {p : Int → Bool} {xs : List Int} {m : Nat} (hm : m < xs.length) (h : ∀ i : Nat, i < m → p (rd xs (i : Int)) = false) (ht : p (rd xs (m : Int)) = true) : Kept8 p xs (m + 1) m xs := by
  have e : keptL p xs (m + 1) = xs.take m := by rw [keptL_succ p xs hm, keptL_all p xs m (by omega) h, ht]; simp
  exact ⟨rfl, e.symm, by rw [e, List.length_take]; omega, by omega, fun _ _ => rfl⟩
theorem Kept8.skip {p : Int → Bool} {xs L : List Int} {j k : Nat} (h : Kept8 p xs j k L) (hj : j < xs.length) (ht : p (rd xs (j : Int)) = true) : Kept8 p xs (j + 1) k L := by
  have e : keptL p xs (j + 1) = keptL p xs j := by rw [keptL_succ p xs hj, ht]; simp
  exact ⟨h.len, by rw [e]; exact h.pre, by rw [e]; exact h.cnt, by have := h.lt; omega, fun u hu => h.post u (by omega)⟩
theorem Kept8.keep {p : Int → Bool} {xs L : List Int} {j k : Nat} (h : Kept8 p xs j k L) (hj : j < xs.length) (ht : p (rd xs (j : Int)) = false) : Kept8 p xs (j + 1) (k + 1) (L.set k (rd xs (j : Int))) := by
  have e : keptL p xs (j + 1) = keptL p xs j ++ [rd xs (j : Int)] := by rw [keptL_succ p xs hj, ht]; simp
  have hl := h.lt
  have hn := h.len
  refine ⟨by simpa using h.len, ?_, by rw [e, List.length_append, ← h.cnt]; rfl, by omega, fun u hu => ?_⟩
  · rw [take_rd8 (by simp; omega), rd_setn, if_pos ⟨rfl, by omega⟩, e, ← h.pre, List.take_set, List.set_eq_of_length_le (by simp; omega)]
  · rw [rd_setn, if_neg (by omega)]
    exact h.post u (by omega)
set_option maxHeartbeats 8000000 in
set_option maxRecDepth 100000 in
theorem «CodesInCommon$1».delete_calls (P1 : Option Addr) (p : Int → Bool) (b : Nat) (A : Option Addr) (cap : Nat) (xs : List Int) (w : World) (ho : w.ownsRow b 2 1 (.slice A xs.length cap) xs.length (nums .i64 xs)) (hl : xs.length ≤ 1048576)
    (hf : ∀ (x : Int) (W : World), x ∈ xs → w.grownBy W (Value.slice A xs.length cap).ownBlock → Calls Tryz.prog 40 #[.int .i64 x, .pointer P1] W fun e w' => e = .returned (.bool (p x)) ∧ Below W.heap.size W w') :
    Calls Tryz.prog 38 #[.slice A xs.length cap, .func (Fn.func 40) #[] #[.pointer P1]] w
      fun e w' => ∃ v, e = .returned v ∧ Kd.R (Kd.int .i64) 2 w' b (fun _ => True) v (xs.filter fun x => !p x) ∧ w.grownBy w' (Value.slice A xs.length cap).ownBlock := by
  have hLI := Tryz.underlying24
  have hRR : Kd.R (Kd.int .i64) 2 w b (fun _ => True) (.slice A xs.length cap) xs := Kd.R_of_own ho (fun _ _ => trivial)
  have hRC := Kd.R_reads' hRR
  have HO := Aside0.mk ho
  have HF := Aside0.mk hf
  have HC := Aside0.mk hRC.2.2
  have hcap := hRC.2.1
  clear hf ho hRR hRC
  go_enter Tryz.func38, Tryz.ntmps38
  go_wp2_with fail
  refine («CodesInCommon$1».index_calls P1 p A cap xs _ HC.out hcap hl (fun x W hx hb => HF.out x W hx (grown_below hb _))).mono ?_
  rintro e w1 ⟨i, rfl, hi, hb⟩
  have HO1 := Aside0.mk (pw_own_below HO.out hb)
  have HG1 := Aside0.mk (grown_below hb (Value.slice A xs.length cap).ownBlock)
  clear hb HC
  rcases hi with ⟨rfl, hall⟩ | ⟨m, hm, rfl, hpre, hpm⟩
  · have HE : Aside0 ((xs.filter fun x => !p x) = xs) := ⟨by rw [← keptL_end, keptL_all p xs _ (Nat.le_refl _) (fun i hi => hall i hi), List.take_length]⟩
    clear hall
    go_wp2
    go_ret
    rw [HE.out]
    exact ⟨_, rfl, Kd.R_of_own HO1.out (fun _ _ => trivial), HG1.out⟩
  · obtain ⟨g, rfl⟩ : ∃ g, A = some ⟨g, 0, none⟩ := by
      rcases HO.out.2 with ⟨_, h⟩ | ⟨g, cap', _, h, _⟩
      · omega
      · injection h with h1 h2 h3
        exact ⟨g, h1⟩
    have HK := Aside0.mk (Kept8.start hm hpre hpm)
    have HEND := Aside0.mk (keptL_end p xs)
    have hne1 : ((m : Int) == -1) = false := beq_eq_false_iff_ne.2 (by omega)
    clear hpre hpm HO
    go_wp2_with fail
    go_loopw [5, 6, 7] (fun vi vj _ W => ∃ (k j : Nat) (L : List Int), j ≤ xs.length ∧ vi = .int .i64 k ∧ vj = .int .i64 j ∧ Aside0 (Kept8 p xs j k L) ∧ Aside0 (W.ownsRow b 2 1 (.slice (some ⟨g, 0, none⟩) xs.length cap) xs.length (nums .i64 L)) ∧ Aside0 (w.grownBy W (some g))) (fun _ vj _ _ => xs.length - (intOf vj).toNat)
    case atStart => exact ⟨m, m + 1, xs, by omega, rfl, by go_num, HK, HO1, HG1⟩
    case round =>
      clear HK HO1 HG1 hne1
      obtain ⟨k, j, L, hj, rfl, rfl, HK, HO, HG⟩ := hrel
      have hkj := HK.out.lt
      by_cases hlt : j < xs.length
      · obtain ⟨o1, o2⟩ := own_at HO.out (j : Int) (by omega) (by omega)
        rw [Int.toNat_natCast, HK.out.post j (Nat.le_refl _)] at o1
        rw [Int.toNat_natCast] at o2
        have HM := Aside0.mk (rd_mem hlt)
        have HK1 := Aside0.mk (fun h => HK.out.skip hlt h)
        have HK2 := Aside0.mk (fun h => HK.out.keep hlt h)
        obtain ⟨x, hxe⟩ : ∃ x, rd xs (j : Int) = x := ⟨_, rfl⟩
        rw [hxe] at o1 HM HK1 HK2
        clear hxe
        go_wp2_with fail
        refine (HF.out x _ HM.out (by first | exact HG.out | exact grown_drew HG.out | exact grown_drewN HG.out _)).mono ?_
        rintro e w2 ⟨rfl, hb2⟩
        have HG2 := Aside0.mk (World.grownBy.trans (by first | exact HG.out | exact grown_drew HG.out | exact grown_drewN HG.out _) (grown_below hb2 (some g)))
        have HO2 := Aside0.mk (pw_own_below (by first | exact HO.out | exact own_drew HO.out | exact pw_own_drewN HO.out _) hb2)
        clear hb2 o1 o2 HO HG
        cases hp : p x with
        | true =>
          have HK3 := Aside0.mk (HK1.out hp)
          clear hp HK1 HK2 HK
          go_wp2
          go_roundw
          case rel => exact ⟨k, j + 1, L, by omega, rfl, by go_num, HK3, HO2, HG2⟩
          case measure => simp [intOf]; omega
        | false =>
          have HK3 := Aside0.mk (HK2.out hp)
          clear hp HK1 HK2 HK
          obtain ⟨q1, q2⟩ := own_at HO2.out (k : Int) (by omega) (by omega)
          rw [Int.toNat_natCast] at q1 q2
          have hst := own_store HO2.out (k : Int) x
          rw [Int.toNat_natCast] at hst
          have HO3 := Aside0.mk hst.1
          have HG3 := Aside0.mk (HG2.out.trans hst.2)
          clear hst
          go_wp2
          go_roundw
          case rel => exact ⟨k + 1, j + 1, L.set k x, by omega, by go_num, by go_num, HK3, HO3, HG3⟩
          case measure => simp [intOf]; omega
      · obtain rfl : j = xs.length := by omega
        have hcl : ∀ ty, (Builtin.clear_ #[24] ty #[.slice (some ⟨g, k, none⟩) (xs.length - k) (cap - k)]).run Tryz.prog wr = .ok (.tuple #[]) (wr.setCells g k (List.replicate (xs.length - k) (.int .i64 0))) := fun ty =>
          Lib.run_clear_slice wr _ _ ty _ hLI zeroI rfl rfl g k _ _ (by omega) (fun t ht => by have := (own_at HO.out ((k + t : Nat) : Int) (by omega) (by omega)).1; rw [Int.toNat_natCast] at this; rw [this]; rfl) (fun t ht => by have := (own_at HO.out ((k + t : Nat) : Int) (by omega) (by omega)).2; rw [Int.toNat_natCast] at this; exact this)
        have hsc := own_setCells (List.replicate (xs.length - k) 0) k HO.out
        rw [show nums .i64 (List.replicate (xs.length - k) 0) = List.replicate (xs.length - k) (.int .i64 0) from by simp [nums]] at hsc
        have HO3 := Aside0.mk hsc.1
        have HG3 := Aside0.mk (HG.out.trans hsc.2)
        clear hsc
        go_wp2
        go_ret
        have hR : Kd.R (Kd.int .i64) 2 (wr.setCells g k (List.replicate (xs.length - k) (.int .i64 0))) b (fun _ => True) (.slice (some ⟨g, 0, none⟩) xs.length cap) (setAll L k (List.replicate (xs.length - k) 0)) :=
          Kd.R_of_own (by rw [setAll_length, HK.out.len]; exact HO3.out) (fun _ _ => trivial)
        have hR2 := Kd.R_take hR (m := k) (by rw [setAll_length, HK.out.len]; omega)
        rw [setAll_take, HK.out.pre, HEND.out] at hR2
        exact ⟨_, rfl, hR2, HG3.out⟩
end Go.Proofs.YtnkndaapamenmaaGreat.P
