/- What the law FnNearest needs, part 11: words, walks of functions (each says that a call returns what the plain Lean function beside it says), plain lemmas. -/
import Derived.Test.YtlfipjdjmpdblaaKFnNearestJ
import Derived.OpenShut
set_option linter.unusedVariables false
namespace Go.Proofs.Ytlfipjdjmpdblaa.Q
open Go.RowKit Go.Proofs.Ytlfipjdjmpdblaa.P Go.Proofs.YtlfipjdjmpdblaaW.PrintWords CC
theorem Ev.iff_pos {α : Type} {c : Prop} [Decidable c] {A B : Nat → Option α} {r : α} (h : c) (k : Ev A r) : Ev (fun n => if c then A n else B n) r := by
  simpa [h] using k
theorem Ev.iff_neg {α : Type} {c : Prop} [Decidable c] {A B : Nat → Option α} {r : α} (h : ¬ c) (k : Ev B r) : Ev (fun n => if c then A n else B n) r := by
  simpa [h] using k
theorem Ev.bindc {α β : Type} {g : Option α} {f : Nat → α → Option β} {a : α} {r : β} (h : g = some a) (k : Ev (fun n => f n a) r) : Ev (fun n => g.bind (f n)) r := by
  simpa [h] using k
theorem wrap_nat {n : Nat} (h : n < maxLen) : wrap64 ((n : Int) + 1) = ((n + 1 : Nat) : Int) := by
  unfold maxLen at h
  unfold wrap64
  omega
theorem rd_nat (s : List Int) (n : Nat) : rd s (n : Int) = s.getD n 0 := by simp [rd]
theorem drop_cons (s : List Int) {n : Nat} (h : n < s.length) : s.drop n = rd s (n : Int) :: s.drop (n + 1) := by
  rw [List.drop_eq_getElem_cons h, rd_nat]
  simp [List.getD_eq_getElem?_getD, h]
theorem drop_all {s : List Int} {n : Nat} (h : s.length ≤ n) : s.drop n = [] := List.drop_eq_nil_of_le h
theorem l01In_eq (a b c : Int) : spec_l01In.f a b c = some (decide (b ≤ a ∧ a ≤ c)) := by
  unfold spec_l01In.f
  by_cases h : a ≥ b
  · rw [if_pos h]
    simp [show b ≤ a from h]
  · rw [if_neg h]
    simp
    omega
theorem l01N_l (s : List Int) (hs : s.length < maxLen) : ∀ (d n : Nat) (x : Int), n + d = s.length → Ev (fun k => spec_l01N.l0 k x (n : Int) s) (prw x (s.drop n))
  | 0, n, x, hd => by
    refine Ev.step (f := fun _ => some x) (fun k => ?_) ?_
    · simp only [spec_l01N.l0]
      rw [if_neg (by omega)]
    · rw [drop_all (by omega)]
      exact Ev.now x
  | d + 1, n, x, hd => by
    refine Ev.step (f := fun k => spec_l01N.l0 k (wrap64 (x * rd s (n : Int))) ((n + 1 : Nat) : Int) s) (fun k => ?_) ?_
    · simp only [spec_l01N.l0]
      rw [if_pos (by omega), if_pos (by omega), wrap_nat (by omega)]
    · have := l01N_l s hs d (n + 1) (wrap64 (x * rd s (n : Int))) (by omega)
      rw [drop_cons s (by omega)]
      exact this
theorem l01N_ev (s : List Int) (hs : s.length < maxLen) : Ev (fun k => spec_l01N.f k s) (prw 1 s) := by
  unfold spec_l01N.f
  simpa using l01N_l s hs s.length 0 1 (by omega)
theorem l01N_sp {s : List Int} (h : isSp s = true) : Ev (fun k => spec_l01N.f k s) (prd s) := by
  have := l01N_ev s (by have := isSp_len h; unfold maxLen; omega)
  rwa [prw_one (isSp_len h) (isSp_all h)] at this
theorem l01Is_l (s : List Int) (hs : s.length ≤ 8) : ∀ (d n : Nat), n + d = s.length → (s.take n).all sizeOk = true → Ev (fun k => spec_l01Is.l0 k (n : Int) s) (s.all sizeOk && decide (prd s ≤ 1024))
  | 0, n, hd, ht => by
    rw [List.take_of_length_le (by omega)] at ht
    refine Ev.step (f := fun k => (spec_l01N.f k s).bind fun t109 => (some (decide (t109 ≤ 1024)))) (fun k => ?_) ?_
    · simp only [spec_l01Is.l0]
      rw [if_neg (by omega)]
    · have := l01N_ev s (by unfold maxLen; omega)
      rw [prw_one hs ht] at this
      refine Ev.bind this ?_
      rw [ht, Bool.true_and]
      exact Ev.now _
  | d + 1, n, hd, ht => by
    have hn : n < s.length := by omega
    have hal : s.all sizeOk = ((s.take n).all sizeOk && (sizeOk (rd s (n : Int)) && (s.drop (n + 1)).all sizeOk)) := by
      conv => lhs; rw [← List.take_append_drop n s, List.all_append, drop_cons s hn, List.all_cons]
    by_cases hq : sizeOk (rd s (n : Int)) = true
    · refine Ev.step (f := fun k => spec_l01Is.l0 k ((n + 1 : Nat) : Int) s) (fun k => ?_) (l01Is_l s hs d (n + 1) (by omega) ?_)
      · have hq' := (sizeOk_iff _).1 hq
        simp only [spec_l01Is.l0]
        rw [if_pos (by omega), if_pos (by omega), l01In_eq, Option.bind_some, wrap_nat (by unfold maxLen; omega), if_pos (by simp; omega)]
      · rw [List.take_add_one, List.all_append, ht]
        rw [rd_nat] at hq
        simp only [List.getD_eq_getElem?_getD, List.getElem?_eq_getElem hn, Option.getD_some] at hq
        simp [List.getElem?_eq_getElem hn, hq]
    · refine Ev.step (f := fun _ => some false) (fun k => ?_) ?_
      · have hq' : ¬ (rd s (n : Int) = 2 ∨ rd s (n : Int) = 3 ∨ rd s (n : Int) = 4) := fun z => hq ((sizeOk_iff _).2 z)
        simp only [spec_l01Is.l0]
        rw [if_pos (by omega), if_pos (by omega), l01In_eq, Option.bind_some, if_neg (by simp; omega)]
      · rw [hal, ht]
        simp only [Bool.not_eq_true] at hq
        rw [hq]
        exact Ev.now false
theorem l01Is_ev (s : List Int) : Ev (fun k => spec_l01Is.f k s) (isSp s) := by
  unfold spec_l01Is.f
  refine Ev.bindc (l01In_eq _ _ _) ?_
  by_cases h : 1 ≤ s.length ∧ s.length ≤ 8
  · refine Ev.iff_pos (by simp; omega) ?_
    have := l01Is_l s h.2 s.length 0 (by omega) (by simp)
    unfold isSp
    simpa [h.1, h.2] using this
  · refine Ev.iff_neg (by simp; omega) ?_
    have : isSp s = false := by
      unfold isSp
      rcases Nat.lt_or_ge s.length 1 with h1 | h1
      · have : ¬ 1 ≤ s.length := by omega
        simp [this]
      · have : ¬ s.length ≤ 8 := by omega
        simp [this]
    rw [this]
    exact Ev.now false
theorem isSpace_l (s : List Int) (hs : s.length ≤ 8) : ∀ (d n : Nat) (x : Int), n + d = s.length → (s.take n).all sizeOk = true → 0 ≤ x → x ≤ 4 ^ n → Ev (fun k => impl_IsSpace.l0 k x s (s.length : Int) (n : Int)) ((s.drop n).all sizeOk && decide (x * prd (s.drop n) ≤ 1024))
  | 0, n, x, hd, ht, h0, hx => by
    refine Ev.step (f := fun _ => some (decide (x ≤ 1024))) (fun k => ?_) ?_
    · simp only [impl_IsSpace.l0]
      rw [if_neg (by omega)]
    · rw [drop_all (by omega)]
      simpa [prd] using Ev.now (decide (x ≤ 1024))
  | d + 1, n, x, hd, ht, h0, hx => by
    have hn : n < s.length := by omega
    rw [drop_cons s hn]
    by_cases hq : sizeOk (rd s (n : Int)) = true
    · have hq' := (sizeOk_iff _).1 hq
      have hb := pow48 (m := n + 1) (by omega)
      have hx2 : x * rd s (n : Int) ≤ 4 ^ (n + 1) := by
        rw [Int.pow_succ]
        rcases hq' with e | e | e <;> rw [e] <;> omega
      have hx0 : 0 ≤ x * rd s (n : Int) := by rcases hq' with e | e | e <;> rw [e] <;> omega
      refine Ev.step (f := fun k => impl_IsSpace.l0 k (x * rd s (n : Int)) s (s.length : Int) ((n + 1 : Nat) : Int)) (fun k => ?_) ?_
      · simp only [impl_IsSpace.l0]
        rw [if_pos (by omega), if_pos (by omega), if_pos (by omega), if_neg (by omega), if_neg (by omega), wrap_nat (by unfold maxLen; omega), wrap_id (by omega) (by omega)]
      · have := isSpace_l s hs d (n + 1) (x * rd s (n : Int)) (by omega) ?_ hx0 hx2
        · have e : ((rd s (n : Int) :: s.drop (n + 1)).all sizeOk && decide (x * prd (rd s (n : Int) :: s.drop (n + 1)) ≤ 1024)) = ((s.drop (n + 1)).all sizeOk && decide (x * rd s (n : Int) * prd (s.drop (n + 1)) ≤ 1024)) := by rw [List.all_cons, hq, Bool.true_and, prd, ← Int.mul_assoc]
          rw [e]
          exact this
        · rw [List.take_add_one, List.all_append, ht]
          rw [rd_nat] at hq
          simp only [List.getD_eq_getElem?_getD, List.getElem?_eq_getElem hn, Option.getD_some] at hq
          simp [List.getElem?_eq_getElem hn, hq]
    · have hq' : ¬ (rd s (n : Int) = 2 ∨ rd s (n : Int) = 3 ∨ rd s (n : Int) = 4) := fun z => hq ((sizeOk_iff _).2 z)
      simp only [Bool.not_eq_true] at hq
      refine Ev.step (f := fun _ => some false) (fun k => ?_) ?_
      · simp only [impl_IsSpace.l0]
        rw [if_pos (by omega), if_pos (by omega), if_pos (by omega)]
        by_cases h2 : rd s (n : Int) < 2
        · rw [if_pos h2]
        · rw [if_neg h2, if_pos (by omega)]
      · simp only [List.all_cons, hq, Bool.false_and]
        exact Ev.now false
theorem isSpace_ev (s : List Int) : Ev (fun k => impl_IsSpace.f k s) (isSp s) := by
  unfold impl_IsSpace.f
  by_cases h1 : s.length < 1
  · refine Ev.iff_pos (by omega) ?_
    refine Ev.step (f := fun _ => some false) (fun k => by simp [impl_IsSpace.j0]) ?_
    have : isSp s = false := by
      have : ¬ 1 ≤ s.length := by omega
      simp [isSp, this]
    rw [this]
    exact Ev.now false
  · refine Ev.iff_neg (by omega) ?_
    by_cases h2 : s.length ≤ 8
    · refine Ev.step (f := fun k => impl_IsSpace.l0 k 1 s (s.length : Int) ((0 : Nat) : Int)) (fun k => ?_) ?_
      · simp only [impl_IsSpace.j0]
        rw [if_neg (by simp; omega)]
        rfl
      · have := isSpace_l s h2 s.length 0 1 (by omega) (by simp) (by omega) (by simp)
        have e1 : 1 ≤ s.length := by omega
        simpa [isSp, e1, h2] using this
    · refine Ev.step (f := fun _ => some false) (fun k => ?_) ?_
      · simp only [impl_IsSpace.j0]
        rw [if_pos (by simp; omega)]
      · have : isSp s = false := by simp [isSp, h2]
        rw [this]
        exact Ev.now false
theorem count_l (s : List Int) (hs : s.length < maxLen) : ∀ (d n : Nat) (x : Int), n + d = s.length → Ev (fun k => impl_count.l0 k x s (s.length : Int) (n : Int)) (prw x (s.drop n))
  | 0, n, x, hd => by
    refine Ev.step (f := fun _ => some x) (fun k => ?_) ?_
    · simp only [impl_count.l0]
      rw [if_neg (by omega)]
    · rw [drop_all (by omega)]
      exact Ev.now x
  | d + 1, n, x, hd => by
    refine Ev.step (f := fun k => impl_count.l0 k (wrap64 (x * rd s (n : Int))) s (s.length : Int) ((n + 1 : Nat) : Int)) (fun k => ?_) ?_
    · simp only [impl_count.l0]
      rw [if_pos (by omega), if_pos (by omega), if_pos (by omega), wrap_nat (by omega)]
    · have := count_l s hs d (n + 1) (wrap64 (x * rd s (n : Int))) (by omega)
      rw [drop_cons s (by omega)]
      exact this
theorem count_sp {s : List Int} (h : isSp s = true) : Ev (fun k => impl_count.f k s) (prd s) := by
  unfold impl_count.f
  have := count_l s (by have := isSp_len h; unfold maxLen; omega) s.length 0 1 (by omega)
  rw [List.drop_zero, prw_one (isSp_len h) (isSp_all h)] at this
  exact this
end Go.Proofs.Ytlfipjdjmpdblaa.Q
set_option linter.unusedVariables false
set_option linter.unusedSimpArgs false
namespace Go.Proofs.Ytlfipjdjmpdblaa.Q
open Go.RowKit Go.Proofs.Ytlfipjdjmpdblaa.P Go.Proofs.YtlfipjdjmpdblaaW.PrintWords CC
theorem isW_in {s : List Int} (h : isSp s = true) (x : Int) : spec_l01In.f x 0 (wrap64 (prd s - 1)) = some (isW s x) := by
  have h1 := isSp_prd h
  have h2 := isSp_prd1 h
  rw [l01In_eq, wrap_id (by omega) (by omega)]
  unfold isW
  congr 1
  rw [← Bool.decide_and]
  exact decide_eq_decide.2 (by omega)
theorem areWords_l {s c : List Int} (hc : c.length ≤ 1048576) : ∀ (m n : Nat), n + m = c.length →
    Ev (fun k => impl_areWords.l0 k (prd s) c (c.length : Int) (n : Int)) ((c.drop n).all (isW s))
  | 0, n, hm => by
    rw [drop_all (by omega)]
    refine Ev.step (f := fun k => some true) (fun k => ?_) (Ev.now _)
    simp only [impl_areWords.l0]
    rw [if_neg (by omega)]
  | m + 1, n, hm => by
    have hn : n < c.length := by omega
    rw [drop_cons c hn, List.all_cons]
    by_cases h0 : rd c (n : Int) < 0
    · have : isW s (rd c (n : Int)) = false := by simp [isW]; omega
      rw [this, Bool.false_and]
      refine Ev.step (f := fun k => some false) (fun k => ?_) (Ev.now _)
      simp only [impl_areWords.l0]
      rw [if_pos (by omega), if_pos (by omega), if_pos (by omega), if_pos h0]
    by_cases h1 : rd c (n : Int) ≥ prd s
    · have : isW s (rd c (n : Int)) = false := by simp [isW]; omega
      rw [this, Bool.false_and]
      refine Ev.step (f := fun k => some false) (fun k => ?_) (Ev.now _)
      simp only [impl_areWords.l0]
      rw [if_pos (by omega), if_pos (by omega), if_pos (by omega), if_neg h0, if_pos h1]
    · have : isW s (rd c (n : Int)) = true := by simp [isW]; omega
      rw [this, Bool.true_and]
      refine Ev.step (f := fun k => impl_areWords.l0 k (prd s) c (c.length : Int) ((n + 1 : Nat) : Int)) (fun k => ?_) (areWords_l hc m (n + 1) (by omega))
      simp only [impl_areWords.l0]
      rw [if_pos (by omega), if_pos (by omega), if_pos (by omega), if_neg h0, if_neg h1, wrap_nat (by unfold maxLen; omega)]
theorem areWords_ev {s c : List Int} (hs : isSp s = true) (hc : c.length ≤ 1048576) : Ev (fun k => impl_areWords.f k s c) (c.all (isW s)) := by
  unfold impl_areWords.f
  refine Ev.bind (count_sp hs) ?_
  simpa using areWords_l (s := s) hc c.length 0 (by omega)
def rWords (s c : List Int) : Int := if isSp s then if c.all (isW s) then 0 else 2 else 1
theorem rWords_zero {s c : List Int} (h : rWords s c = 0) : isSp s = true ∧ ∀ x ∈ c, isW s x = true := by
  unfold rWords at h
  split at h
  · rename_i hs
    split at h
    · rename_i hc
      exact ⟨hs, List.all_eq_true.1 hc⟩
    · cases h
  · cases h
theorem wordCode_ev (s : List Int) {c : List Int} (hc : c.length ≤ 1048576) : Ev (fun k => impl_wordCode.f k s c) (rWords s c) := by
  unfold impl_wordCode.f rWords
  refine Ev.bind (isSpace_ev s) ?_
  by_cases h : isSp s = true
  · simp only [h, if_true]
    refine Ev.bind (areWords_ev h hc) ?_
    by_cases h2 : c.all (isW s) = true
    · simp only [h2, if_true]
      exact Ev.now _
    · simp only [h2, if_false]
      exact Ev.now _
  · simp only [h, if_false]
    exact Ev.now _
end Go.Proofs.Ytlfipjdjmpdblaa.Q
set_option linter.unusedVariables false
set_option linter.unusedSimpArgs false
namespace Go.Proofs.Ytlfipjdjmpdblaa.Q
open Go.RowKit Go.Proofs.Ytlfipjdjmpdblaa.P Go.Proofs.YtlfipjdjmpdblaaW.PrintWords CC
theorem all_rd {s : List Int} (h : s.all sizeOk = true) {n : Nat} (hn : n < s.length) : rd s (n : Int) = 2 ∨ rd s (n : Int) = 3 ∨ rd s (n : Int) = 4 := by
  rw [← sizeOk_iff, rd_nat]
  simp only [List.getD_eq_getElem?_getD, List.getElem?_eq_getElem hn, Option.getD_some]
  exact List.all_eq_true.1 h _ (List.getElem_mem hn)
theorem tmod_pos {x q : Int} (h : 0 ≤ x) : Int.tmod x q = x % q := Int.tmod_eq_emod_of_nonneg h
theorem tdiv_pos {x q : Int} (h : 0 ≤ x) (hq : 0 ≤ q) : Int.tdiv x q = x / q := Int.tdiv_eq_ediv_of_nonneg h
theorem div_bounds {x q : Int} (h0 : 0 ≤ x) (h1 : x ≤ 1024) (hq : q = 2 ∨ q = 3 ∨ q = 4) : 0 ≤ x / q ∧ x / q ≤ 1024 ∧ wrap64 (Int.tdiv x q) = x / q ∧ Int.tmod x q = x % q := by
  have h2 : 0 ≤ x / q ∧ x / q ≤ 1024 := by rcases hq with rfl | rfl | rfl <;> omega
  refine ⟨h2.1, h2.2, ?_, tmod_pos h0⟩
  rw [tdiv_pos h0 (by omega), wrap_id (by omega) (by omega)]
theorem pred_nat (n : Nat) (h : n ≤ 100) : wrap64 (((n : Nat) : Int) - 1) = (n : Int) - 1 := wrap_id (by omega) (by omega)
theorem isW_b {s : List Int} (hs : isSp s = true) {x : Int} (h : isW s x = true) : 0 ≤ x ∧ x ≤ 1024 := by
  have h1 := (isW_iff s x).1 h
  have h2 := isSp_prd hs
  omega
end Go.Proofs.Ytlfipjdjmpdblaa.Q
set_option linter.unusedVariables false
set_option linter.unusedSimpArgs false
namespace Go.Proofs.Ytlfipjdjmpdblaa.P
open Go.RowKit Go.Proofs.YtlfipjdjmpdblaaW.PrintWords Go.Proofs.YtlfipjdjmpdblaaW.PrintLast Go.Proofs.YtlfipjdjmpdblaaW.PrintMore CC
def fq (s C : List Int) (d : List Int) (n : Nat) : Int := (C.take n).foldl (fun a x => mn a (ham d (dig8 s x))) 8
theorem fq_succ (s C d : List Int) {n : Nat} (h : n < C.length) : fq s C d (n + 1) = mn (fq s C d n) (ham d (dig8 s (rd C (n : Int)))) := by
  unfold fq
  rw [take_rdO h, List.foldl_append]
  rfl
def farL (s C : List Int) (P : Nat) : List Int := (List.range P).map fun (u : Nat) => fq s C (dig8 s (u : Int)) C.length
theorem farL_succ (s C : List Int) (P : Nat) : farL s C (P + 1) = farL s C P ++ [fq s C (dig8 s (P : Int)) C.length] := by simp [farL, List.range_succ]
set_option maxHeartbeats 16000000 in
set_option maxRecDepth 100000 in
theorem farness_calls (A : Option Addr) (c : Nat) (s : List Int) (A1 : Option Addr) (c1 : Nat) (C : List Int) (w : World) (hr : Kd.C (Kd.int .i64) w A s.length s) (hc : s.length ≤ c) (hr1 : Kd.C (Kd.int .i64) w A1 C.length C) (hc1 : C.length ≤ c1) (hs : isSp s = true) (hC : C.all (isW s) = true) (hCl : C.length ≤ 1048576) (hCp : 1 ≤ C.length) :
    Calls Try.prog 91 #[.agg #[.slice A s.length c], .slice A1 C.length c1] w
      fun e w' => ∃ v, e = .returned v ∧ Kd.R (Kd.int .i64) 2 w' w.heap.size (fun _ => True) v (farL s C (prd s).toNat) ∧ Below w.heap.size w w' := by
  have huS := Try.underlying26
  have huD := Try.underlying54
  have HR := Aside0.mk hr
  have HR1 := Aside0.mk hr1
  have HS := Aside0.mk hs
  have HC := Aside0.mk hC
  obtain ⟨kc, hcount⟩ := (Q.count_sp hs).rounds
  have HK := Aside0.mk hcount
  have p0 := isSp_prd1 hs
  have p1 := isSp_prd hs
  clear hr hr1 hs hC hcount
  obtain ⟨P, hP⟩ : ∃ P : Nat, prd s = (P : Int) := ⟨(prd s).toNat, by omega⟩
  have hP2 : (prd s).toNat = P := by omega
  have pP : P ≤ 1024 := by omega
  have pP0 : 1 ≤ P := by omega
  have HP := Aside0.mk hP
  have HP2 := Aside0.mk hP2
  rw [hP2]
  rw [hP] at HK
  clear hP hP2 p0 p1
  obtain ⟨i0, hi, hz0, hz1, hz2⟩ := info_parts infoI
  have HI := Aside0.mk (And.intro hi (And.intro hz0 (And.intro hz1 hz2)))
  clear hi hz0 hz1 hz2
  go_enter Try.func91, Try.ntmps91
  have hcell : (w.alloc (.cells #[.slice A s.length c] 26)).heap[w.heap.size]? = some (.cells #[.slice A s.length c] 26 (0, 0)) := blk_new _ _
  have hB : Below w.heap.size w (w.alloc (.cells #[.slice A s.length c] 26)) := (Below.refl _ _).alloc (Nat.le_refl _) _
  have hcz : (w.alloc (.cells #[.slice A s.length c] 26)).cell? ⟨w.heap.size, 0, none⟩ = some (.slice A s.length c) := blk_cell hcell 0
  go_wp2_with fail
  refine (digitsOfAll_calls A c s A1 c1 C _ (Kd.C_below HR.out hB) hc (Kd.C_below HR1.out hB) hc1 HS.out HC.out hCl).mono ?_
  rintro e w1 ⟨v1, rfl, hO, hb⟩
  obtain ⟨g, cap, rfl, hcap⟩ : ∃ g cap, v1 = .slice (some ⟨g, 0, none⟩) C.length cap ∧ C.length ≤ cap := by
    rcases hO.2 with ⟨_, h⟩ | ⟨g, cap, _, h, _, _, h2, _⟩
    · omega
    · exact ⟨g, cap, h, h2⟩
  have HCAP := Aside0.mk hcap
  have hz1 := hB.size
  have K1 := Aside0.mk (blk_below hcell hb)
  have B1 := Aside0.mk (below_then hB hB.size hb)
  have O1 := Aside0.mk (own_weaken hO hz1)
  clear hcell hB hO hb hcap hcz hz1
  have hcz : (w1.alloc (.cells #[] 2)).cell? ⟨w.heap.size, 0, none⟩ = some (.slice A s.length c) := blk_cell (blk_alloc K1.out _) 0
  go_wp2_with fail
  have hB1 := below_alloc B1.out (.cells #[] 2)
  refine (allDigits_calls A c s _ (Kd.C_below HR.out hB1) hc HS.out kc (by rw [HP.out]; exact HK.out)).mono ?_
  rintro e w2 ⟨v2, rfl, hD, hb⟩
  rw [HP2.out] at hD
  obtain ⟨ga, capa, rfl, hcapa⟩ : ∃ g cap, v2 = .slice (some ⟨g, 0, none⟩) P cap ∧ P ≤ cap := by
    rcases hD.2 with ⟨_, h⟩ | ⟨g, cap, _, h, _, _, h2, _⟩
    · omega
    · exact ⟨g, cap, h, h2⟩
  have HCAPA := Aside0.mk hcapa
  have hs1 := B1.out.size
  have hOut : (w1.alloc (.cells #[] 2)).ownsRow w.heap.size 2 1 (.slice (some ⟨w1.heap.size, 0, none⟩) 0 0) 0 (nums .i64 (farL s C 0)) :=
    ⟨rfl, .inr ⟨w1.heap.size, 0, #[], rfl, by omega, blk_new w1 (.cells #[] 2), by omega, by unfold maxLen; omega, rfl, rfl⟩⟩
  have HO2 := Aside0.mk (pw_own_below hOut hb)
  have HL2 := Aside0.mk (pw_own_below (own_alloc O1.out _) hb)
  have HD2 := Aside0.mk (own_weaken hD hB1.size)
  have HB2 := Aside0.mk (below_then hB1 hB1.size hb)
  clear hB1 hD hb hcapa hOut hcz hs1 K1 B1 O1
  go_wp2_with fail
  go_loopw [6, 19] (fun v i W => ∃ (m : Nat) (vo : Value), m ≤ P ∧ vo = v ∧ i = .int .i64 m ∧ Aside0 (W.ownsRow w.heap.size 2 1 v m (nums .i64 (farL s C m))) ∧ Aside0 (W.ownsRow w.heap.size 54 8 (.slice (some ⟨g, 0, none⟩) C.length cap) C.length (flat8 (allOf s C C.length))) ∧ Aside0 (W.ownsRow w.heap.size 54 8 (.slice (some ⟨ga, 0, none⟩) P capa) P (flat8 (all8 s P))) ∧ Aside0 (Below w.heap.size w W)) (fun _ i _ => P - (intOf i).toNat)
  case atStart => exact ⟨0, _, by omega, rfl, rfl, HO2, HL2, HD2, HB2⟩
  case round =>
    clear HO2 HL2 HD2 HB2
    obtain ⟨m, vo, hm, rfl, rfl, HO, HL, HD, HB⟩ := hrel
    by_cases hmP : m < P
    · obtain ⟨y0, y1, y2, y3, y4, y5, y6, y7, hye⟩ := eight (dig8_length s (m : Int))
      obtain ⟨k0, k1, k2, k3, k4, k5, k6, k7⟩ := row8 HD.out hmP hye
      have HYE := Aside0.mk hye
      clear hye
      go_wp2_with fail
      have HO1 := Aside0.mk (own_alloc HO.out (.cells #[.int .u8 y0, .int .u8 y1, .int .u8 y2, .int .u8 y3, .int .u8 y4, .int .u8 y5, .int .u8 y6, .int .u8 y7] 54))
      have HL1 := Aside0.mk (own_alloc HL.out (.cells #[.int .u8 y0, .int .u8 y1, .int .u8 y2, .int .u8 y3, .int .u8 y4, .int .u8 y5, .int .u8 y6, .int .u8 y7] 54))
      have HD1 := Aside0.mk (own_alloc HD.out (.cells #[.int .u8 y0, .int .u8 y1, .int .u8 y2, .int .u8 y3, .int .u8 y4, .int .u8 y5, .int .u8 y6, .int .u8 y7] 54))
      have HB1 := Aside0.mk (below_alloc HB.out (.cells #[.int .u8 y0, .int .u8 y1, .int .u8 y2, .int .u8 y3, .int .u8 y4, .int .u8 y5, .int .u8 y6, .int .u8 y7] 54))
      have HY1 := Aside0.mk (blk_new wr (.cells #[.int .u8 y0, .int .u8 y1, .int .u8 y2, .int .u8 y3, .int .u8 y4, .int .u8 y5, .int .u8 y6, .int .u8 y7] 54))
      clear k0 k1 k2 k3 k4 k5 k6 k7 HO HL HD HB
      generalize wr.alloc (.cells #[.int .u8 y0, .int .u8 y1, .int .u8 y2, .int .u8 y3, .int .u8 y4, .int .u8 y5, .int .u8 y6, .int .u8 y7] 54) = W1 at *
      generalize wr.heap.size = gd at *
      go_loopw [9, 25] (fun a i W => ∃ (n : Nat) (z : Int), n ≤ C.length ∧ i = .int .i64 n ∧ a = .int .i64 z ∧ Aside0 (z = fq s C [y0, y1, y2, y3, y4, y5, y6, y7] n) ∧ Aside0 (W.ownsRow w.heap.size 2 1 vo m (nums .i64 (farL s C m))) ∧ Aside0 (W.ownsRow w.heap.size 54 8 (.slice (some ⟨g, 0, none⟩) C.length cap) C.length (flat8 (allOf s C C.length))) ∧ Aside0 (W.ownsRow w.heap.size 54 8 (.slice (some ⟨ga, 0, none⟩) P capa) P (flat8 (all8 s P))) ∧ Aside0 (W.heap[gd]? = some (.cells #[.int .u8 y0, .int .u8 y1, .int .u8 y2, .int .u8 y3, .int .u8 y4, .int .u8 y5, .int .u8 y6, .int .u8 y7] 54 (0, 0))) ∧ Aside0 (Below w.heap.size w W)) (fun _ i _ => C.length - (intOf i).toNat)
      case atStart => exact ⟨0, 8, by omega, rfl, rfl, ⟨rfl⟩, HO1, HL1, HD1, HY1, HB1⟩
      case round =>
        clear HO1 HL1 HD1 HB1 HY1
        obtain ⟨n, z, hn, rfl, rfl, HZ, HO, HL, HD, HY, HB⟩ := hrel
        by_cases hlt : n < C.length
        · obtain ⟨x0, x1, x2, x3, x4, x5, x6, x7, hxe⟩ := eight (dig8_length s (rd C (n : Int)))
          have hge := allOf_get s C hlt
          rw [hxe] at hge
          obtain ⟨k0, k1, k2, k3, k4, k5, k6, k7⟩ := row8g HL.out (allOf_len s C _) hge
          have HQ : Aside0 (fq s C [y0, y1, y2, y3, y4, y5, y6, y7] (n + 1) = mn z (ham [y0, y1, y2, y3, y4, y5, y6, y7] [x0, x1, x2, x3, x4, x5, x6, x7])) := ⟨by rw [fq_succ s C _ hlt, hxe, HZ.out]⟩
          clear hge hxe
          have hY2 := blk_alloc HY.out (.cells #[.int .u8 x0, .int .u8 x1, .int .u8 x2, .int .u8 x3, .int .u8 x4, .int .u8 x5, .int .u8 x6, .int .u8 x7] 54)
          have h0 := blk_cell hY2 0
          have h1 := blk_cell hY2 1
          have h2 := blk_cell hY2 2
          have h3 := blk_cell hY2 3
          have h4 := blk_cell hY2 4
          have h5 := blk_cell hY2 5
          have h6 := blk_cell hY2 6
          have h7 := blk_cell hY2 7
          clear hY2
          go_wp2_with fail
          refine (far_calls8 y0 y1 y2 y3 y4 y5 y6 y7 x0 x1 x2 x3 x4 x5 x6 x7 _).mono ?_
          rintro e w3 ⟨rfl, hb⟩
          have HO3 := Aside0.mk (pw_own_below (own_alloc HO.out (.cells #[.int .u8 x0, .int .u8 x1, .int .u8 x2, .int .u8 x3, .int .u8 x4, .int .u8 x5, .int .u8 x6, .int .u8 x7] 54)) hb)
          have HL3 := Aside0.mk (pw_own_below (own_alloc HL.out (.cells #[.int .u8 x0, .int .u8 x1, .int .u8 x2, .int .u8 x3, .int .u8 x4, .int .u8 x5, .int .u8 x6, .int .u8 x7] 54)) hb)
          have HD3 := Aside0.mk (pw_own_below (own_alloc HD.out (.cells #[.int .u8 x0, .int .u8 x1, .int .u8 x2, .int .u8 x3, .int .u8 x4, .int .u8 x5, .int .u8 x6, .int .u8 x7] 54)) hb)
          have HY3 := Aside0.mk (blk_below (blk_alloc HY.out (.cells #[.int .u8 x0, .int .u8 x1, .int .u8 x2, .int .u8 x3, .int .u8 x4, .int .u8 x5, .int .u8 x6, .int .u8 x7] 54)) hb)
          have hB2 := below_alloc HB.out (.cells #[.int .u8 x0, .int .u8 x1, .int .u8 x2, .int .u8 x3, .int .u8 x4, .int .u8 x5, .int .u8 x6, .int .u8 x7] 54)
          have HB3 := Aside0.mk (below_then hB2 hB2.size hb)
          clear k0 k1 k2 k3 k4 k5 k6 k7 h0 h1 h2 h3 h4 h5 h6 h7 HO HL HD HY HB hB2 hb
          go_wp2
          go_roundw
          case rel => exact ⟨n + 1, mn z (ham [y0, y1, y2, y3, y4, y5, y6, y7] [x0, x1, x2, x3, x4, x5, x6, x7]), by omega, by go_num, rfl, ⟨HQ.out.symm⟩, HO3, HL3, HD3, HY3, HB3⟩
          case measure => simp [intOf]; omega
        · have hn2 : n = C.length := by omega
          subst hn2
          have HQ : Aside0 (farL s C (m + 1) = farL s C m ++ [z]) := ⟨by rw [farL_succ, HYE.out, HZ.out]⟩
          clear HZ HY
          have hcapL := HCAP.out
          go_wp2_with (at_builtin; obtain ⟨hi, hz0, hz1, hz2⟩ := HI.out; refine wpList_append_own _ rfl _ _ 24 rfl w.heap.size 2 i0 (.int .i64 0) 1 8 Try.underlying24 hi hz0 hz1 hz2 rfl (by decide) _ m (nums .i64 (farL s C m)) rfl (HO.out.alloc _) ⟨wr.heap.size, 0, none⟩ 1 1 [.int .i64 z] rfl ?c0 ?c1 ?c2 ?c3 ?c4 ?c5 ?_; clear hi hz0 hz1 hz2)
          case c0 => rfl
          case c1 =>
            intro j u hj
            have hb := blk_cell (blk_new wr (.cells #[.int .i64 z] 2)) j
            rw [add_plain, hb]
            simpa using hj
          case c2 => intro u hu; simp only [List.mem_cons, List.not_mem_nil, or_false] at hu; rcases hu with rfl; rfl
          case c3 => unfold maxLen; omega
          case c4 => omega
          case c5 => have := HB.out.size; simp; omega
          intro v' w3 O3 G3 _
          have O4 : Aside0 (w3.ownsRow w.heap.size 2 1 v' (m + 1) (nums .i64 (farL s C (m + 1)))) := ⟨by rw [HQ.out, nums_append]; exact O3⟩
          have HL3 := Aside0.mk (own_other (own_alloc HL.out _) G3 (own_type_ne HL.out HO.out (by decide)))
          have HD3 := Aside0.mk (own_other (own_alloc HD.out _) G3 (own_type_ne HD.out HO.out (by decide)))
          have B3 := Aside0.mk (pw_below_grown (below_alloc HB.out _) _ (by have := HB.out.size; simp; omega) G3 (fun k hk => own_base HO.out k hk))
          clear O3 G3 HO HL HD HB
          go_wp2
          go_roundw
          case rel => exact ⟨m + 1, _, by omega, rfl, by go_num, O4, HL3, HD3, B3⟩
          case measure => simp [intOf]; omega
    · go_wp2
      go_ret
      have hm2 : m = P := by omega
      subst hm2
      refine ⟨_, rfl, ?_, HB.out⟩
      exact Kd.R_of_own (by rw [farL, List.length_map, List.length_range]; exact HO.out) (fun _ _ => trivial)
def impl_farness.f (l0_0 l1 : List Int) : Option (List Int) := if isSp l0_0 = true ∧ l1.all (isW l0_0) = true ∧ 1 ≤ l1.length ∧ l1.length ≤ 1048576 then some (farL l0_0 l1 (prd l0_0).toNat) else none
theorem impl_farness.calls (A0_0 : Option Addr) (c0_0 : Nat) (l0_0 : List Int) (A1 : Option Addr) (c1 : Nat) (l1 : List Int) (r : List Int) (w : World) (hr0_0 : Kd.C (Kd.int .i64) w A0_0 l0_0.length l0_0) (hc0_0 : l0_0.length ≤ c0_0) (hr1 : Kd.C (Kd.int .i64) w A1 l1.length l1) (hc1 : l1.length ≤ c1) (h : impl_farness.f l0_0 l1 = some r) :
    Calls Try.prog 91 #[.agg #[.slice A0_0 l0_0.length c0_0], .slice A1 l1.length c1] w fun e w' => ∃ v0_ : Value, e = .returned (v0_) ∧ Kd.R (Kd.int .i64) 2 w' w.heap.size (fun _ => True) v0_ r ∧ Below w.heap.size w w' := by
  unfold impl_farness.f at h
  split at h
  · rename_i hc
    obtain rfl := Option.some.inj h
    exact farness_calls A0_0 c0_0 l0_0 A1 c1 l1 w hr0_0 hc0_0 hr1 hc1 hc.1 hc.2.1 hc.2.2.2 hc.2.2.1
  · cases h
end Go.Proofs.Ytlfipjdjmpdblaa.P
set_option linter.unusedVariables false
set_option linter.unusedSimpArgs false
namespace Go.Proofs.Ytlfipjdjmpdblaa.Q
open Go.RowKit Go.Proofs.Ytlfipjdjmpdblaa.P Go.Proofs.YtlfipjdjmpdblaaW.PrintWords CC
theorem ordL_of {R l : List Int} (hR : R.Pairwise (· < ·)) (hm : ∀ y, y ∈ R ↔ y ∈ l) : R = ordL l := asc_ext hR (ordL_pw l) (fun y => by rw [hm, ordL_mem])
theorem ordL_put (L : List Int) (x : Int) : ordL (ordL L ++ [x]) = ordL (L ++ [x]) := ordL_of (ordL_pw _) (fun y => by rw [ordL_mem, List.mem_append, List.mem_append, ordL_mem])
theorem ordL_asc {l : List Int} (h : l.Pairwise (· < ·)) : ordL l = l := (ordL_of h (fun _ => Iff.rfl)).symm
theorem l01Own_eq (l : List Int) (hl : l.length ≤ 1048576) : spec_l01Own.f l = some l := by
  unfold spec_l01Own.f
  simp only [Option.bind_some, List.length_nil, List.nil_append]
  rw [if_pos (by omega)]
theorem mem_take_drop {l : List Int} (n : Nat) (y : Int) : y ∈ l.take n ∨ y ∈ l.drop n ↔ y ∈ l := by
  rw [← List.mem_append, List.take_append_drop]
theorem put_pw {l : List Int} (h : l.Pairwise (· < ·)) {x : Int} {n : Nat} (h1 : ∀ y ∈ l.take n, y < x) (h2 : ∀ y ∈ l.drop n, x < y) : (l.take n ++ [x] ++ l.drop n).Pairwise (· < ·) := by
  rw [← List.take_append_drop n l, List.pairwise_append] at h
  rw [List.append_assoc, List.pairwise_append]
  refine ⟨h.1, ?_, fun a ha b hb => ?_⟩
  · rw [List.singleton_append, List.pairwise_cons]
    exact ⟨h2, h.2.1⟩
  · rcases List.mem_append.1 hb with hb | hb
    · rw [List.mem_singleton] at hb
      subst hb
      exact h1 a ha
    · exact h.2.2 a ha b hb
theorem put_eq {l : List Int} (h : l.Pairwise (· < ·)) {x : Int} {n : Nat} (h1 : ∀ y ∈ l.take n, y < x) (h2 : ∀ y ∈ l.drop n, x < y) : l.take n ++ [x] ++ l.drop n = ordL (l ++ [x]) :=
  ordL_of (put_pw h h1 h2) (fun y => by
    simp only [List.mem_append]
    have := mem_take_drop (l := l) n y
    constructor
    · rintro ((h | h) | h)
      · exact .inl (this.1 (.inl h))
      · exact .inr h
      · exact .inl (this.1 (.inr h))
    · rintro (h | h)
      · rcases this.2 h with h | h
        · exact .inl (.inl h)
        · exact .inr h
      · exact .inl (.inr h))
theorem l01Put_l {l : List Int} (h : l.Pairwise (· < ·)) (hl : l.length ≤ 1048576) (x : Int) : ∀ n, n ≤ l.length → (∀ y ∈ l.drop n, x < y) → Ev (fun k => spec_l01Put.l0 k l x (n : Int)) (ordL (l ++ [x]))
  | 0, hn, hd => by
    refine Ev.step (fun k => by simp only [spec_l01Put.l0]; exact rfl) ?_
    refine Ev.iff_neg (by omega) (Ev.iff_pos (by omega) (Ev.iff_pos (by omega) ?_))
    refine Ev.bindc (l01Own_eq _ (by simp)) ?_
    refine Ev.iff_pos (by simp) ?_
    refine Ev.bindc rfl (Ev.bindc rfl ?_)
    refine Ev.iff_pos (by simp; omega) ?_
    have := put_eq h (x := x) (n := 0) (by simp) hd
    rw [← this]
    exact Ev.now _
  | n + 1, hn, hd => by
    have e1 : wrap64 (((n + 1 : Nat) : Int) - 1) = (n : Int) := by rw [wrap_id (by omega) (by omega)]; omega
    have hdc := drop_cons l (show n < l.length by omega)
    have htk := take_rd8 (d := l) (show n < l.length by omega)
    refine Ev.step (fun k => by simp only [spec_l01Put.l0]; exact rfl) ?_
    rw [e1]
    refine Ev.iff_pos (by omega) (Ev.iff_pos (by omega) (Ev.iff_pos (by omega) ?_))
    by_cases h1 : rd l (n : Int) > x
    · refine Ev.iff_pos h1 ?_
      refine l01Put_l h hl x n (by omega) (fun y hy => ?_)
      rw [hdc] at hy
      rcases List.mem_cons.1 hy with rfl | hy
      · exact h1
      · exact hd y hy
    · refine Ev.iff_neg h1 ?_
      by_cases h2 : rd l (n : Int) = x
      · refine Ev.iff_pos h2 ?_
        have hm : x ∈ l := by
          rw [← mem_take_drop n, hdc, h2]
          simp
        have : ordL (l ++ [x]) = l := (ordL_of h (fun y => by
          rw [List.mem_append, List.mem_singleton]
          constructor
          · exact .inl
          · rintro (h | rfl)
            · exact h
            · exact hm)).symm
        rw [this]
        exact Ev.now _
      · refine Ev.iff_neg h2 (Ev.iff_pos (by omega) (Ev.iff_pos (by omega) ?_))
        have htl : (l.take (n + 1)).length ≤ n + 1 := List.length_take_le _ _
        rw [Int.toNat_natCast]
        refine Ev.bindc (l01Own_eq _ (by omega)) ?_
        refine Ev.iff_pos (by omega) ?_
        refine Ev.bindc rfl (Ev.bindc rfl ?_)
        refine Ev.iff_pos (by rw [List.length_append, List.length_drop, List.length_singleton]; omega) ?_
        have hp : ∀ y ∈ l.take (n + 1), y < x := fun y hy => by
          have hpw := h
          rw [← List.take_append_drop (n + 1) l, List.pairwise_append, htk, List.pairwise_append] at hpw
          rw [htk, List.mem_append, List.mem_singleton] at hy
          rcases hy with hy | rfl
          · have := hpw.1.2.2 y hy (rd l (n : Int)) (by simp)
            omega
          · omega
        rw [← put_eq h hp hd]
        exact Ev.now _
theorem l01Put_ev {l : List Int} (h : l.Pairwise (· < ·)) (hl : l.length ≤ 1048576) (x : Int) : Ev (fun k => spec_l01Put.f k l x) (ordL (l ++ [x])) := by
  unfold spec_l01Put.f
  exact l01Put_l h hl x l.length (Nat.le_refl _) (by simp)
end Go.Proofs.Ytlfipjdjmpdblaa.Q
set_option linter.unusedVariables false
set_option linter.unusedSimpArgs false
namespace Go.Proofs.Ytlfipjdjmpdblaa.Q
open Go.RowKit Go.Proofs.Ytlfipjdjmpdblaa.P Go.Proofs.YtlfipjdjmpdblaaW.PrintWords CC
theorem likeInts_l {l : List Int} (hl : l.length ≤ 1048576) : ∀ (m n : Nat), n + m = l.length → Ev (fun k => laws_likeInts.l0 k l l (n : Int)) true
  | 0, n, hm => by
    refine Ev.step (fun k => by simp only [laws_likeInts.l0]; exact rfl) ?_
    exact Ev.iff_neg (by omega) (Ev.now _)
  | m + 1, n, hm => by
    have ih := likeInts_l hl m (n + 1) (by omega)
    refine Ev.step (fun k => by simp only [laws_likeInts.l0]; exact rfl) ?_
    refine Ev.iff_pos (by omega) (Ev.iff_pos (by omega) (Ev.iff_pos (by omega) (Ev.iff_pos (by first | rfl | trivial) ?_)))
    rw [wrap_nat (by unfold maxLen; omega)]
    exact ih
theorem likeInts_same {l : List Int} (hl : l.length ≤ 1048576) : Ev (fun k => laws_likeInts.f k l l) true := by
  unfold laws_likeInts.f
  exact Ev.iff_pos rfl (likeInts_l hl l.length 0 (by omega))
theorem hasInt_l {l : List Int} (hl : l.length ≤ 1048576) (x : Int) : ∀ (m n : Nat), n + m = l.length → Ev (fun k => laws_hasInt.l0 k l x (n : Int)) (decide (x ∈ l.drop n))
  | 0, n, hm => by
    refine Ev.step (fun k => by simp only [laws_hasInt.l0]; exact rfl) ?_
    refine Ev.iff_neg (by omega) ?_
    rw [drop_all (by omega)]
    simpa using Ev.now _
  | m + 1, n, hm => by
    have ih := hasInt_l hl x m (n + 1) (by omega)
    refine Ev.step (fun k => by simp only [laws_hasInt.l0]; exact rfl) ?_
    refine Ev.iff_pos (by omega) (Ev.iff_pos (by omega) ?_)
    rw [drop_cons l (by omega)]
    by_cases h : rd l (n : Int) = x
    · refine Ev.iff_pos h ?_
      simpa [h] using Ev.now _
    · refine Ev.iff_neg h ?_
      rw [wrap_nat (by unfold maxLen; omega)]
      have h2 : ¬ x = rd l (n : Int) := fun z => h z.symm
      simpa [h2] using ih
theorem hasInt_ev {l : List Int} (hl : l.length ≤ 1048576) (x : Int) : Ev (fun k => laws_hasInt.f k l x) (decide (x ∈ l)) := by
  unfold laws_hasInt.f
  exact hasInt_l hl x l.length 0 (by omega)
theorem bytes_in {l : List Int} (h : ∀ x ∈ l, (Lit.int .u8 x).wf = true) : ∀ x ∈ l, 0 ≤ x ∧ x ≤ 255 := fun x hx => by
  have := h x hx
  have e1 : IntKind.u8.min = 0 := by decide
  have e2 : IntKind.u8.max = 255 := by decide
  simp [Lit.wf, e1, e2] at this
  omega
end Go.Proofs.Ytlfipjdjmpdblaa.Q
set_option linter.unusedVariables false
set_option linter.unusedSimpArgs false
namespace Go.Proofs.Ytlfipjdjmpdblaa.Q
open Go.RowKit Go.Proofs.Ytlfipjdjmpdblaa.P Go.Proofs.YtlfipjdjmpdblaaW.PrintWords CC
theorem prev_nat {n : Nat} (h : n < maxLen) : wrap64 (((n + 1 : Nat) : Int) - 1) = (n : Int) := by
  unfold maxLen at h
  unfold wrap64
  omega
theorem l01Code_l {s c : List Int} (hs : isSp s = true) (hc : c.length ≤ 1048576) : ∀ (m n : Nat), n + 1 + m = c.length →
    Ev (fun k => spec_l01Code.l0 k c ((n + 1 : Nat) : Int) s) ((c.drop (n + 1)).all (isW s) && asc (c.drop n))
  | 0, n, hm => by
    rw [drop_cons c (show n < c.length by omega), drop_all (s := c) (n := n + 1) (by omega)]
    refine Ev.step (f := fun k => some true) (fun k => ?_) (by simpa [asc] using Ev.now _)
    simp only [spec_l01Code.l0]
    rw [if_neg (by omega)]
  | m + 1, n, hm => by
    have hn : n < c.length := by omega
    have hn2 : n + 1 < c.length := by omega
    rw [drop_cons c hn, drop_cons c hn2, List.all_cons]
    refine Ev.step (fun k => by simp only [spec_l01Code.l0]; exact rfl) ?_
    refine Ev.iff_pos (by omega) (Ev.iff_pos (by omega) (Ev.bind (l01N_sp hs) (Ev.bindc (isW_in hs _) ?_)))
    cases h : isW s (rd c ((n + 1 : Nat) : Int)) with
    | false => simpa using Ev.now _
    | true =>
      rw [asc, Bool.true_and]
      refine Ev.iff_pos rfl (Ev.iff_pos (by omega) ?_)
      rw [prev_nat (by unfold maxLen; omega)]
      refine Ev.iff_pos (by omega) (Ev.iff_pos (by omega) ?_)
      by_cases hlt : rd c (n : Int) < rd c ((n + 1 : Nat) : Int)
      · refine Ev.iff_neg (by omega) ?_
        rw [wrap_nat (by unfold maxLen; omega)]
        have := l01Code_l hs hc m (n + 1) (by omega)
        rw [drop_cons c hn2] at this
        rw [decide_eq_true hlt, Bool.true_and]
        exact this
      · refine Ev.iff_pos (by omega) ?_
        rw [decide_eq_false hlt, Bool.false_and, Bool.and_false]
        exact Ev.now _
theorem l01Code_ev {s c : List Int} (hs : isSp s = true) (hc : c.length ≤ 1048576) : Ev (fun k => spec_l01Code.f k s c) (isC s c) := by
  unfold spec_l01Code.f isC
  cases c with
  | nil =>
    refine Ev.step (f := fun k => some true) (fun k => ?_) (Ev.now _)
    simp only [spec_l01Code.l0]
    rw [if_neg (by simp)]
  | cons a t =>
    refine Ev.step (fun k => by simp only [spec_l01Code.l0]; exact rfl) ?_
    refine Ev.iff_pos (by simp only [List.length_cons]; omega) (Ev.iff_pos (by omega) (Ev.bind (l01N_sp hs) (Ev.bindc (isW_in hs _) ?_)))
    have e : rd (a :: t) 0 = a := by simp [rd]
    rw [e, List.all_cons]
    cases h : isW s a with
    | false => simpa using Ev.now _
    | true =>
      refine Ev.iff_pos rfl (Ev.iff_neg (by omega) ?_)
      have := l01Code_l hs hc t.length 0 (by simp only [List.length_cons]; omega)
      rw [show wrap64 (0 + 1) = ((0 + 1 : Nat) : Int) from by simp [wrap64], Bool.true_and]
      simpa using this
theorem isCode_l {c : List Int} (hc : c.length ≤ 1048576) : ∀ (m n : Nat), n + 1 + m = c.length →
    Ev (fun k => impl_isCode.l0 k c ((n + 1 : Nat) : Int)) (asc (c.drop n))
  | 0, n, hm => by
    rw [drop_cons c (show n < c.length by omega), drop_all (s := c) (n := n + 1) (by omega)]
    refine Ev.step (f := fun k => some true) (fun k => ?_) (by simpa [asc] using Ev.now _)
    simp only [impl_isCode.l0]
    rw [if_neg (by omega)]
  | m + 1, n, hm => by
    have hn : n < c.length := by omega
    have hn2 : n + 1 < c.length := by omega
    rw [drop_cons c hn, drop_cons c hn2]
    refine Ev.step (fun k => by simp only [impl_isCode.l0]; exact rfl) ?_
    refine Ev.iff_pos (by omega) (Ev.iff_pos (by omega) ?_)
    rw [prev_nat (by unfold maxLen; omega)]
    refine Ev.iff_pos (by omega) (Ev.iff_pos (by omega) ?_)
    rw [asc]
    by_cases hlt : rd c (n : Int) < rd c ((n + 1 : Nat) : Int)
    · refine Ev.iff_neg (by omega) ?_
      rw [wrap_nat (by unfold maxLen; omega)]
      have := isCode_l hc m (n + 1) (by omega)
      rw [drop_cons c hn2] at this
      rw [decide_eq_true hlt, Bool.true_and]
      exact this
    · refine Ev.iff_pos (by omega) ?_
      rw [decide_eq_false hlt, Bool.false_and]
      exact Ev.now _
theorem isCode_ev {s c : List Int} (hs : isSp s = true) (hc : c.length ≤ 1048576) : Ev (fun k => impl_isCode.f k s c) (isC s c) := by
  unfold impl_isCode.f
  refine Ev.bind (count_sp hs) ?_
  by_cases hlen : (c.length : Int) > prd s
  · have : isC s c = false := by
      cases h : isC s c with
      | false => rfl
      | true =>
        have := isC_length hs h
        omega
    rw [this]
    refine Ev.iff_pos hlen ?_
    refine Ev.step (f := fun k => some false) (fun k => ?_) (Ev.now _)
    simp [impl_isCode.j0]
  · refine Ev.iff_neg hlen (Ev.bind (areWords_ev hs hc) ?_)
    unfold isC
    cases h : c.all (isW s) with
    | false =>
      refine Ev.step (f := fun k => some false) (fun k => ?_) (Ev.now _)
      simp [impl_isCode.j0]
    | true =>
      refine Ev.step (f := fun k => impl_isCode.l0 k c 1) (fun k => ?_) ?_
      · simp [impl_isCode.j0]
      · rw [Bool.true_and]
        cases c with
        | nil =>
          refine Ev.step (f := fun k => some true) (fun k => ?_) (Ev.now _)
          simp [impl_isCode.l0]
        | cons a t =>
          have := isCode_l hc t.length 0 (by simp only [List.length_cons]; omega)
          simpa using this
end Go.Proofs.Ytlfipjdjmpdblaa.Q
set_option linter.unusedVariables false
set_option linter.unusedSimpArgs false
namespace Go.Proofs.Ytlfipjdjmpdblaa.Q
open Go.RowKit Go.Proofs.Ytlfipjdjmpdblaa.P Go.Proofs.YtlfipjdjmpdblaaW.PrintWords CC
theorem l01Distance_l {s : List Int} (hs : s.all sizeOk = true) (hl : s.length ≤ 8) : ∀ (n : Nat) (u w acc : Int), n ≤ s.length → 0 ≤ u → u ≤ 1024 → 0 ≤ w → w ≤ 1024 → 0 ≤ acc → acc + n ≤ 100 →
    Ev (fun k => spec_l01Distance.l0 k u w acc ((n : Int) - 1) s) (acc + ham (dgr (s.take n).reverse u) (dgr (s.take n).reverse w))
  | 0, u, w, acc, _, _, _, _, _, _, _ => by
    refine Ev.step (f := fun k => some acc) (fun k => ?_) (by simpa [dgr, ham] using Ev.now _)
    simp only [spec_l01Distance.l0]
    rw [if_neg (by omega)]
  | n + 1, u, w, acc, hn, u0, u1, w0, w1, a0, a1 => by
    have hq := all_rd hs (show n < s.length by omega)
    obtain ⟨b0, b1, b2, b3⟩ := div_bounds u0 u1 hq
    obtain ⟨d0, d1, d2, d3⟩ := div_bounds w0 w1 hq
    have e : ((n + 1 : Nat) : Int) - 1 = (n : Int) := by omega
    rw [e]
    refine Ev.step (fun k => by simp only [spec_l01Distance.l0]; exact rfl) ?_
    refine Ev.iff_pos (by omega) (Ev.iff_pos (by omega) (Ev.iff_pos (by omega) (Ev.iff_neg (by omega) ?_)))
    rw [b2, b3, d2, d3, pred_nat n (by omega), take_rd s (by omega), List.reverse_append]
    simp only [List.reverse_cons, List.reverse_nil, List.nil_append, List.singleton_append, dgr, ham]
    by_cases h : u % rd s (n : Int) = w % rd s (n : Int)
    · refine Ev.iff_pos h ?_
      rw [if_pos h]
      have := l01Distance_l hs hl n (u / rd s (n : Int)) (w / rd s (n : Int)) acc (by omega) b0 b1 d0 d1 a0 (by omega)
      simpa using this
    · refine Ev.iff_neg h ?_
      rw [if_neg h, wrap_id (x := acc + 1) (by omega) (by omega), ← Int.add_assoc]
      exact l01Distance_l hs hl n (u / rd s (n : Int)) (w / rd s (n : Int)) (acc + 1) (by omega) b0 b1 d0 d1 (by omega) (by omega)
theorem l01Distance_ev {s : List Int} (hs : isSp s = true) {u w : Int} (hu : isW s u = true) (hw : isW s w = true) : Ev (fun k => spec_l01Distance.f k s u w) (dist s u w) := by
  have hl := isSp_len hs
  obtain ⟨u0, u1⟩ := isW_b hs hu
  obtain ⟨w0, w1⟩ := isW_b hs hw
  unfold spec_l01Distance.f
  have e : wrap64 ((s.length : Int) - 1) = (s.length : Int) - 1 := wrap_id (by omega) (by omega)
  rw [e]
  have := l01Distance_l (isSp_all hs) hl s.length u w 0 (Nat.le_refl _) u0 u1 w0 w1 (by omega) (by omega)
  rw [List.take_length, Int.zero_add] at this
  unfold dist dg
  rw [ham_reverse _ _ (by rw [dgr_length, dgr_length])]
  exact this
end Go.Proofs.Ytlfipjdjmpdblaa.Q
namespace Go.Proofs.Ytlfipjdjmpdblaa.P
open Go.RowKit Go.Proofs.YtlfipjdjmpdblaaW.PrintWords Go.Proofs.YtlfipjdjmpdblaaW.PrintLast Go.Proofs.YtlfipjdjmpdblaaW.PrintMore
attribute [local go_sem] max2_int min2_int max_two min_two max_three min_three max_four min_four
set_option linter.unusedVariables false
set_option linter.unusedSimpArgs false
def impl_DistanceTo.f (k : Nat) (l0_0 : List Int) (l1 : List Int) (a2 : Int) : Option (Int × Int) := (impl_someCode.f k l0_0 l1 (([a2] : List Int))).bind fun t105 => (if t105 = 0 then ((impl_farness.f l0_0 l1).bind fun t106 => (if 0 ≤ a2 then (if a2 < (t106.length : Int) then (some (rd t106 a2, 0)) else (none)) else (none))) else (some (0, t105)))
set_option maxHeartbeats 8000000 in
set_option maxRecDepth 100000 in
theorem impl_DistanceTo.calls (k : Nat) (A0_0 : Option Addr) (c0_0 : Nat) (l0_0 : List Int) (A1 : Option Addr) (c1 : Nat) (l1 : List Int) (a2 : Int) (r1 : Int) (r2 : Int) (w : World) (hr0_0 : Kd.C (Kd.int .i64) w A0_0 l0_0.length l0_0) (hc0_0 : l0_0.length ≤ c0_0) (hr1 : Kd.C (Kd.int .i64) w A1 l1.length l1) (hc1 : l1.length ≤ c1) (h : impl_DistanceTo.f k l0_0 l1 a2 = some (r1, r2)) :
  Calls Try.prog 38 #[.agg #[.slice A0_0 l0_0.length c0_0], .slice A1 l1.length c1, .int .i64 a2] w fun e w' => e = .returned (.tuple #[.int .i64 r1, .int .i64 r2]) ∧ Below w.heap.size w w' := by
 have hu26 := Try.underlying26
 have HR0_0 := Aside0.mk hr0_0
 have HC0_0 := Aside0.mk hc0_0
 clear hr0_0 hc0_0
 have HR1 := Aside0.mk hr1
 have HC1 := Aside0.mk hc1
 clear hr1 hc1
 have HB := Aside0.mk (Below.refl w.heap.size w)
 have H : ((impl_someCode.f k l0_0 l1 (([a2] : List Int))).bind fun t105 => (if t105 = 0 then ((impl_farness.f l0_0 l1).bind fun t106 => (if 0 ≤ a2 then (if a2 < (t106.length : Int) then (some (rd t106 a2, 0)) else (none)) else (none))) else (some (0, t105)))) = some (r1, r2) := h
 clear h
 obtain ⟨y102, hy102⟩ : ∃ y_ : List Int, y_ = (([a2] : List Int)) := ⟨_, rfl⟩
 replace H : ((impl_someCode.f k l0_0 l1 y102).bind fun t105 => (if t105 = 0 then ((impl_farness.f l0_0 l1).bind fun t106 => (if 0 ≤ a2 then (if a2 < (t106.length : Int) then (some (rd t106 a2, 0)) else (none)) else (none))) else (some (0, t105)))) = some (r1, r2) := by first | (rw [hy102]; with_reducible exact H) | (have H2_ := (Option.bind_some _ _).symm.trans H; rw [hy102]; with_reducible exact H2_) | (have H2_ := (Option.bind_some _ _).symm.trans H; with_reducible exact H2_) | with_reducible exact H | (rw [hy102]; exact H) | exact H
 have Ny102 := Aside0.mk hy102
 clear hy102
 replace H := Option.bind_eq_some_iff.mp H
 obtain ⟨t105, A40, H⟩ := H
 replace H : (if t105 = 0 then ((impl_farness.f l0_0 l1).bind fun t106 => (if 0 ≤ a2 then (if a2 < (t106.length : Int) then (some (rd t106 a2, 0)) else (none)) else (none))) else (some (0, t105))) = some (r1, r2) := H
 have A4 := Aside0.mk A40
 clear A40
 by_cases c5 : t105 = 0
 rotate_left
 ·rw [if_neg c5] at H
  have c5b0 : (t105 == 0) = false := beq_eq_false_iff_ne.mpr c5
  have c5b1 : (t105 != 0) = true := bne_iff_ne.mpr c5
  simp only [Option.some.injEq, Prod.mk.injEq] at H
  obtain ⟨rfl, rfl⟩ := H
  go_enter Try.func38, Try.ntmps38
  go_wp2_with (first | ((with_reducible refine gate_dst (N := 3) rfl ?_); refine box_event ?hg (N := 3) ?hd (cs := #[.slice A0_0 l0_0.length c0_0]) (t := 26) ?hr ?_; (case hd => rfl); (case hg => rfl); (case hr => exact t3_); intro gb101 hg w18 hbox hb; have n0_ := b1_ HB hb; have n1_ := Aside0.mk (hbox); have n2_ := Aside0.mk ((by rw [hg]; exact (below_size (gb_ HB.out)) : w.heap.size ≤ gb101)); have n3_ := Aside0.mk ((by rw [hg]; exact (below_size (gb_ HB.out)) : w.heap.size ≤ gb101)); clear HB; have HB := n0_; have BK101 := n1_; have GW101 := n2_; have GE101 := n3_; clear n0_ n1_ n2_ n3_ hb hbox hg; have hcz19_0 : w18.cell? ⟨gb101, 0, none⟩ = some (.slice A0_0 l0_0.length c0_0) := (blk_cell BK101.out 0).trans rfl; have hfz19_0 := blk_frozen BK101.out 0) | ((with_reducible refine gate_dst (N := 12) rfl ?_); refine Kd.R_lit (Kd.int .i64) _ 2 ?hg (N := 12) ?hd (xs := ([a2] : List Int)) (inner := [.int .i64 a2]) (ok := fun _ => True) (okp := fun _ => True) ?hr ?hp (fun _ hk => hk) trivial (Below.refl _ _) (Nat.le_refl _) (by simp) ?_; (case hd => rfl); (case hg => rfl); (case hr => exact t3_); (case hp => exact (Reps.one (show Kd.M (Kd.int .i64) _ _ _ a2 [.int .i64 a2] from rfl) (Reps.none _ _))); intro v103 w20 ho21 hb hg_ hnew_; clear hg_ hnew_; (first | rw [← Ny102.out] at ho21 | (simp only [Int.reduceToNat] at ho21; rw [← Ny102.out] at ho21)); have n0_ := Aside0.mk (Kd.R_lower ho21 (below_size (gb_ HB.out))); have n1_ := a2_ BK101 hb; have n2_ := b1_ HB hb; clear BK101 HB; have HO104 := n0_; have BK101 := n1_; have HB := n2_; clear n0_ n1_ n2_ hb ho21; obtain ⟨Ao22, co22, eo22⟩ := Kd.R_slice HO104.out; subst eo22) | ((with_reducible refine gate_callee (f := 90) rfl ?_); refine goesL_ (some 13) rfl rfl Try.func90 (by kernel_rfl) rfl #[.agg #[.slice A0_0 l0_0.length c0_0], .slice A1 l1.length c1, .slice Ao22 y102.length co22] rfl t1_ ?_; (with_reducible refine (impl_someCode.calls k _ _ l0_0 _ _ l1 _ _ y102 t105 _ ?side1 ?side2 ?side3 ?side4 ?side5 ?side6 A4.out).mono ?_); (case side1 => exact c2_ HR0_0 HB); (case side2 => exact HC0_0.out); (case side3 => exact c2_ HR1 HB); (case side4 => exact HC1.out); (case side5 => exact c1_ HO104); (case side6 => exact (Kd.R_reads' HO104.out).2.1); rintro e w23 ⟨rfl, hb⟩; refine ⟨_, rfl, ?_⟩; replace HO104 := a1_ HO104 hb; replace BK101 := a2_ BK101 hb; replace HB := b1_ HB hb; (try clear hb); (try clear hb2); (try clear hk); (try clear hi)))
  go_ret2
  exact ⟨t5_, gb_ HB.out⟩

 rw [if_pos c5] at H
 have c5b0 : (t105 == 0) = true := beq_iff_eq.mpr c5
 have c5b1 : (t105 != 0) = false := bne_eq_false_iff_eq.mpr c5
 clear c5
 replace H := Option.bind_eq_some_iff.mp H
 obtain ⟨t106, A60, H⟩ := H
 replace H : (if 0 ≤ a2 then (if a2 < (t106.length : Int) then (some (rd t106 a2, 0)) else (none)) else (none)) = some (r1, r2) := H
 have A6 := Aside0.mk A60
 clear A60
 by_cases c7 : 0 ≤ a2
 rotate_left
 ·rw [if_neg c7] at H
  exact absurd H (by simp)
 rw [if_pos c7] at H
 have c7b0 : decide (0 ≤ a2) = true := decide_eq_true c7
 clear c7
 by_cases c8 : a2 < (t106.length : Int)
 rotate_left
 ·rw [if_neg c8] at H
  exact absurd H (by simp)
 rw [if_pos c8] at H
 have c8b0 : decide (a2 < (t106.length : Int)) = true := decide_eq_true c8
 clear c8
 simp only [Option.some.injEq, Prod.mk.injEq] at H
 obtain ⟨rfl, rfl⟩ := H
 go_enter Try.func38, Try.ntmps38
 go_wp2_with (first | ((with_reducible refine gate_dst (N := 3) rfl ?_); refine box_event ?hg (N := 3) ?hd (cs := #[.slice A0_0 l0_0.length c0_0]) (t := 26) ?hr ?_; (case hd => rfl); (case hg => rfl); (case hr => exact t3_); intro gb101 hg w9 hbox hb; have n0_ := b1_ HB hb; have n1_ := Aside0.mk (hbox); have n2_ := Aside0.mk ((by rw [hg]; exact (below_size (gb_ HB.out)) : w.heap.size ≤ gb101)); have n3_ := Aside0.mk ((by rw [hg]; exact (below_size (gb_ HB.out)) : w.heap.size ≤ gb101)); clear HB; have HB := n0_; have BK101 := n1_; have GW101 := n2_; have GE101 := n3_; clear n0_ n1_ n2_ n3_ hb hbox hg; have hcz10_0 : w9.cell? ⟨gb101, 0, none⟩ = some (.slice A0_0 l0_0.length c0_0) := (blk_cell BK101.out 0).trans rfl; have hfz10_0 := blk_frozen BK101.out 0) | ((with_reducible refine gate_dst (N := 12) rfl ?_); refine Kd.R_lit (Kd.int .i64) _ 2 ?hg (N := 12) ?hd (xs := ([a2] : List Int)) (inner := [.int .i64 a2]) (ok := fun _ => True) (okp := fun _ => True) ?hr ?hp (fun _ hk => hk) trivial (Below.refl _ _) (Nat.le_refl _) (by simp) ?_; (case hd => rfl); (case hg => rfl); (case hr => exact t3_); (case hp => exact (Reps.one (show Kd.M (Kd.int .i64) _ _ _ a2 [.int .i64 a2] from rfl) (Reps.none _ _))); intro v103 w11 ho12 hb hg_ hnew_; clear hg_ hnew_; (first | rw [← Ny102.out] at ho12 | (simp only [Int.reduceToNat] at ho12; rw [← Ny102.out] at ho12)); have n0_ := Aside0.mk (Kd.R_lower ho12 (below_size (gb_ HB.out))); have n1_ := a2_ BK101 hb; have n2_ := b1_ HB hb; clear BK101 HB; have HO104 := n0_; have BK101 := n1_; have HB := n2_; clear n0_ n1_ n2_ hb ho12; obtain ⟨Ao13, co13, eo13⟩ := Kd.R_slice HO104.out; subst eo13) | ((with_reducible refine gate_callee (f := 90) rfl ?_); refine goesL_ (some 13) rfl rfl Try.func90 (by kernel_rfl) rfl #[.agg #[.slice A0_0 l0_0.length c0_0], .slice A1 l1.length c1, .slice Ao13 y102.length co13] rfl t1_ ?_; (with_reducible refine (impl_someCode.calls k _ _ l0_0 _ _ l1 _ _ y102 t105 _ ?side1 ?side2 ?side3 ?side4 ?side5 ?side6 A4.out).mono ?_); (case side1 => exact c2_ HR0_0 HB); (case side2 => exact HC0_0.out); (case side3 => exact c2_ HR1 HB); (case side4 => exact HC1.out); (case side5 => exact c1_ HO104); (case side6 => exact (Kd.R_reads' HO104.out).2.1); rintro e w14 ⟨rfl, hb⟩; refine ⟨_, rfl, ?_⟩; replace HO104 := a1_ HO104 hb; replace BK101 := a2_ BK101 hb; replace HB := b1_ HB hb; (try clear hb); (try clear hb2); (try clear hk); (try clear hi); have hcz15_0 : w14.cell? ⟨gb101, 0, none⟩ = some (.slice A0_0 l0_0.length c0_0) := (blk_cell BK101.out 0).trans rfl; have hfz15_0 := blk_frozen BK101.out 0) | ((with_reducible refine gate_callee (f := 91) rfl ?_); refine goesL_ (some 19) rfl rfl Try.func91 (by kernel_rfl) rfl #[.agg #[.slice A0_0 l0_0.length c0_0], .slice A1 l1.length c1] rfl t1_ ?_; (with_reducible refine (impl_farness.calls _ _ l0_0 _ _ l1 t106 _ ?side1 ?side2 ?side3 ?side4 A6.out).mono ?_); (case side1 => exact c2_ HR0_0 HB); (case side2 => exact HC0_0.out); (case side3 => exact c2_ HR1 HB); (case side4 => exact HC1.out); rintro e w16 ⟨v107, rfl, ho0, hb⟩; refine ⟨_, rfl, ?_⟩; have HO108 := Aside0.mk (Kd.R_lower (Kd.R_new' ho0 (Kd.R_lt (rb_ HO104.out))) (below_size (gb_ HB.out))); replace HO104 := a5_ HO104 ho0 hb; replace BK101 := a2_ BK101 hb; replace HB := b1_ HB hb; (try clear hb); (try clear hb2); (try clear hk); (try clear hi); (try clear ho0); obtain ⟨Ao17, co17, eo17⟩ := Kd.R_slice HO108.out; subst eo17; have p109 : 0 ≤ (a2 : Int) := of_decide_eq_true (by first | (with_reducible assumption) | assumption); have q109 : a2 < (t106.length : Int) := of_decide_eq_true (by first | (with_reducible assumption) | assumption); obtain ⟨ad109, e109, hx109_0⟩ := Kd.at_int (Kd.R_reads' HO108.out).2.2 a2 p109 q109; cases e109; replace p109 := eq_true p109; replace q109 := eq_true q109))
 go_ret2
 exact ⟨t5_, gb_ HB.out⟩
end Go.Proofs.Ytlfipjdjmpdblaa.P
namespace Go.Proofs.Ytlfipjdjmpdblaa.P
open Go.RowKit Go.Proofs.YtlfipjdjmpdblaaW.PrintWords Go.Proofs.YtlfipjdjmpdblaaW.PrintLast Go.Proofs.YtlfipjdjmpdblaaW.PrintMore
attribute [local go_sem] max2_int min2_int max_two min_two max_three min_three max_four min_four
set_option linter.unusedVariables false
set_option linter.unusedSimpArgs false
def impl_FarthestWord.f (k : Nat) (l0_0 : List Int) (l1 : List Int) : Option (Int × Int) := (impl_someCode.f k l0_0 l1 ([] : List Int)).bind fun t102 => (if t102 = 0 then ((impl_farness.f l0_0 l1).bind fun t103 => ((slices_Max_int64_int64.f t103).bind fun t106 => ((slices_Index_int64_int64.f k t103 t106).bind fun t107 => (some (t107, 0))))) else (some (0, t102)))
set_option maxHeartbeats 8000000 in
set_option maxRecDepth 100000 in
theorem impl_FarthestWord.calls (k : Nat) (A0_0 : Option Addr) (c0_0 : Nat) (l0_0 : List Int) (A1 : Option Addr) (c1 : Nat) (l1 : List Int) (r1 : Int) (r2 : Int) (w : World) (hr0_0 : Kd.C (Kd.int .i64) w A0_0 l0_0.length l0_0) (hc0_0 : l0_0.length ≤ c0_0) (hr1 : Kd.C (Kd.int .i64) w A1 l1.length l1) (hc1 : l1.length ≤ c1) (h : impl_FarthestWord.f k l0_0 l1 = some (r1, r2)) :
  Calls Try.prog 41 #[.agg #[.slice A0_0 l0_0.length c0_0], .slice A1 l1.length c1] w fun e w' => e = .returned (.tuple #[.int .i64 r1, .int .i64 r2]) ∧ Below w.heap.size w w' := by
 have hu26 := Try.underlying26
 have HR0_0 := Aside0.mk hr0_0
 have HC0_0 := Aside0.mk hc0_0
 clear hr0_0 hc0_0
 have HR1 := Aside0.mk hr1
 have HC1 := Aside0.mk hc1
 clear hr1 hc1
 have HB := Aside0.mk (Below.refl w.heap.size w)
 have H : ((impl_someCode.f k l0_0 l1 ([] : List Int)).bind fun t102 => (if t102 = 0 then ((impl_farness.f l0_0 l1).bind fun t103 => ((slices_Max_int64_int64.f t103).bind fun t106 => ((slices_Index_int64_int64.f k t103 t106).bind fun t107 => (some (t107, 0))))) else (some (0, t102)))) = some (r1, r2) := h
 clear h
 replace H := Option.bind_eq_some_iff.mp H
 obtain ⟨t102, A30, H⟩ := H
 replace H : (if t102 = 0 then ((impl_farness.f l0_0 l1).bind fun t103 => ((slices_Max_int64_int64.f t103).bind fun t106 => ((slices_Index_int64_int64.f k t103 t106).bind fun t107 => (some (t107, 0))))) else (some (0, t102))) = some (r1, r2) := H
 have A3 := Aside0.mk A30
 clear A30
 by_cases c4 : t102 = 0
 rotate_left
 ·rw [if_neg c4] at H
  have c4b0 : (t102 == 0) = false := beq_eq_false_iff_ne.mpr c4
  have c4b1 : (t102 != 0) = true := bne_iff_ne.mpr c4
  simp only [Option.some.injEq, Prod.mk.injEq] at H
  obtain ⟨rfl, rfl⟩ := H
  go_enter Try.func41, Try.ntmps41
  go_wp2_with (first | ((with_reducible refine gate_dst (N := 2) rfl ?_); refine box_event ?hg (N := 2) ?hd (cs := #[.slice A0_0 l0_0.length c0_0]) (t := 26) ?hr ?_; (case hd => rfl); (case hg => rfl); (case hr => exact t3_); intro gb101 hg w15 hbox hb; have n0_ := b1_ HB hb; have n1_ := Aside0.mk (hbox); have n2_ := Aside0.mk ((by rw [hg]; exact (below_size (gb_ HB.out)) : w.heap.size ≤ gb101)); have n3_ := Aside0.mk ((by rw [hg]; exact (below_size (gb_ HB.out)) : w.heap.size ≤ gb101)); clear HB; have HB := n0_; have BK101 := n1_; have GW101 := n2_; have GE101 := n3_; clear n0_ n1_ n2_ n3_ hb hbox hg; have hcz16_0 : w15.cell? ⟨gb101, 0, none⟩ = some (.slice A0_0 l0_0.length c0_0) := (blk_cell BK101.out 0).trans rfl; have hfz16_0 := blk_frozen BK101.out 0) | ((with_reducible refine gate_callee (f := 90) rfl ?_); refine goesL_ (some 10) rfl rfl Try.func90 (by kernel_rfl) rfl #[.agg #[.slice A0_0 l0_0.length c0_0], .slice A1 l1.length c1, .slice none 0 0] rfl t1_ ?_; (refine (impl_someCode.calls k _ _ l0_0 _ _ l1 _ _ ([] : List Int) t102 _ ?side1 ?side2 ?side3 ?side4 ?side5 ?side6 A3.out).mono ?_); (case side1 => exact c2_ HR0_0 HB); (case side2 => exact HC0_0.out); (case side3 => exact c2_ HR1 HB); (case side4 => exact HC1.out); (case side5 => exact Kd.C_nil _ _); (case side6 => exact Nat.le_refl _); rintro e w17 ⟨rfl, hb⟩; refine ⟨_, rfl, ?_⟩; replace BK101 := a2_ BK101 hb; replace HB := b1_ HB hb; (try clear hb); (try clear hb2); (try clear hk); (try clear hi)))
  go_ret2
  exact ⟨t5_, gb_ HB.out⟩

 rw [if_pos c4] at H
 have c4b0 : (t102 == 0) = true := beq_iff_eq.mpr c4
 have c4b1 : (t102 != 0) = false := bne_eq_false_iff_eq.mpr c4
 clear c4
 replace H := Option.bind_eq_some_iff.mp H
 obtain ⟨t103, A50, H⟩ := H
 replace H : ((slices_Max_int64_int64.f t103).bind fun t106 => ((slices_Index_int64_int64.f k t103 t106).bind fun t107 => (some (t107, 0)))) = some (r1, r2) := H
 have A5 := Aside0.mk A50
 clear A50
 replace H := Option.bind_eq_some_iff.mp H
 obtain ⟨t106, A60, H⟩ := H
 replace H : ((slices_Index_int64_int64.f k t103 t106).bind fun t107 => (some (t107, 0))) = some (r1, r2) := H
 have A6 := Aside0.mk A60
 clear A60
 replace H := Option.bind_eq_some_iff.mp H
 obtain ⟨t107, A70, H⟩ := H
 replace H : (some (t107, 0)) = some (r1, r2) := H
 have A7 := Aside0.mk A70
 clear A70
 simp only [Option.some.injEq, Prod.mk.injEq] at H
 obtain ⟨rfl, rfl⟩ := H
 go_enter Try.func41, Try.ntmps41
 go_wp2_with (first | ((with_reducible refine gate_dst (N := 2) rfl ?_); refine box_event ?hg (N := 2) ?hd (cs := #[.slice A0_0 l0_0.length c0_0]) (t := 26) ?hr ?_; (case hd => rfl); (case hg => rfl); (case hr => exact t3_); intro gb101 hg w8 hbox hb; have n0_ := b1_ HB hb; have n1_ := Aside0.mk (hbox); have n2_ := Aside0.mk ((by rw [hg]; exact (below_size (gb_ HB.out)) : w.heap.size ≤ gb101)); have n3_ := Aside0.mk ((by rw [hg]; exact (below_size (gb_ HB.out)) : w.heap.size ≤ gb101)); clear HB; have HB := n0_; have BK101 := n1_; have GW101 := n2_; have GE101 := n3_; clear n0_ n1_ n2_ n3_ hb hbox hg; have hcz9_0 : w8.cell? ⟨gb101, 0, none⟩ = some (.slice A0_0 l0_0.length c0_0) := (blk_cell BK101.out 0).trans rfl; have hfz9_0 := blk_frozen BK101.out 0) | ((with_reducible refine gate_callee (f := 90) rfl ?_); refine goesL_ (some 10) rfl rfl Try.func90 (by kernel_rfl) rfl #[.agg #[.slice A0_0 l0_0.length c0_0], .slice A1 l1.length c1, .slice none 0 0] rfl t1_ ?_; (refine (impl_someCode.calls k _ _ l0_0 _ _ l1 _ _ ([] : List Int) t102 _ ?side1 ?side2 ?side3 ?side4 ?side5 ?side6 A3.out).mono ?_); (case side1 => exact c2_ HR0_0 HB); (case side2 => exact HC0_0.out); (case side3 => exact c2_ HR1 HB); (case side4 => exact HC1.out); (case side5 => exact Kd.C_nil _ _); (case side6 => exact Nat.le_refl _); rintro e w10 ⟨rfl, hb⟩; refine ⟨_, rfl, ?_⟩; replace BK101 := a2_ BK101 hb; replace HB := b1_ HB hb; (try clear hb); (try clear hb2); (try clear hk); (try clear hi); have hcz11_0 : w10.cell? ⟨gb101, 0, none⟩ = some (.slice A0_0 l0_0.length c0_0) := (blk_cell BK101.out 0).trans rfl; have hfz11_0 := blk_frozen BK101.out 0) | ((with_reducible refine gate_callee (f := 91) rfl ?_); refine goesL_ (some 16) rfl rfl Try.func91 (by kernel_rfl) rfl #[.agg #[.slice A0_0 l0_0.length c0_0], .slice A1 l1.length c1] rfl t1_ ?_; (with_reducible refine (impl_farness.calls _ _ l0_0 _ _ l1 t103 _ ?side1 ?side2 ?side3 ?side4 A5.out).mono ?_); (case side1 => exact c2_ HR0_0 HB); (case side2 => exact HC0_0.out); (case side3 => exact c2_ HR1 HB); (case side4 => exact HC1.out); rintro e w12 ⟨v104, rfl, ho0, hb⟩; refine ⟨_, rfl, ?_⟩; have HO105 := Aside0.mk (Kd.R_lower ho0 (below_size (gb_ HB.out))); replace BK101 := a2_ BK101 hb; replace HB := b1_ HB hb; (try clear hb); (try clear hb2); (try clear hk); (try clear hi); (try clear ho0); obtain ⟨Ao13, co13, eo13⟩ := Kd.R_slice HO105.out; subst eo13) | ((with_reducible refine gate_callee (f := 94) rfl ?_); refine goesL_ (some 19) rfl rfl Try.func94 (by kernel_rfl) rfl #[.slice Ao13 t103.length co13] rfl t1_ ?_; (with_reducible refine (slices_Max_int64_int64.calls _ _ t103 t106 _ ?side1 ?side2 A6.out).mono ?_); (case side1 => exact c1_ HO105); (case side2 => exact (Kd.R_reads' HO105.out).2.1); rintro e w14 ⟨rfl, hb⟩; refine ⟨_, rfl, ?_⟩; replace HO105 := a1_ HO105 hb; replace BK101 := a2_ BK101 hb; replace HB := b1_ HB hb; (try clear hb); (try clear hb2); (try clear hk); (try clear hi)) | ((with_reducible refine gate_callee (f := 93) rfl ?_); refine goesL_ (some 20) rfl rfl Try.func93 (by kernel_rfl) rfl #[.slice Ao13 t103.length co13, .int .i64 t106] rfl t1_ ?_; (with_reducible refine (slices_Index_int64_int64.calls k _ _ t103 t106 t107 _ ?side1 ?side2 A7.out).mono ?_); (case side1 => exact c1_ HO105); (case side2 => exact (Kd.R_reads' HO105.out).2.1); rintro e w' ⟨rfl, ⟨nd, rfl⟩⟩; refine ⟨_, rfl, ?_⟩))
 go_ret2
 exact ⟨t5_, gb_ HB.out⟩
end Go.Proofs.Ytlfipjdjmpdblaa.P
namespace Go.Proofs.Ytlfipjdjmpdblaa.P
open Go.RowKit Go.Proofs.YtlfipjdjmpdblaaW.PrintWords Go.Proofs.YtlfipjdjmpdblaaW.PrintLast Go.Proofs.YtlfipjdjmpdblaaW.PrintMore
attribute [local go_sem] max2_int min2_int max_two min_two max_three min_three max_four min_four
set_option linter.unusedVariables false
set_option linter.unusedSimpArgs false
def impl_radius.f (l0_0 : List Int) (l1 : List Int) : Option (Int) := (impl_farness.f l0_0 l1).bind fun t102 => ((slices_Max_int64_int64.f t102).bind fun t105 => (some t105))
set_option maxHeartbeats 8000000 in
set_option maxRecDepth 100000 in
theorem impl_radius.calls (A0_0 : Option Addr) (c0_0 : Nat) (l0_0 : List Int) (A1 : Option Addr) (c1 : Nat) (l1 : List Int) (r : Int) (w : World) (hr0_0 : Kd.C (Kd.int .i64) w A0_0 l0_0.length l0_0) (hc0_0 : l0_0.length ≤ c0_0) (hr1 : Kd.C (Kd.int .i64) w A1 l1.length l1) (hc1 : l1.length ≤ c1) (h : impl_radius.f l0_0 l1 = some r) :
  Calls Try.prog 96 #[.agg #[.slice A0_0 l0_0.length c0_0], .slice A1 l1.length c1] w fun e w' => e = .returned (.int .i64 r) ∧ Below w.heap.size w w' := by
 have hu26 := Try.underlying26
 have HR0_0 := Aside0.mk hr0_0
 have HC0_0 := Aside0.mk hc0_0
 clear hr0_0 hc0_0
 have HR1 := Aside0.mk hr1
 have HC1 := Aside0.mk hc1
 clear hr1 hc1
 have HB := Aside0.mk (Below.refl w.heap.size w)
 have H : ((impl_farness.f l0_0 l1).bind fun t102 => ((slices_Max_int64_int64.f t102).bind fun t105 => (some t105))) = some r := h
 clear h
 replace H := Option.bind_eq_some_iff.mp H
 obtain ⟨t102, A30, H⟩ := H
 replace H : ((slices_Max_int64_int64.f t102).bind fun t105 => (some t105)) = some r := H
 have A3 := Aside0.mk A30
 clear A30
 replace H := Option.bind_eq_some_iff.mp H
 obtain ⟨t105, A40, H⟩ := H
 replace H : (some t105) = some r := H
 have A4 := Aside0.mk A40
 clear A40
 obtain rfl := Option.some.inj H
 go_enter Try.func96, Try.ntmps96
 go_wp2_with (first | ((with_reducible refine gate_dst (N := 2) rfl ?_); refine box_event ?hg (N := 2) ?hd (cs := #[.slice A0_0 l0_0.length c0_0]) (t := 26) ?hr ?_; (case hd => rfl); (case hg => rfl); (case hr => exact t3_); intro gb101 hg w5 hbox hb; have n0_ := b1_ HB hb; have n1_ := Aside0.mk (hbox); have n2_ := Aside0.mk ((by rw [hg]; exact (below_size (gb_ HB.out)) : w.heap.size ≤ gb101)); have n3_ := Aside0.mk ((by rw [hg]; exact (below_size (gb_ HB.out)) : w.heap.size ≤ gb101)); clear HB; have HB := n0_; have BK101 := n1_; have GW101 := n2_; have GE101 := n3_; clear n0_ n1_ n2_ n3_ hb hbox hg; have hcz6_0 : w5.cell? ⟨gb101, 0, none⟩ = some (.slice A0_0 l0_0.length c0_0) := (blk_cell BK101.out 0).trans rfl; have hfz6_0 := blk_frozen BK101.out 0) | ((with_reducible refine gate_callee (f := 91) rfl ?_); refine goesL_ (some 7) rfl rfl Try.func91 (by kernel_rfl) rfl #[.agg #[.slice A0_0 l0_0.length c0_0], .slice A1 l1.length c1] rfl t1_ ?_; (with_reducible refine (impl_farness.calls _ _ l0_0 _ _ l1 t102 _ ?side1 ?side2 ?side3 ?side4 A3.out).mono ?_); (case side1 => exact c2_ HR0_0 HB); (case side2 => exact HC0_0.out); (case side3 => exact c2_ HR1 HB); (case side4 => exact HC1.out); rintro e w7 ⟨v103, rfl, ho0, hb⟩; refine ⟨_, rfl, ?_⟩; have HO104 := Aside0.mk (Kd.R_lower ho0 (below_size (gb_ HB.out))); replace BK101 := a2_ BK101 hb; replace HB := b1_ HB hb; (try clear hb); (try clear hb2); (try clear hk); (try clear hi); (try clear ho0); obtain ⟨Ao8, co8, eo8⟩ := Kd.R_slice HO104.out; subst eo8) | ((with_reducible refine gate_callee (f := 94) rfl ?_); refine goesL_ (some 8) rfl rfl Try.func94 (by kernel_rfl) rfl #[.slice Ao8 t102.length co8] rfl t1_ ?_; (with_reducible refine (slices_Max_int64_int64.calls _ _ t102 t105 _ ?side1 ?side2 A4.out).mono ?_); (case side1 => exact c1_ HO104); (case side2 => exact (Kd.R_reads' HO104.out).2.1); rintro e w9 ⟨rfl, hb⟩; refine ⟨_, rfl, ?_⟩; replace HO104 := a1_ HO104 hb; replace BK101 := a2_ BK101 hb; replace HB := b1_ HB hb; (try clear hb); (try clear hb2); (try clear hk); (try clear hi)))
 go_ret
 exact ⟨t5_, gb_ HB.out⟩
end Go.Proofs.Ytlfipjdjmpdblaa.P
set_option linter.unusedVariables false
set_option linter.unusedSimpArgs false
namespace Go.Proofs.Ytlfipjdjmpdblaa.Q
open Go.RowKit Go.Proofs.Ytlfipjdjmpdblaa.P Go.Proofs.YtlfipjdjmpdblaaW.PrintWords CC
end Go.Proofs.Ytlfipjdjmpdblaa.Q
set_option linter.unusedVariables false
set_option linter.unusedSimpArgs false
namespace Go.Proofs.Ytlfipjdjmpdblaa.Q
open Go.RowKit Go.Proofs.Ytlfipjdjmpdblaa.P Go.Proofs.YtlfipjdjmpdblaaW.PrintWords CC
def rCode (s c ws : List Int) : Int := if rWords s ws = 0 then if isC s c then 0 else 2 else rWords s ws
theorem rCode_zero {s c ws : List Int} (h : rCode s c ws = 0) : isSp s = true ∧ isC s c = true ∧ ∀ x ∈ ws, isW s x = true := by
  unfold rCode at h
  split at h
  · rename_i hw
    obtain ⟨h1, h2⟩ := rWords_zero hw
    split at h
    · rename_i hc
      exact ⟨h1, hc, h2⟩
    · cases h
  · rename_i hw
    exact absurd h hw
theorem rWords_nil (s : List Int) : rWords s [] = if isSp s then 0 else 1 := by
  unfold rWords
  by_cases h : isSp s = true <;> simp [h]
theorem isC_len {s c : List Int} (hs : isSp s = true) (h : isC s c = true) : c.length ≤ 1024 := by
  have := isC_length hs h
  have := isSp_prd hs
  omega
theorem isC_words {s c : List Int} (h : isC s c = true) : ∀ x ∈ c, isW s x = true := by
  simp only [isC, Bool.and_eq_true, List.all_eq_true] at h
  exact h.1
theorem isC_rd {s c : List Int} (h : isC s c = true) {n : Nat} (hn : n < c.length) : isW s (rd c (n : Int)) = true := by
  have : rd c (n : Int) = c[n] := by simp [rd, List.getD_eq_getElem?_getD, hn]
  rw [this]
  exact isC_words h _ (List.getElem_mem hn)
theorem codeCode_ev (s : List Int) {c ws : List Int} (hc : c.length ≤ 1048576) (hw : ws.length ≤ 1048576) : Ev (fun k => impl_codeCode.f k s c ws) (rCode s c ws) := by
  unfold impl_codeCode.f rCode
  refine Ev.bind (wordCode_ev s hw) ?_
  by_cases h : rWords s ws = 0
  · obtain ⟨hs, _⟩ := rWords_zero h
    simp only [if_pos h]
    refine Ev.bind (isCode_ev hs hc) ?_
    cases isC s c with
    | true => exact Ev.iff_pos rfl (Ev.now _)
    | false => exact Ev.iff_neg (by simp) (Ev.now _)
  · simp only [if_neg h]
    exact Ev.now _
theorem l01Given_ev (s : List Int) {c : List Int} (hc : c.length ≤ 1048576) : Ev (fun k => spec_l01Given.f k s c) (rCode s c []) := by
  unfold spec_l01Given.f rCode
  rw [rWords_nil]
  refine Ev.bind (l01Is_ev s) ?_
  by_cases hs : isSp s = true
  · simp only [hs, if_true]
    refine Ev.bind (l01Code_ev hs hc) ?_
    cases isC s c with
    | true => exact Ev.iff_pos rfl (Ev.now _)
    | false => exact Ev.iff_neg (by simp) (Ev.now _)
  · simp only [hs]
    exact Ev.now _
def selL (p : Int → Bool) (n : Nat) : List Int := ((List.range n).filter fun (i : Nat) => p (i : Int)).map fun (i : Nat) => (i : Int)
theorem selL_succ (p : Int → Bool) (n : Nat) : selL p (n + 1) = selL p n ++ if p (n : Int) then [(n : Int)] else [] := by
  unfold selL
  rw [List.range_succ, List.filter_append, List.map_append]
  congr 1
  by_cases h : p (n : Int) = true <;> simp [h]
theorem selL_len (p : Int → Bool) (n : Nat) : (selL p n).length ≤ n := by
  unfold selL
  have := List.length_filter_le (fun (i : Nat) => p (i : Int)) (List.range n)
  simpa using this
theorem mem_selL {p : Int → Bool} {n : Nat} {x : Int} : x ∈ selL p n ↔ 0 ≤ x ∧ x < n ∧ p x = true := by
  unfold selL
  simp only [List.mem_map, List.mem_filter, List.mem_range]
  constructor
  · rintro ⟨i, ⟨h1, h2⟩, rfl⟩
    exact ⟨by omega, by omega, h2⟩
  · rintro ⟨h1, h2, h3⟩
    obtain ⟨m, rfl⟩ := Int.eq_ofNat_of_zero_le h1
    exact ⟨m, ⟨by omega, h3⟩, rfl⟩
def NW (s : List Int) : Nat := (prd s).toNat
theorem NW_eq {s : List Int} (hs : isSp s = true) : ((NW s : Nat) : Int) = prd s := by
  have := isSp_prd1 hs
  unfold NW
  omega
theorem NW_le {s : List Int} (hs : isSp s = true) : NW s ≤ 1024 := by
  have := isSp_prd hs
  unfold NW
  omega
theorem isW_nat {s : List Int} (hs : isSp s = true) {n : Nat} (h : n < NW s) : isW s (n : Int) = true := by
  rw [isW_iff]
  have := NW_eq hs
  omega
end Go.Proofs.Ytlfipjdjmpdblaa.Q
namespace Go.Proofs.Ytlfipjdjmpdblaa.P
open Go.RowKit Go.Proofs.YtlfipjdjmpdblaaW.PrintWords Go.Proofs.YtlfipjdjmpdblaaW.PrintLast Go.Proofs.YtlfipjdjmpdblaaW.PrintMore
attribute [local go_sem] max2_int min2_int max_two min_two max_three min_three max_four min_four
set_option linter.unusedVariables false
set_option linter.unusedSimpArgs false
def impl_RadiusOf.f (k : Nat) (l0_0 : List Int) (l1 : List Int) : Option (Int × Int) := (impl_someCode.f k l0_0 l1 ([] : List Int)).bind fun t102 => (if t102 = 0 then ((impl_radius.f l0_0 l1).bind fun t103 => (some (t103, 0))) else (some (0, t102)))
set_option maxHeartbeats 8000000 in
set_option maxRecDepth 100000 in
theorem impl_RadiusOf.calls (k : Nat) (A0_0 : Option Addr) (c0_0 : Nat) (l0_0 : List Int) (A1 : Option Addr) (c1 : Nat) (l1 : List Int) (r1 : Int) (r2 : Int) (w : World) (hr0_0 : Kd.C (Kd.int .i64) w A0_0 l0_0.length l0_0) (hc0_0 : l0_0.length ≤ c0_0) (hr1 : Kd.C (Kd.int .i64) w A1 l1.length l1) (hc1 : l1.length ≤ c1) (h : impl_RadiusOf.f k l0_0 l1 = some (r1, r2)) :
  Calls Try.prog 43 #[.agg #[.slice A0_0 l0_0.length c0_0], .slice A1 l1.length c1] w fun e w' => e = .returned (.tuple #[.int .i64 r1, .int .i64 r2]) ∧ Below w.heap.size w w' := by
 have hu26 := Try.underlying26
 have HR0_0 := Aside0.mk hr0_0
 have HC0_0 := Aside0.mk hc0_0
 clear hr0_0 hc0_0
 have HR1 := Aside0.mk hr1
 have HC1 := Aside0.mk hc1
 clear hr1 hc1
 have HB := Aside0.mk (Below.refl w.heap.size w)
 have H : ((impl_someCode.f k l0_0 l1 ([] : List Int)).bind fun t102 => (if t102 = 0 then ((impl_radius.f l0_0 l1).bind fun t103 => (some (t103, 0))) else (some (0, t102)))) = some (r1, r2) := h
 clear h
 replace H := Option.bind_eq_some_iff.mp H
 obtain ⟨t102, A30, H⟩ := H
 replace H : (if t102 = 0 then ((impl_radius.f l0_0 l1).bind fun t103 => (some (t103, 0))) else (some (0, t102))) = some (r1, r2) := H
 have A3 := Aside0.mk A30
 clear A30
 by_cases c4 : t102 = 0
 rotate_left
 ·rw [if_neg c4] at H
  have c4b0 : (t102 == 0) = false := beq_eq_false_iff_ne.mpr c4
  have c4b1 : (t102 != 0) = true := bne_iff_ne.mpr c4
  simp only [Option.some.injEq, Prod.mk.injEq] at H
  obtain ⟨rfl, rfl⟩ := H
  go_enter Try.func43, Try.ntmps43
  go_wp2_with (first | ((with_reducible refine gate_dst (N := 2) rfl ?_); refine box_event ?hg (N := 2) ?hd (cs := #[.slice A0_0 l0_0.length c0_0]) (t := 26) ?hr ?_; (case hd => rfl); (case hg => rfl); (case hr => exact t3_); intro gb101 hg w11 hbox hb; have n0_ := b1_ HB hb; have n1_ := Aside0.mk (hbox); have n2_ := Aside0.mk ((by rw [hg]; exact (below_size (gb_ HB.out)) : w.heap.size ≤ gb101)); have n3_ := Aside0.mk ((by rw [hg]; exact (below_size (gb_ HB.out)) : w.heap.size ≤ gb101)); clear HB; have HB := n0_; have BK101 := n1_; have GW101 := n2_; have GE101 := n3_; clear n0_ n1_ n2_ n3_ hb hbox hg; have hcz12_0 : w11.cell? ⟨gb101, 0, none⟩ = some (.slice A0_0 l0_0.length c0_0) := (blk_cell BK101.out 0).trans rfl; have hfz12_0 := blk_frozen BK101.out 0) | ((with_reducible refine gate_callee (f := 90) rfl ?_); refine goesL_ (some 9) rfl rfl Try.func90 (by kernel_rfl) rfl #[.agg #[.slice A0_0 l0_0.length c0_0], .slice A1 l1.length c1, .slice none 0 0] rfl t1_ ?_; (refine (impl_someCode.calls k _ _ l0_0 _ _ l1 _ _ ([] : List Int) t102 _ ?side1 ?side2 ?side3 ?side4 ?side5 ?side6 A3.out).mono ?_); (case side1 => exact c2_ HR0_0 HB); (case side2 => exact HC0_0.out); (case side3 => exact c2_ HR1 HB); (case side4 => exact HC1.out); (case side5 => exact Kd.C_nil _ _); (case side6 => exact Nat.le_refl _); rintro e w13 ⟨rfl, hb⟩; refine ⟨_, rfl, ?_⟩; replace BK101 := a2_ BK101 hb; replace HB := b1_ HB hb; (try clear hb); (try clear hb2); (try clear hk); (try clear hi)))
  go_ret2
  exact ⟨t5_, gb_ HB.out⟩

 rw [if_pos c4] at H
 have c4b0 : (t102 == 0) = true := beq_iff_eq.mpr c4
 have c4b1 : (t102 != 0) = false := bne_eq_false_iff_eq.mpr c4
 clear c4
 replace H := Option.bind_eq_some_iff.mp H
 obtain ⟨t103, A50, H⟩ := H
 replace H : (some (t103, 0)) = some (r1, r2) := H
 have A5 := Aside0.mk A50
 clear A50
 simp only [Option.some.injEq, Prod.mk.injEq] at H
 obtain ⟨rfl, rfl⟩ := H
 go_enter Try.func43, Try.ntmps43
 go_wp2_with (first | ((with_reducible refine gate_dst (N := 2) rfl ?_); refine box_event ?hg (N := 2) ?hd (cs := #[.slice A0_0 l0_0.length c0_0]) (t := 26) ?hr ?_; (case hd => rfl); (case hg => rfl); (case hr => exact t3_); intro gb101 hg w6 hbox hb; have n0_ := b1_ HB hb; have n1_ := Aside0.mk (hbox); have n2_ := Aside0.mk ((by rw [hg]; exact (below_size (gb_ HB.out)) : w.heap.size ≤ gb101)); have n3_ := Aside0.mk ((by rw [hg]; exact (below_size (gb_ HB.out)) : w.heap.size ≤ gb101)); clear HB; have HB := n0_; have BK101 := n1_; have GW101 := n2_; have GE101 := n3_; clear n0_ n1_ n2_ n3_ hb hbox hg; have hcz7_0 : w6.cell? ⟨gb101, 0, none⟩ = some (.slice A0_0 l0_0.length c0_0) := (blk_cell BK101.out 0).trans rfl; have hfz7_0 := blk_frozen BK101.out 0) | ((with_reducible refine gate_callee (f := 90) rfl ?_); refine goesL_ (some 9) rfl rfl Try.func90 (by kernel_rfl) rfl #[.agg #[.slice A0_0 l0_0.length c0_0], .slice A1 l1.length c1, .slice none 0 0] rfl t1_ ?_; (refine (impl_someCode.calls k _ _ l0_0 _ _ l1 _ _ ([] : List Int) t102 _ ?side1 ?side2 ?side3 ?side4 ?side5 ?side6 A3.out).mono ?_); (case side1 => exact c2_ HR0_0 HB); (case side2 => exact HC0_0.out); (case side3 => exact c2_ HR1 HB); (case side4 => exact HC1.out); (case side5 => exact Kd.C_nil _ _); (case side6 => exact Nat.le_refl _); rintro e w8 ⟨rfl, hb⟩; refine ⟨_, rfl, ?_⟩; replace BK101 := a2_ BK101 hb; replace HB := b1_ HB hb; (try clear hb); (try clear hb2); (try clear hk); (try clear hi); have hcz9_0 : w8.cell? ⟨gb101, 0, none⟩ = some (.slice A0_0 l0_0.length c0_0) := (blk_cell BK101.out 0).trans rfl; have hfz9_0 := blk_frozen BK101.out 0) | ((with_reducible refine gate_callee (f := 96) rfl ?_); refine goesL_ (some 15) rfl rfl Try.func96 (by kernel_rfl) rfl #[.agg #[.slice A0_0 l0_0.length c0_0], .slice A1 l1.length c1] rfl t1_ ?_; (with_reducible refine (impl_radius.calls _ _ l0_0 _ _ l1 t103 _ ?side1 ?side2 ?side3 ?side4 A5.out).mono ?_); (case side1 => exact c2_ HR0_0 HB); (case side2 => exact HC0_0.out); (case side3 => exact c2_ HR1 HB); (case side4 => exact HC1.out); rintro e w10 ⟨rfl, hb⟩; refine ⟨_, rfl, ?_⟩; replace BK101 := a2_ BK101 hb; replace HB := b1_ HB hb; (try clear hb); (try clear hb2); (try clear hk); (try clear hi)))
 go_ret2
 exact ⟨t5_, gb_ HB.out⟩
end Go.Proofs.Ytlfipjdjmpdblaa.P
set_option linter.unusedVariables false
set_option linter.unusedSimpArgs false
namespace Go.Proofs.Ytlfipjdjmpdblaa.Q
open Go.RowKit Go.Proofs.Ytlfipjdjmpdblaa.P Go.Proofs.YtlfipjdjmpdblaaW.PrintWords CC
theorem l01Digits_l {s : List Int} (hs : s.all sizeOk = true) (hl : s.length ≤ 8) : ∀ (n : Nat) (u : Int) (ar : List Int), n ≤ s.length → ar.length = s.length → 0 ≤ u → u ≤ 1024 →
    Ev (fun k => spec_l01Digits.l0 k u ar ((n : Int) - 1) s) (dloop s n u ar)
  | 0, u, ar, _, _, _, _ => by
    refine Ev.step (f := fun k => some ar) (fun k => ?_) (Ev.now _)
    simp only [spec_l01Digits.l0]
    rw [if_neg (by omega)]
  | n + 1, u, ar, hn, ha, u0, u1 => by
    have hq := all_rd hs (show n < s.length by omega)
    obtain ⟨b0, b1, b2, b3⟩ := div_bounds u0 u1 hq
    have e : ((n + 1 : Nat) : Int) - 1 = (n : Int) := by omega
    rw [e]
    refine Ev.step (fun k => by simp only [spec_l01Digits.l0]; exact rfl) ?_
    refine Ev.iff_pos (by omega) (Ev.iff_pos (by omega) (Ev.iff_pos (by omega) (Ev.iff_neg (by omega) (Ev.iff_pos (by omega) ?_))))
    rw [b2, b3, pred_nat n (by omega), Int.toNat_natCast]
    exact l01Digits_l hs hl n _ _ (by omega) (by simpa using ha) b0 b1
theorem l01Digits_ev {s : List Int} (hs : isSp s = true) {w : Int} (hw : isW s w = true) : Ev (fun k => spec_l01Digits.f k s w) (dg s w) := by
  have hl := isSp_len hs
  obtain ⟨w0, w1⟩ := isW_b hs hw
  unfold spec_l01Digits.f
  refine Ev.iff_pos (by omega) (Ev.iff_pos (by omega) ?_)
  have e : wrap64 ((s.length : Int) - 1) = (s.length : Int) - 1 := wrap_id (by omega) (by omega)
  rw [e]
  have := l01Digits_l (isSp_all hs) hl s.length w (List.replicate ((s.length : Int)).toNat 0) (Nat.le_refl _) (by simp) w0 w1
  rw [dloop_eq s s.length w _ (Nat.le_refl _) (by simp)] at this
  simpa [dg] using this
end Go.Proofs.Ytlfipjdjmpdblaa.Q
set_option linter.unusedVariables false
set_option linter.unusedSimpArgs false
namespace Go.Proofs.Ytlfipjdjmpdblaa.Q
open Go.RowKit Go.Proofs.Ytlfipjdjmpdblaa.P Go.Proofs.YtlfipjdjmpdblaaW.PrintWords CC
def mdL (s : List Int) (w : Int) : Int → List Int → Int
  | a, [] => a
  | a, x :: l => mdL s w (mn a (dist s x w)) l
theorem mdL_le (s : List Int) (w : Int) : ∀ (l : List Int) (a : Int), mdL s w a l ≤ a
  | [], a => Int.le_refl a
  | x :: l, a => by
    have := mdL_le s w l (mn a (dist s x w))
    have h : mn a (dist s x w) ≤ a := by
      unfold mn
      split <;> omega
    simp only [mdL]
    omega
theorem l02To_l {s c : List Int} (hs : isSp s = true) (hc : isC s c = true) {w : Int} (hw : isW s w = true) : ∀ (m n : Nat) (a : Int), n + m = c.length →
    Ev (fun k => spec_l02To.l0 k c w a (n : Int) s) (mdL s w a (c.drop n))
  | 0, n, a, hm => by
    refine Ev.step (fun k => by simp only [spec_l02To.l0]; exact rfl) ?_
    refine Ev.iff_neg (by omega) ?_
    rw [drop_all (by omega)]
    exact Ev.now _
  | m + 1, n, a, hm => by
    have hn : n < c.length := by omega
    have hl := isC_len hs hc
    refine Ev.step (fun k => by simp only [spec_l02To.l0]; exact rfl) ?_
    refine Ev.iff_pos (by omega) ?_
    refine Ev.iff_pos (by omega) ?_
    refine Ev.bind (l01Distance_ev hs (isC_rd hc hn) hw) ?_
    rw [wrap_nat (by unfold maxLen; omega), drop_cons c hn, mdL]
    exact l02To_l hs hc hw m (n + 1) _ (by omega)
theorem dist_8 {s : List Int} (hs : isSp s = true) (u w : Int) : dist s u w ≤ 8 := by
  have := dist_le s u w
  have := isSp_len hs
  omega
theorem l02To_ev {s c : List Int} (hs : isSp s = true) (hc : isC s c = true) {w : Int} (hw : isW s w = true) (hp : 0 < c.length) {b : Int} (hb : 8 ≤ b) : Ev (fun k => spec_l02To.f k s c w) (mdL s w b c) := by
  unfold spec_l02To.f
  refine Ev.iff_pos (by omega) ?_
  have h0 := l01Distance_ev hs (isC_rd hc hp) hw
  refine Ev.bind (a := dist s (rd c 0) w) (by simpa using h0) ?_
  have := l02To_l hs hc hw (c.length - 1) 1 (dist s (rd c 0) w) (by omega)
  have e : mdL s w b c = mdL s w (dist s (rd c 0) w) (c.drop 1) := by
    have h1 := drop_cons c hp
    rw [List.drop_zero] at h1
    rw [show mdL s w b c = mdL s w b (rd c ((0 : Nat) : Int) :: c.drop (0 + 1)) from congrArg _ h1, mdL]
    have h2 := dist_8 hs (rd c 0) w
    have : mn b (dist s (rd c 0) w) = dist s (rd c 0) w := by
      unfold mn
      split <;> omega
    rw [show ((0 : Nat) : Int) = 0 from rfl, this]
  rw [e]
  exact this
end Go.Proofs.Ytlfipjdjmpdblaa.Q
set_option linter.unusedVariables false
set_option linter.unusedSimpArgs false
namespace Go.Proofs.Ytlfipjdjmpdblaa.Q
open Go.RowKit Go.Proofs.Ytlfipjdjmpdblaa.P Go.Proofs.YtlfipjdjmpdblaaW.PrintWords CC
def ballL (s : List Int) (w r : Int) : List Int := selL (fun u => decide (dist s w u ≤ r)) (NW s)
theorem ballL_len {s : List Int} (hs : isSp s = true) (w r : Int) : (ballL s w r).length ≤ 1024 := by
  have := selL_len (fun u => decide (dist s w u ≤ r)) (NW s)
  have := NW_le hs
  unfold ballL
  omega
theorem l01Ball_l {s : List Int} (hs : isSp s = true) {w : Int} (hw : isW s w = true) (r : Int) : ∀ (m n : Nat), n + m = NW s →
    Ev (fun k => spec_l01Ball.l0 k w r (selL (fun u => decide (dist s w u ≤ r)) n) (n : Int) s) (ballL s w r)
  | 0, n, hm => by
    have hN := NW_eq hs
    obtain rfl : n = NW s := by omega
    refine Ev.step (fun k => by simp only [spec_l01Ball.l0]; exact rfl) ?_
    refine Ev.bind (l01N_sp hs) ?_
    refine Ev.iff_neg (by omega) ?_
    exact Ev.now _
  | m + 1, n, hm => by
    have hN := NW_eq hs
    have hle := NW_le hs
    have hlen := selL_len (fun u => decide (dist s w u ≤ r)) n
    have ih := l01Ball_l hs hw r m (n + 1) (by omega)
    rw [selL_succ] at ih
    refine Ev.step (fun k => by simp only [spec_l01Ball.l0]; exact rfl) ?_
    refine Ev.bind (l01N_sp hs) ?_
    refine Ev.iff_pos (by omega) ?_
    refine Ev.bind (l01Distance_ev hs (isW_nat hs (show n < NW s by omega)) hw) ?_
    rw [dist_comm, wrap_nat (by unfold maxLen; omega)]
    by_cases h : dist s w (n : Int) ≤ r
    · rw [decide_eq_true h, if_pos rfl] at ih
      exact Ev.iff_pos h (Ev.iff_pos (by omega) ih)
    · rw [decide_eq_false h, if_neg (by simp), List.append_nil] at ih
      exact Ev.iff_neg h ih
theorem l01Ball_ev {s : List Int} (hs : isSp s = true) {w : Int} (hw : isW s w = true) (r : Int) : Ev (fun k => spec_l01Ball.f k s w r) (ballL s w r) := by
  unfold spec_l01Ball.f
  simpa [selL] using l01Ball_l hs hw r (NW s) 0 (by omega)
end Go.Proofs.Ytlfipjdjmpdblaa.Q
namespace Go.Proofs.Ytlfipjdjmpdblaa.P
open Go.RowKit Go.Proofs.YtlfipjdjmpdblaaW.PrintWords Go.Proofs.YtlfipjdjmpdblaaW.PrintLast Go.Proofs.YtlfipjdjmpdblaaW.PrintMore
attribute [local go_sem] max2_int min2_int max_two min_two max_three min_three max_four min_four
set_option linter.unusedVariables false
set_option linter.unusedSimpArgs false
mutual
def laws_FnNearest.j0 : Nat → List Int → List Int → Int → List Int → Int → Bool → List Int → Option (Bool)
  | 0, _, _, _, _, _, _, _ => none
  | k + 1, x0, x4, x5, x6, x7, x57, x110000 => if x57 = true then (some false) else ((impl_DistanceTo.f k x110000 x4 x5).bind fun bt119 => ((spec_DistanceTo.f k x110000 x4 x5).bind fun bt121 => (if bt119.2 = bt121.2 then (laws_FnNearest.j1 k x0 x4 x5 x6 x7 bt119.1 bt119.2 (bt119.1 != bt121.1) x110000) else (laws_FnNearest.j1 k x0 x4 x5 x6 x7 bt119.1 bt119.2 true x110000))))
def laws_FnNearest.j1 : Nat → List Int → List Int → Int → List Int → Int → Int → Int → Bool → List Int → Option (Bool)
  | 0, _, _, _, _, _, _, _, _, _ => none
  | k + 1, x0, x4, x5, x6, x7, x10, x11, x79, x110000 => if x79 = true then (some false) else ((spec_DrawFarthestWord.f k x0).bind fun bt123 => ((impl_FarthestWord.f k bt123.1 bt123.2).bind fun bt130 => ((spec_FarthestWord.f k bt123.1 bt123.2).bind fun bt132 => (if bt130.2 = bt132.2 then (laws_FnNearest.j2 k x4 x5 x6 x7 x10 x11 bt123.2 bt130.1 bt130.2 (bt130.1 != bt132.1) x110000 bt123.1) else (laws_FnNearest.j2 k x4 x5 x6 x7 x10 x11 bt123.2 bt130.1 bt130.2 true x110000 bt123.1)))))
def laws_FnNearest.j2 : Nat → List Int → Int → List Int → Int → Int → Int → List Int → Int → Int → Bool → List Int → List Int → Option (Bool)
  | 0, _, _, _, _, _, _, _, _, _, _, _, _ => none
  | k + 1, x4, x5, x6, x7, x10, x11, x15, x16, x17, x104, x110000, x130000 => if x104 = true then (some false) else (if x17 = 0 then ((impl_RadiusOf.f k x130000 x15).bind fun bt134 => ((impl_DistanceTo.f k x130000 x15 x16).bind fun bt136 => (if bt134.2 = 0 then (if bt136.2 = 0 then (if bt136.1 = bt134.1 then (laws_FnNearest.j3 k x4 x5 x6 x7 x10 x11 x110000) else (some false)) else (some false)) else (some false)))) else (laws_FnNearest.j3 k x4 x5 x6 x7 x10 x11 x110000))
def laws_FnNearest.j3 : Nat → List Int → Int → List Int → Int → Int → Int → List Int → Option (Bool)
  | 0, _, _, _, _, _, _, _ => none
  | k + 1, x4, x5, x6, x7, x10, x11, x110000 => if x7 = 0 then (if (x4.length : Int) = 0 then (if (x6.length : Int) = 0 then (some (x11 == 5)) else (some false)) else (laws_FnNearest.l0 k x4 x5 x6 x10 x11 0 x110000)) else (if (x6.length : Int) = 0 then (some (x11 == x7)) else (some false))
def laws_FnNearest.l0 : Nat → List Int → Int → List Int → Int → Int → Int → List Int → Option (Bool)
  | 0, _, _, _, _, _, _, _ => none
  | k + 1, x4, x5, x6, x10, x11, x24, x110000 => if x24 < (x4.length : Int) then (if 0 ≤ x24 then ((impl_DistanceOf.f k x110000 (rd x4 x24) x5).bind fun bt139 => (if bt139.2 = 0 then (if bt139.1 < x10 then (some false) else ((laws_hasInt.f k x6 (rd x4 x24)).bind fun t142 => (if ((bt139.1 == x10) != t142) = true then (some false) else (laws_FnNearest.l0 k x4 x5 x6 x10 x11 (wrap64 (x24 + 1)) x110000)))) else (some false))) else (none)) else (if x11 = 0 then (some (decide ((x6.length : Int) > 0))) else (some false))
end
def laws_FnNearest.f (k : Nat) (l0 : List Int) : Option (Bool) := (laws_big.f l0).bind fun t101 => (if t101 = true then (some true) else ((spec_DrawNearestWords.f k l0).bind fun bt102 => ((impl_NearestWords.f k bt102.1 bt102.2.1 bt102.2.2).bind fun bt110 => ((spec_NearestWords.f k bt102.1 bt102.2.1 bt102.2.2).bind fun bt114 => (if bt110.2 = bt114.2 then ((laws_likeInts.f k bt110.1 bt114.1).bind fun t118 => (laws_FnNearest.j0 k l0 bt102.2.1 bt102.2.2 bt110.1 bt110.2 (!t118) bt102.1)) else (laws_FnNearest.j0 k l0 bt102.2.1 bt102.2.2 bt110.1 bt110.2 true bt102.1))))))
def laws_FnNearest.T29 : Bool × List (List Nat × List Nat) := (true, [([], []), ([], []), ([], []), ([1, 2], [1, 2]), ([3], [3]), ([], []), ([0, 4, 5], [0, 4, 5]), ([6], [6]), ([7], [7]), ([7], [7]), ([8, 6, 0, 1, 2, 3, 4, 5, 6, 7, 8], [8]), ([9, 10, 0, 1, 2, 3, 4, 5, 6, 7, 8, 9, 10], [9])])
def laws_FnNearest.B29 : List Nat := [0, 0, 0, 6, 14, 0, 63, 127, 255, 255, 511, 2047]
theorem laws_FnNearest.tab29 : rtab .any (opsOf Try.f4 29) = laws_FnNearest.T29 := by kernel_rfl
theorem laws_FnNearest.bits29 : waitsOk laws_FnNearest.T29.2 laws_FnNearest.B29 = true := by kernel_rfl
set_option maxHeartbeats 8000000 in
set_option maxRecDepth 100000 in
theorem laws_FnNearest.calls (k : Nat) (A0 : Option Addr) (c0 : Nat) (l0 : List Int) (r : Bool) (w : World) (hr0 : Kd.C (Kd.int .u8) w A0 l0.length l0) (hc0 : l0.length ≤ c0) (h : laws_FnNearest.f k l0 = some r) :
  Calls Try.prog 4 #[.slice A0 l0.length c0] w fun e w' => e = .returned (.bool r) ∧ Below w.heap.size w w' := by
 have hu26 := Try.underlying26
 have HR0 := Aside0.mk hr0
 have HC0 := Aside0.mk hc0
 clear hr0 hc0
 have HB := Aside0.mk (Below.refl w.heap.size w)
 have H : ((laws_big.f l0).bind fun t101 => (if t101 = true then (some true) else ((spec_DrawNearestWords.f k l0).bind fun bt102 => ((impl_NearestWords.f k bt102.1 bt102.2.1 bt102.2.2).bind fun bt110 => ((spec_NearestWords.f k bt102.1 bt102.2.1 bt102.2.2).bind fun bt114 => (if bt110.2 = bt114.2 then ((laws_likeInts.f k bt110.1 bt114.1).bind fun t118 => (laws_FnNearest.j0 k l0 bt102.2.1 bt102.2.2 bt110.1 bt110.2 (!t118) bt102.1)) else (laws_FnNearest.j0 k l0 bt102.2.1 bt102.2.2 bt110.1 bt110.2 true bt102.1))))))) = some r := h
 clear h
 replace H := Option.bind_eq_some_iff.mp H
 obtain ⟨t101, A20, H⟩ := H
 replace H : (if t101 = true then (some true) else ((spec_DrawNearestWords.f k l0).bind fun bt102 => ((impl_NearestWords.f k bt102.1 bt102.2.1 bt102.2.2).bind fun bt110 => ((spec_NearestWords.f k bt102.1 bt102.2.1 bt102.2.2).bind fun bt114 => (if bt110.2 = bt114.2 then ((laws_likeInts.f k bt110.1 bt114.1).bind fun t118 => (laws_FnNearest.j0 k l0 bt102.2.1 bt102.2.2 bt110.1 bt110.2 (!t118) bt102.1)) else (laws_FnNearest.j0 k l0 bt102.2.1 bt102.2.2 bt110.1 bt110.2 true bt102.1)))))) = some r := H
 have A2 := Aside0.mk A20
 clear A20
 by_cases c3 : t101 = true
 ·subst c3
  have H1 : (some true) = some r := by rw [if_pos rfl] at H; exact H
  clear H
  have H := H1
  clear H1
  obtain rfl := Option.some.inj H
  go_enter Try.func4, Try.ntmps4
  go_wp2_with (first | ((with_reducible refine gate_callee (f := 6) rfl ?_); refine goesL_ (some 28) rfl rfl Try.func6 (by kernel_rfl) rfl #[.slice A0 l0.length c0] rfl t1_ ?_; (with_reducible refine (laws_big.calls _ _ l0 true _ ?side1 ?side2 A2.out).mono ?_); (case side1 => repeat (first | exact HR0.out | (with_reducible refine Kd.C_alloc ?_ _) | (with_reducible refine Kd.C_drewN ?_ _) | (with_reducible refine Kd.C_drew ?_))); (case side2 => exact HC0.out); rintro e w' ⟨rfl, ⟨nd, rfl⟩⟩; refine ⟨_, rfl, ?_⟩))
  go_ret
  exact ⟨t5_, gb_ HB.out⟩
 replace c3 := Bool.eq_false_iff.mpr c3
 subst c3
 have H1 : ((spec_DrawNearestWords.f k l0).bind fun bt102 => ((impl_NearestWords.f k bt102.1 bt102.2.1 bt102.2.2).bind fun bt110 => ((spec_NearestWords.f k bt102.1 bt102.2.1 bt102.2.2).bind fun bt114 => (if bt110.2 = bt114.2 then ((laws_likeInts.f k bt110.1 bt114.1).bind fun t118 => (laws_FnNearest.j0 k l0 bt102.2.1 bt102.2.2 bt110.1 bt110.2 (!t118) bt102.1)) else (laws_FnNearest.j0 k l0 bt102.2.1 bt102.2.2 bt110.1 bt110.2 true bt102.1))))) = some r := by rw [if_neg (show ¬ (false = true) by decide)] at H; exact H
 clear H
 have H := H1
 clear H1
 replace H := Option.bind_eq_some_iff.mp H
 obtain ⟨⟨t102, t105, t108⟩, A40, H⟩ := H
 replace H : ((impl_NearestWords.f k t102 t105 t108).bind fun bt110 => ((spec_NearestWords.f k t102 t105 t108).bind fun bt114 => (if bt110.2 = bt114.2 then ((laws_likeInts.f k bt110.1 bt114.1).bind fun t118 => (laws_FnNearest.j0 k l0 t105 t108 bt110.1 bt110.2 (!t118) t102)) else (laws_FnNearest.j0 k l0 t105 t108 bt110.1 bt110.2 true t102)))) = some r := H
 have A4 := Aside0.mk A40
 clear A40
 replace H := Option.bind_eq_some_iff.mp H
 obtain ⟨⟨t110, t113⟩, A50, H⟩ := H
 replace H : ((spec_NearestWords.f k t102 t105 t108).bind fun bt114 => (if t113 = bt114.2 then ((laws_likeInts.f k t110 bt114.1).bind fun t118 => (laws_FnNearest.j0 k l0 t105 t108 t110 t113 (!t118) t102)) else (laws_FnNearest.j0 k l0 t105 t108 t110 t113 true t102))) = some r := H
 have A5 := Aside0.mk A50
 clear A50
 replace H := Option.bind_eq_some_iff.mp H
 obtain ⟨⟨t114, t117⟩, A60, H⟩ := H
 replace H : (if t113 = t117 then ((laws_likeInts.f k t110 t114).bind fun t118 => (laws_FnNearest.j0 k l0 t105 t108 t110 t113 (!t118) t102)) else (laws_FnNearest.j0 k l0 t105 t108 t110 t113 true t102)) = some r := H
 have A6 := Aside0.mk A60
 clear A60
 have HC7 := Aside0.mk H
 clear H
 go_enter Try.func4, Try.ntmps4
 go_upto_region 6 with (first | ((with_reducible refine gate_callee (f := 6) rfl ?_); refine goesL_ (some 28) rfl rfl Try.func6 (by kernel_rfl) rfl #[.slice A0 l0.length c0] rfl t1_ ?_; (with_reducible refine (laws_big.calls _ _ l0 false _ ?side1 ?side2 A2.out).mono ?_); (case side1 => repeat (first | exact HR0.out | (with_reducible refine Kd.C_alloc ?_ _) | (with_reducible refine Kd.C_drewN ?_ _) | (with_reducible refine Kd.C_drew ?_))); (case side2 => exact HC0.out); rintro e w' ⟨rfl, ⟨nd, rfl⟩⟩; refine ⟨_, rfl, ?_⟩) | ((with_reducible refine gate_callee (f := 35) rfl ?_); refine goesL_ (some 31) rfl rfl Try.func35 (by kernel_rfl) rfl #[.slice A0 l0.length c0] rfl t1_ ?_; (with_reducible refine (spec_DrawNearestWords.calls k _ _ l0 t102 t105 t108 _ ?side1 ?side2 A4.out).mono ?_); (case side1 => repeat (first | exact HR0.out | (with_reducible refine Kd.C_alloc ?_ _) | (with_reducible refine Kd.C_drewN ?_ _) | (with_reducible refine Kd.C_drew ?_))); (case side2 => exact HC0.out); rintro e w8 ⟨v103, v106, rfl, ho0, ho1, hb⟩; refine ⟨_, rfl, ?_⟩; have HO104 := Aside0.mk (Kd.R_lower ho0 (below_size (gb_ HB.out))); have HO107 := Aside0.mk (Kd.R_lower ho1 (below_size (gb_ HB.out))); replace HB := b1_ HB hb; (try clear hb); (try clear hb2); (try clear hk); (try clear hi); (try clear ho0); (try clear ho1)) | ((with_reducible refine gate_dst (N := 3) rfl ?_); refine box_event ?hg (N := 3) ?hd (cs := #[.slice none 0 0]) (t := 26) ?hr ?_; (case hd => rfl); (case hg => rfl); (case hr => exact t3_); intro gb109 hg w9 hbox hb; have n0_ := a1_ HO104 hb; have n1_ := a1_ HO107 hb; have n2_ := b1_ HB hb; have n3_ := Aside0.mk (hbox); have n4_ := Aside0.mk ((by rw [hg]; exact (below_size (gb_ HB.out)) : w.heap.size ≤ gb109)); have n5_ := Aside0.mk ((by rw [hg]; exact (below_size (gb_ HB.out)) : w.heap.size ≤ gb109)); clear HO104 HO107 HB; have HO104 := n0_; have HO107 := n1_; have HB := n2_; have BK109 := n3_; have GW109 := n4_; have GE109 := n5_; clear n0_ n1_ n2_ n3_ n4_ n5_ hb hbox hg; obtain ⟨Ao10, co10, eo10⟩ := Kd.R_slice HO104.out; subst eo10; have hcz11_0 : w9.cell? ⟨gb109, 0, none⟩ = some (.slice none 0 0) := (blk_cell BK109.out 0).trans rfl; have hfz11_0 := blk_frozen BK109.out 0; obtain ⟨Ao12, co12, eo12⟩ := Kd.R_slice HO107.out; subst eo12) | ((with_reducible refine gate_callee (f := 36) rfl ?_); refine goesL_ (some 39) rfl rfl Try.func36 (by kernel_rfl) rfl #[.agg #[.slice Ao10 t102.length co10], .slice Ao12 t105.length co12, .int .i64 t108] rfl t1_ ?_; (with_reducible refine (impl_NearestWords.calls k _ _ t102 _ _ t105 t108 t110 t113 _ ?side1 ?side2 ?side3 ?side4 A5.out).mono ?_); (case side1 => refine (Kd.R_reads' (e := 2) (base := w.heap.size) (ok := fun _ => True) (n := t102.length) (c := co10) ?_).2.2; exact (rb_ (Kd.R_mono (Kd.R_far (p := ⟨gb109, 0, none⟩) (Kd.R_types HO104.out BK109.out (by decide)) (fun _ hk => hk.2) (.slice Ao10 t102.length co10)) (fun _ _ => trivial)))); (case side2 => exact (Kd.R_reads' HO104.out).2.1); (case side3 => refine (Kd.R_reads' (e := 2) (base := w.heap.size) (ok := fun _ => True) (n := t105.length) (c := co12) ?_).2.2; exact (rb_ (Kd.R_mono (Kd.R_far (p := ⟨gb109, 0, none⟩) (Kd.R_types HO107.out BK109.out (by decide)) (fun _ hk => hk.2) (.slice Ao10 t102.length co10)) (fun _ _ => trivial)))); (case side4 => exact (Kd.R_reads' HO107.out).2.1); rintro e w13 ⟨v111, rfl, ho0, hb⟩; refine ⟨_, rfl, ?_⟩; have HO112 := Aside0.mk (Kd.R_lower (Kd.R_new' (Kd.R_new' ho0 (Kd.R_lt (rb_ (Kd.R_mono (Kd.R_far (p := ⟨gb109, 0, none⟩) (Kd.R_types HO104.out BK109.out (by decide)) (fun _ hk => hk.2) (.slice Ao10 t102.length co10)) (fun _ h_ => h_.1))))) (Kd.R_lt (rb_ (Kd.R_mono (Kd.R_far (p := ⟨gb109, 0, none⟩) (Kd.R_types HO107.out BK109.out (by decide)) (fun _ hk => hk.2) (.slice Ao10 t102.length co10)) (fun _ h_ => h_.1))))) (below_size (gb_ HB.out))); replace HO104 := a8_ HO104 BK109 ho0 hb; replace HO107 := a8_ HO107 BK109 ho0 hb; replace BK109 := Aside0.mk (blk_below (g := gb109) (o := .cells #[.slice Ao10 t102.length co10] 26 (0, 0)) (by (with_reducible repeat (first | refine blk_drewN ?_ _ | refine blk_drew ?_ | refine blk_alloc ?_ _)); refine blk_put (cs := #[.slice none 0 0]) ?_ 0 _ rfl; (with_reducible repeat (first | refine blk_drewN ?_ _ | refine blk_drew ?_ | refine blk_alloc ?_ _)); exact BK109.out) hb); replace HB := b1_ HB hb; (try clear hb); (try clear hb2); (try clear hk); (try clear hi); (try clear ho0); have hcz14_0 : w13.cell? ⟨gb109, 0, none⟩ = some (.slice Ao10 t102.length co10) := (blk_cell BK109.out 0).trans rfl; have hfz14_0 := blk_frozen BK109.out 0) | ((with_reducible refine gate_callee (f := 37) rfl ?_); refine goesL_ (some 46) rfl rfl Try.func37 (by kernel_rfl) rfl #[.agg #[.slice Ao10 t102.length co10], .slice Ao12 t105.length co12, .int .i64 t108] rfl t1_ ?_; (with_reducible refine (spec_NearestWords.calls k _ _ t102 _ _ t105 t108 t114 t117 _ ?side1 ?side2 ?side3 ?side4 A6.out).mono ?_); (case side1 => exact c1_ HO104); (case side2 => exact (Kd.R_reads' HO104.out).2.1); (case side3 => exact c1_ HO107); (case side4 => exact (Kd.R_reads' HO107.out).2.1); rintro e w15 ⟨v115, rfl, ho0, hb⟩; refine ⟨_, rfl, ?_⟩; have HO116 := Aside0.mk (Kd.R_lower (Kd.R_new' (Kd.R_new' (Kd.R_new' ho0 (Kd.R_lt (rb_ HO104.out))) (Kd.R_lt (rb_ HO107.out))) (Kd.R_lt (rb_ HO112.out))) (below_size (gb_ HB.out))); replace HO104 := a5_ HO104 ho0 hb; replace HO107 := a5_ HO107 ho0 hb; replace HO112 := a5_ HO112 ho0 hb; replace BK109 := a2_ BK109 hb; replace HB := b1_ HB hb; (try clear hb); (try clear hb2); (try clear hk); (try clear hi); (try clear ho0)))
 (try simp only [Act.put, List.setIfInBounds_toArray, List.set_cons_zero, List.set_cons_succ])
 go_cut [57] (fun cs_57 wc => ∃ (kq : Nat) (x57_6 : Bool), cs_57 = .bool x57_6 ∧ Aside0 (laws_FnNearest.j0 kq l0 t105 t108 t110 t113 x57_6 t102 = some r) ∧ Aside0 (kq ≤ k) ∧ Aside0 (Kd.R (Kd.int .i64) 2 wc w.heap.size (fun k_ => OB_ k_ v111 ∧ OB_ k_ (.slice Ao10 t102.length co10)) (.slice Ao12 t105.length co12) t105) ∧ Aside0 (Kd.R (Kd.int .i64) 2 wc w.heap.size (fun k_ => OB_ k_ (.slice Ao12 t105.length co12) ∧ OB_ k_ (.slice Ao10 t102.length co10)) v111 t110) ∧ Aside0 (Kd.R (Kd.int .i64) 2 wc w.heap.size (fun k_ => OB_ k_ (.slice Ao12 t105.length co12) ∧ OB_ k_ v111) (.slice Ao10 t102.length co10) t102) ∧ Aside0 (wc.heap[gb109]? = some (.cells #[(.slice Ao10 t102.length co10)] 26 (0, 0))) ∧ Aside0 (Below w.heap.size w wc))
 case first =>
  have H := HC7.out
  clear HC7
  by_cases c16 : t113 = t117
  rotate_left
  ·rw [if_neg c16] at H
   have c16b0 : (t113 == t117) = false := beq_eq_false_iff_ne.mpr c16
   have c16b1 : (t113 != t117) = true := bne_iff_ne.mpr c16
   (first | rw [c16b0] | (simp only [i64_w, i32_w]; rw [c16b0]) | skip)
   have H' := Aside0.mk H
   clear H
   go_wp2
   go_meet
   case rel => exact ⟨_, (true), t2_, H', ⟨by first | omega | exact Nat.le_refl _⟩, ⟨by (with_reducible repeat (first | apply Kd.R_alloc | apply Kd.R_drewN | apply Kd.R_drew)); exact Kd.R_mono HO107.out (fun _ hk => ⟨hk.1.2, hk.1.1⟩)⟩, ⟨by (with_reducible repeat (first | apply Kd.R_alloc | apply Kd.R_drewN | apply Kd.R_drew)); exact Kd.R_mono HO112.out (fun _ hk => ⟨hk.1.2, hk.1.1.2⟩)⟩, ⟨by (with_reducible repeat (first | apply Kd.R_alloc | apply Kd.R_drewN | apply Kd.R_drew)); exact Kd.R_mono HO104.out (fun _ hk => ⟨hk.1.1, hk.1.2⟩)⟩, ⟨bb_ BK109.out⟩, ⟨gb_ HB.out⟩⟩
  rw [if_pos c16] at H
  have c16b0 : (t113 == t117) = true := beq_iff_eq.mpr c16
  have c16b1 : (t113 != t117) = false := bne_eq_false_iff_eq.mpr c16
  clear c16
  (first | rw [c16b0] | (simp only [i64_w, i32_w]; rw [c16b0]) | skip)
  replace H := Option.bind_eq_some_iff.mp H
  obtain ⟨t118, A170, H⟩ := H
  replace H : (laws_FnNearest.j0 k l0 t105 t108 t110 t113 (!t118) t102) = some r := H
  have A17 := Aside0.mk A170
  clear A170
  have H' := Aside0.mk H
  clear H
  obtain ⟨Ao18, co18, eo18⟩ := Kd.R_slice HO112.out
  subst eo18
  obtain ⟨Ao19, co19, eo19⟩ := Kd.R_slice HO116.out
  subst eo19
  go_wp2_with (first | (go_at_call 18; (with_reducible refine (laws_likeInts.calls k _ _ t110 _ _ t114 t118 _ ?side1 ?side2 ?side3 ?side4 A17.out).mono ?_); (case side1 => exact c1_ HO112); (case side2 => exact (Kd.R_reads' HO112.out).2.1); (case side3 => exact c1_ HO116); (case side4 => exact (Kd.R_reads' HO116.out).2.1); rintro e w' ⟨rfl, ⟨nd, rfl⟩⟩))
  go_meet
  case rel => exact ⟨_, (!t118), t2_, H', ⟨by first | omega | exact Nat.le_refl _⟩, ⟨by (with_reducible repeat (first | apply Kd.R_alloc | apply Kd.R_drewN | apply Kd.R_drew)); exact Kd.R_mono HO107.out (fun _ hk => ⟨hk.1.2, hk.1.1⟩)⟩, ⟨by (with_reducible repeat (first | apply Kd.R_alloc | apply Kd.R_drewN | apply Kd.R_drew)); exact Kd.R_mono HO112.out (fun _ hk => ⟨hk.1.2, hk.1.1.2⟩)⟩, ⟨by (with_reducible repeat (first | apply Kd.R_alloc | apply Kd.R_drewN | apply Kd.R_drew)); exact Kd.R_mono HO104.out (fun _ hk => ⟨hk.1.1, hk.1.2⟩)⟩, ⟨bb_ BK109.out⟩, ⟨gb_ HB.out⟩⟩
 clear HC7
 try clear c1
 try clear p2
 try clear c3
 try clear c4
 try clear c6
 try clear c16
 try clear c16b0
 try clear c16b1
 try clear hcz11_0
 try clear hcz14_0
 try clear hfz11_0
 try clear hfz14_0
 obtain ⟨kq, x57_6, rfl, HA, HJ6, HO_4, HO_6, HO_110000, BK109, HB⟩ := hcut
 cases kq with
 | zero => exact absurd HA.out (by simp [laws_FnNearest.j0])
 | succ kj6 =>
  have H := HA.out
  clear HA
  simp only [laws_FnNearest.j0] at H
  by_cases c20 : x57_6 = true
  ·subst c20
   have H1 : (some false) = some r := by rw [if_pos rfl] at H; exact H
   clear H
   have H := H1
   clear H1
   obtain rfl := Option.some.inj H
   go_wp2
   go_ret
   exact ⟨t5_, gb_ HB.out⟩
  replace c20 := Bool.eq_false_iff.mpr c20
  subst c20
  have H1 : ((impl_DistanceTo.f kj6 t102 t105 t108).bind fun bt119 => ((spec_DistanceTo.f kj6 t102 t105 t108).bind fun bt121 => (if bt119.2 = bt121.2 then (laws_FnNearest.j1 kj6 l0 t105 t108 t110 t113 bt119.1 bt119.2 (bt119.1 != bt121.1) t102) else (laws_FnNearest.j1 kj6 l0 t105 t108 t110 t113 bt119.1 bt119.2 true t102)))) = some r := by rw [if_neg (show ¬ (false = true) by decide)] at H; exact H
  clear H
  have H := H1
  clear H1
  replace H := Option.bind_eq_some_iff.mp H
  obtain ⟨⟨t119, t120⟩, A210, H⟩ := H
  replace H : ((spec_DistanceTo.f kj6 t102 t105 t108).bind fun bt121 => (if t120 = bt121.2 then (laws_FnNearest.j1 kj6 l0 t105 t108 t110 t113 t119 t120 (t119 != bt121.1) t102) else (laws_FnNearest.j1 kj6 l0 t105 t108 t110 t113 t119 t120 true t102))) = some r := H
  have A21 := Aside0.mk A210
  clear A210
  replace H := Option.bind_eq_some_iff.mp H
  obtain ⟨⟨t121, t122⟩, A220, H⟩ := H
  replace H : (if t120 = t122 then (laws_FnNearest.j1 kj6 l0 t105 t108 t110 t113 t119 t120 (t119 != t121) t102) else (laws_FnNearest.j1 kj6 l0 t105 t108 t110 t113 t119 t120 true t102)) = some r := H
  have A22 := Aside0.mk A220
  clear A220
  have HC23 := Aside0.mk H
  clear H
  have hcz24_0 : wc.cell? ⟨gb109, 0, none⟩ = some (.slice Ao10 t102.length co10) := (blk_cell BK109.out 0).trans rfl
  have hfz24_0 := blk_frozen BK109.out 0
  go_upto_region 10 with (first | ((with_reducible refine gate_callee (f := 38) rfl ?_); refine goesL_ (some 62) rfl rfl Try.func38 (by kernel_rfl) rfl #[.agg #[.slice Ao10 t102.length co10], .slice Ao12 t105.length co12, .int .i64 t108] rfl t1_ ?_; (with_reducible refine (impl_DistanceTo.calls kj6 _ _ t102 _ _ t105 t108 t119 t120 _ ?side1 ?side2 ?side3 ?side4 A21.out).mono ?_); (case side1 => exact c1_ HO_110000); (case side2 => exact (Kd.R_reads' HO_110000.out).2.1); (case side3 => exact c1_ HO_4); (case side4 => exact (Kd.R_reads' HO_4.out).2.1); rintro e w25 ⟨rfl, hb⟩; refine ⟨_, rfl, ?_⟩; replace HO_4 := a1_ HO_4 hb; replace HO_6 := a1_ HO_6 hb; replace HO_110000 := a1_ HO_110000 hb; replace BK109 := a2_ BK109 hb; replace HB := b1_ HB hb; (try clear hb); (try clear hb2); (try clear hk); (try clear hi); have hcz26_0 : w25.cell? ⟨gb109, 0, none⟩ = some (.slice Ao10 t102.length co10) := (blk_cell BK109.out 0).trans rfl; have hfz26_0 := blk_frozen BK109.out 0) | ((with_reducible refine gate_callee (f := 39) rfl ?_); refine goesL_ (some 69) rfl rfl Try.func39 (by kernel_rfl) rfl #[.agg #[.slice Ao10 t102.length co10], .slice Ao12 t105.length co12, .int .i64 t108] rfl t1_ ?_; (with_reducible refine (spec_DistanceTo.calls kj6 _ _ t102 _ _ t105 t108 t121 t122 _ ?side1 ?side2 ?side3 ?side4 A22.out).mono ?_); (case side1 => exact c1_ HO_110000); (case side2 => exact (Kd.R_reads' HO_110000.out).2.1); (case side3 => exact c1_ HO_4); (case side4 => exact (Kd.R_reads' HO_4.out).2.1); rintro e w27 ⟨rfl, hb⟩; refine ⟨_, rfl, ?_⟩; replace HO_4 := a1_ HO_4 hb; replace HO_6 := a1_ HO_6 hb; replace HO_110000 := a1_ HO_110000 hb; replace BK109 := a2_ BK109 hb; replace HB := b1_ HB hb; (try clear hb); (try clear hb2); (try clear hk); (try clear hi)))
  (try simp only [Act.put, List.setIfInBounds_toArray, List.set_cons_zero, List.set_cons_succ])
  go_cut [79] (fun cs_79 wc => ∃ (kq : Nat) (x79_22 : Bool), cs_79 = .bool x79_22 ∧ Aside0 (laws_FnNearest.j1 kq l0 t105 t108 t110 t113 t119 t120 x79_22 t102 = some r) ∧ Aside0 (kq ≤ kj6) ∧ Aside0 (Kd.R (Kd.int .i64) 2 wc w.heap.size (fun k_ => OB_ k_ v111 ∧ OB_ k_ (.slice Ao10 t102.length co10)) (.slice Ao12 t105.length co12) t105) ∧ Aside0 (Kd.R (Kd.int .i64) 2 wc w.heap.size (fun k_ => OB_ k_ (.slice Ao12 t105.length co12) ∧ OB_ k_ (.slice Ao10 t102.length co10)) v111 t110) ∧ Aside0 (Kd.R (Kd.int .i64) 2 wc w.heap.size (fun k_ => OB_ k_ (.slice Ao12 t105.length co12) ∧ OB_ k_ v111) (.slice Ao10 t102.length co10) t102) ∧ Aside0 (wc.heap[gb109]? = some (.cells #[(.slice Ao10 t102.length co10)] 26 (0, 0))) ∧ Aside0 (Below w.heap.size w wc))
  case first =>
   have H := HC23.out
   clear HC23
   by_cases c28 : t120 = t122
   rotate_left
   ·rw [if_neg c28] at H
    have c28b0 : (t120 == t122) = false := beq_eq_false_iff_ne.mpr c28
    have c28b1 : (t120 != t122) = true := bne_iff_ne.mpr c28
    (first | rw [c28b0] | (simp only [i64_w, i32_w]; rw [c28b0]) | skip)
    have H' := Aside0.mk H
    clear H
    go_wp2
    go_meet
    case rel => exact ⟨_, (true), t2_, H', ⟨by have := HJ6.out; first | omega | exact Nat.le_refl _⟩, ⟨rb_ HO_4.out⟩, ⟨rb_ HO_6.out⟩, ⟨rb_ HO_110000.out⟩, ⟨bb_ BK109.out⟩, ⟨gb_ HB.out⟩⟩
   rw [if_pos c28] at H
   have c28b0 : (t120 == t122) = true := beq_iff_eq.mpr c28
   have c28b1 : (t120 != t122) = false := bne_eq_false_iff_eq.mpr c28
   clear c28
   (first | rw [c28b0] | (simp only [i64_w, i32_w]; rw [c28b0]) | skip)
   have H' := Aside0.mk H
   clear H
   go_wp2
   go_meet
   case rel => exact ⟨_, ((t119 != t121)), t2_, H', ⟨by have := HJ6.out; first | omega | exact Nat.le_refl _⟩, ⟨rb_ HO_4.out⟩, ⟨rb_ HO_6.out⟩, ⟨rb_ HO_110000.out⟩, ⟨bb_ BK109.out⟩, ⟨gb_ HB.out⟩⟩
  clear HC23
  try clear c1
  try clear c2
  try clear p2
  try clear c3
  try clear c4
  try clear c6
  try clear c16
  try clear c16b0
  try clear c16b1
  try clear c20
  try clear c28
  try clear c28b0
  try clear c28b1
  try clear hcz11_0
  try clear hcz14_0
  try clear hcz24_0
  try clear hcz26_0
  try clear hfz11_0
  try clear hfz14_0
  try clear hfz24_0
  try clear hfz26_0
  try clear p2
  obtain ⟨kq, x79_22, rfl, HA, HJ22, HO_4, HO_6, HO_110000, BK109, HB⟩ := hcut
  cases kq with
  | zero => exact absurd HA.out (by simp [laws_FnNearest.j1])
  | succ kj22 =>
   have H := HA.out
   clear HA
   simp only [laws_FnNearest.j1] at H
   by_cases c29 : x79_22 = true
   ·subst c29
    have H1 : (some false) = some r := by rw [if_pos rfl] at H; exact H
    clear H
    have H := H1
    clear H1
    obtain rfl := Option.some.inj H
    go_wp2
    go_ret
    exact ⟨t5_, gb_ HB.out⟩
   replace c29 := Bool.eq_false_iff.mpr c29
   subst c29
   have H1 : ((spec_DrawFarthestWord.f kj22 l0).bind fun bt123 => ((impl_FarthestWord.f kj22 bt123.1 bt123.2).bind fun bt130 => ((spec_FarthestWord.f kj22 bt123.1 bt123.2).bind fun bt132 => (if bt130.2 = bt132.2 then (laws_FnNearest.j2 kj22 t105 t108 t110 t113 t119 t120 bt123.2 bt130.1 bt130.2 (bt130.1 != bt132.1) t102 bt123.1) else (laws_FnNearest.j2 kj22 t105 t108 t110 t113 t119 t120 bt123.2 bt130.1 bt130.2 true t102 bt123.1))))) = some r := by rw [if_neg (show ¬ (false = true) by decide)] at H; exact H
   clear H
   have H := H1
   clear H1
   replace H := Option.bind_eq_some_iff.mp H
   obtain ⟨⟨t123, t126⟩, A300, H⟩ := H
   replace H : ((impl_FarthestWord.f kj22 t123 t126).bind fun bt130 => ((spec_FarthestWord.f kj22 t123 t126).bind fun bt132 => (if bt130.2 = bt132.2 then (laws_FnNearest.j2 kj22 t105 t108 t110 t113 t119 t120 t126 bt130.1 bt130.2 (bt130.1 != bt132.1) t102 t123) else (laws_FnNearest.j2 kj22 t105 t108 t110 t113 t119 t120 t126 bt130.1 bt130.2 true t102 t123)))) = some r := H
   have A30 := Aside0.mk A300
   clear A300
   replace H := Option.bind_eq_some_iff.mp H
   obtain ⟨⟨t130, t131⟩, A310, H⟩ := H
   replace H : ((spec_FarthestWord.f kj22 t123 t126).bind fun bt132 => (if t131 = bt132.2 then (laws_FnNearest.j2 kj22 t105 t108 t110 t113 t119 t120 t126 t130 t131 (t130 != bt132.1) t102 t123) else (laws_FnNearest.j2 kj22 t105 t108 t110 t113 t119 t120 t126 t130 t131 true t102 t123))) = some r := H
   have A31 := Aside0.mk A310
   clear A310
   replace H := Option.bind_eq_some_iff.mp H
   obtain ⟨⟨t132, t133⟩, A320, H⟩ := H
   replace H : (if t131 = t133 then (laws_FnNearest.j2 kj22 t105 t108 t110 t113 t119 t120 t126 t130 t131 (t130 != t132) t102 t123) else (laws_FnNearest.j2 kj22 t105 t108 t110 t113 t119 t120 t126 t130 t131 true t102 t123)) = some r := H
   have A32 := Aside0.mk A320
   clear A320
   have HC33 := Aside0.mk H
   clear H
   go_upto_region 15 with (first | ((with_reducible refine gate_callee (f := 40) rfl ?_); refine goesL_ (some 82) rfl rfl Try.func40 (by kernel_rfl) rfl #[.slice A0 l0.length c0] rfl t1_ ?_; (with_reducible refine (spec_DrawFarthestWord.calls kj22 _ _ l0 t123 t126 _ ?side1 ?side2 A30.out).mono ?_); (case side1 => exact c2_ HR0 HB); (case side2 => exact HC0.out); rintro e w34 ⟨v124, v127, rfl, ho0, ho1, hb⟩; refine ⟨_, rfl, ?_⟩; have HO125 := Aside0.mk (Kd.R_lower (Kd.R_new' (Kd.R_new' (Kd.R_new' ho0 (Kd.R_lt (rb_ HO_4.out))) (Kd.R_lt (rb_ HO_6.out))) (Kd.R_lt (rb_ HO_110000.out))) (below_size (gb_ HB.out))); have HO128 := Aside0.mk (Kd.R_lower (Kd.R_new' (Kd.R_new' (Kd.R_new' ho1 (Kd.R_lt (rb_ HO_4.out))) (Kd.R_lt (rb_ HO_6.out))) (Kd.R_lt (rb_ HO_110000.out))) (below_size (gb_ HB.out))); replace HO_4 := Aside0.mk (Kd.R_mono (Kd.R_told (Kd.R_told (Kd.R_old (rb_ HO_4.out) hb) (Kd.R_base ho0)) (Kd.R_base ho1)) (fun _ h_ => h_.1)); replace HO_6 := Aside0.mk (Kd.R_mono (Kd.R_told (Kd.R_told (Kd.R_old (rb_ HO_6.out) hb) (Kd.R_base ho0)) (Kd.R_base ho1)) (fun _ h_ => h_.1)); replace HO_110000 := Aside0.mk (Kd.R_mono (Kd.R_told (Kd.R_told (Kd.R_old (rb_ HO_110000.out) hb) (Kd.R_base ho0)) (Kd.R_base ho1)) (fun _ h_ => h_.1)); replace BK109 := a2_ BK109 hb; replace HB := b1_ HB hb; (try clear hb); (try clear hb2); (try clear hk); (try clear hi); (try clear ho0); (try clear ho1)) | ((with_reducible refine gate_dst (N := 14) rfl ?_); refine box_event ?hg (N := 14) ?hd (cs := #[.slice none 0 0]) (t := 26) ?hr ?_; (case hd => rfl); (case hg => rfl); (case hr => exact t3_); intro gb129 hg w35 hbox hb; have n0_ := a1_ HO_4 hb; have n1_ := a1_ HO_6 hb; have n2_ := a1_ HO_110000 hb; have n3_ := a1_ HO125 hb; have n4_ := a1_ HO128 hb; have n5_ := a2_ BK109 hb; have n6_ := b1_ HB hb; have n7_ := Aside0.mk (hbox); have n8_ := Aside0.mk ((by rw [hg]; exact (below_size (gb_ HB.out)) : w.heap.size ≤ gb129)); have n9_ := Aside0.mk ((by rw [hg]; exact (below_size (gb_ HB.out)) : w.heap.size ≤ gb129)); have n10_ := Aside0.mk ((by rw [hg]; exact Nat.ne_of_lt (blk_lt (g := gb109) (o := .cells #[.slice Ao10 t102.length co10] 26 (0, 0)) (bb_ BK109.out)) : gb109 ≠ gb129)); have n11_ := Aside0.mk ((by rw [hg]; exact Nat.ne_of_gt (blk_lt (g := gb109) (o := .cells #[.slice Ao10 t102.length co10] 26 (0, 0)) (bb_ BK109.out)) : gb129 ≠ gb109)); clear HO_4 HO_6 HO_110000 HO125 HO128 BK109 HB; have HO_4 := n0_; have HO_6 := n1_; have HO_110000 := n2_; have HO125 := n3_; have HO128 := n4_; have BK109 := n5_; have HB := n6_; have BK129 := n7_; have GW129 := n8_; have GE129 := n9_; have NB109_129 := n10_; have NB129_109 := n11_; clear n0_ n1_ n2_ n3_ n4_ n5_ n6_ n7_ n8_ n9_ n10_ n11_ hb hbox hg; obtain ⟨Ao36, co36, eo36⟩ := Kd.R_slice HO125.out; subst eo36; have hnb37 := NB129_109.out; have hnc37 := NB109_129.out; have hcz38_0 : w35.cell? ⟨gb129, 0, none⟩ = some (.slice none 0 0) := (blk_cell BK129.out 0).trans rfl; have hfz38_0 := blk_frozen BK129.out 0; obtain ⟨Ao39, co39, eo39⟩ := Kd.R_slice HO128.out; subst eo39) | ((with_reducible refine gate_callee (f := 41) rfl ?_); refine goesL_ (some 88) rfl rfl Try.func41 (by kernel_rfl) rfl #[.agg #[.slice Ao36 t123.length co36], .slice Ao39 t126.length co39] rfl t1_ ?_; (with_reducible refine (impl_FarthestWord.calls kj22 _ _ t123 _ _ t126 t130 t131 _ ?side1 ?side2 ?side3 ?side4 A31.out).mono ?_); (case side1 => refine (Kd.R_reads' (e := 2) (base := w.heap.size) (ok := fun _ => True) (n := t123.length) (c := co36) ?_).2.2; exact (rb_ (Kd.R_mono (Kd.R_far (p := ⟨gb129, 0, none⟩) (Kd.R_types HO125.out BK129.out (by decide)) (fun _ hk => hk.2) (.slice Ao36 t123.length co36)) (fun _ _ => trivial)))); (case side2 => exact (Kd.R_reads' HO125.out).2.1); (case side3 => refine (Kd.R_reads' (e := 2) (base := w.heap.size) (ok := fun _ => True) (n := t126.length) (c := co39) ?_).2.2; exact (rb_ (Kd.R_mono (Kd.R_far (p := ⟨gb129, 0, none⟩) (Kd.R_types HO128.out BK129.out (by decide)) (fun _ hk => hk.2) (.slice Ao36 t123.length co36)) (fun _ _ => trivial)))); (case side4 => exact (Kd.R_reads' HO128.out).2.1); rintro e w40 ⟨rfl, hb⟩; refine ⟨_, rfl, ?_⟩; replace HO_4 := a4_ HO_4 BK129 hb; replace HO_6 := a4_ HO_6 BK129 hb; replace HO_110000 := a4_ HO_110000 BK129 hb; replace HO125 := a4_ HO125 BK129 hb; replace HO128 := a4_ HO128 BK129 hb; replace BK109 := a3_ BK109 NB109_129 hb; replace BK129 := Aside0.mk (blk_below (g := gb129) (o := .cells #[.slice Ao36 t123.length co36] 26 (0, 0)) (by (with_reducible repeat (first | refine blk_drewN ?_ _ | refine blk_drew ?_ | refine blk_alloc ?_ _)); refine blk_put (cs := #[.slice none 0 0]) ?_ 0 _ rfl; (with_reducible repeat (first | refine blk_drewN ?_ _ | refine blk_drew ?_ | refine blk_alloc ?_ _)); exact BK129.out) hb); replace HB := b1_ HB hb; (try clear hb); (try clear hb2); (try clear hk); (try clear hi); have hcz41_0 : w40.cell? ⟨gb129, 0, none⟩ = some (.slice Ao36 t123.length co36) := (blk_cell BK129.out 0).trans rfl; have hfz41_0 := blk_frozen BK129.out 0) | ((with_reducible refine gate_callee (f := 42) rfl ?_); refine goesL_ (some 94) rfl rfl Try.func42 (by kernel_rfl) rfl #[.agg #[.slice Ao36 t123.length co36], .slice Ao39 t126.length co39] rfl t1_ ?_; (with_reducible refine (spec_FarthestWord.calls kj22 _ _ t123 _ _ t126 t132 t133 _ ?side1 ?side2 ?side3 ?side4 A32.out).mono ?_); (case side1 => exact c1_ HO125); (case side2 => exact (Kd.R_reads' HO125.out).2.1); (case side3 => exact c1_ HO128); (case side4 => exact (Kd.R_reads' HO128.out).2.1); rintro e w42 ⟨rfl, hb⟩; refine ⟨_, rfl, ?_⟩; replace HO_4 := a1_ HO_4 hb; replace HO_6 := a1_ HO_6 hb; replace HO_110000 := a1_ HO_110000 hb; replace HO125 := a1_ HO125 hb; replace HO128 := a1_ HO128 hb; replace BK109 := a2_ BK109 hb; replace BK129 := a2_ BK129 hb; replace HB := b1_ HB hb; (try clear hb); (try clear hb2); (try clear hk); (try clear hi)))
   (try simp only [Act.put, List.setIfInBounds_toArray, List.set_cons_zero, List.set_cons_succ])
   go_cut [104] (fun cs_104 wc => ∃ (kq : Nat) (x104_32 : Bool), cs_104 = .bool x104_32 ∧ Aside0 (laws_FnNearest.j2 kq t105 t108 t110 t113 t119 t120 t126 t130 t131 x104_32 t102 t123 = some r) ∧ Aside0 (kq ≤ kj22) ∧ Aside0 (Kd.R (Kd.int .i64) 2 wc w.heap.size (fun k_ => OB_ k_ v111 ∧ OB_ k_ (.slice Ao39 t126.length co39) ∧ OB_ k_ (.slice Ao10 t102.length co10) ∧ OB_ k_ (.slice Ao36 t123.length co36)) (.slice Ao12 t105.length co12) t105) ∧ Aside0 (Kd.R (Kd.int .i64) 2 wc w.heap.size (fun k_ => OB_ k_ (.slice Ao12 t105.length co12) ∧ OB_ k_ (.slice Ao39 t126.length co39) ∧ OB_ k_ (.slice Ao10 t102.length co10) ∧ OB_ k_ (.slice Ao36 t123.length co36)) v111 t110) ∧ Aside0 (Kd.R (Kd.int .i64) 2 wc w.heap.size (fun k_ => OB_ k_ (.slice Ao12 t105.length co12) ∧ OB_ k_ v111 ∧ OB_ k_ (.slice Ao10 t102.length co10) ∧ OB_ k_ (.slice Ao36 t123.length co36)) (.slice Ao39 t126.length co39) t126) ∧ Aside0 (Kd.R (Kd.int .i64) 2 wc w.heap.size (fun k_ => OB_ k_ (.slice Ao12 t105.length co12) ∧ OB_ k_ v111 ∧ OB_ k_ (.slice Ao39 t126.length co39) ∧ OB_ k_ (.slice Ao36 t123.length co36)) (.slice Ao10 t102.length co10) t102) ∧ Aside0 (Kd.R (Kd.int .i64) 2 wc w.heap.size (fun k_ => OB_ k_ (.slice Ao12 t105.length co12) ∧ OB_ k_ v111 ∧ OB_ k_ (.slice Ao39 t126.length co39) ∧ OB_ k_ (.slice Ao10 t102.length co10)) (.slice Ao36 t123.length co36) t123) ∧ Aside0 (wc.heap[gb109]? = some (.cells #[(.slice Ao10 t102.length co10)] 26 (0, 0))) ∧ Aside0 (wc.heap[gb129]? = some (.cells #[(.slice Ao36 t123.length co36)] 26 (0, 0))) ∧ Aside0 (Below w.heap.size w wc))
   case first =>
    have H := HC33.out
    clear HC33
    by_cases c43 : t131 = t133
    rotate_left
    ·rw [if_neg c43] at H
     have c43b0 : (t131 == t133) = false := beq_eq_false_iff_ne.mpr c43
     have c43b1 : (t131 != t133) = true := bne_iff_ne.mpr c43
     (first | rw [c43b0] | (simp only [i64_w, i32_w]; rw [c43b0]) | skip)
     have H' := Aside0.mk H
     clear H
     go_wp2
     go_meet
     case rel => exact ⟨_, (true), t2_, H', ⟨by have := HJ6.out; have := HJ22.out; first | omega | exact Nat.le_refl _⟩, ⟨by (with_reducible repeat (first | apply Kd.R_alloc | apply Kd.R_drewN | apply Kd.R_drew)); exact Kd.R_mono HO_4.out (fun _ hk => ⟨hk.1.1.1, ⟨hk.2, ⟨hk.1.1.2, hk.1.2⟩⟩⟩)⟩, ⟨by (with_reducible repeat (first | apply Kd.R_alloc | apply Kd.R_drewN | apply Kd.R_drew)); exact Kd.R_mono HO_6.out (fun _ hk => ⟨hk.1.1.1, ⟨hk.2, ⟨hk.1.1.2, hk.1.2⟩⟩⟩)⟩, ⟨by (with_reducible repeat (first | apply Kd.R_alloc | apply Kd.R_drewN | apply Kd.R_drew)); exact Kd.R_mono HO128.out (fun _ hk => ⟨hk.1.1.2, ⟨hk.1.2, ⟨hk.2, hk.1.1.1⟩⟩⟩)⟩, ⟨by (with_reducible repeat (first | apply Kd.R_alloc | apply Kd.R_drewN | apply Kd.R_drew)); exact Kd.R_mono HO_110000.out (fun _ hk => ⟨hk.1.1.1, ⟨hk.1.1.2, ⟨hk.2, hk.1.2⟩⟩⟩)⟩, ⟨by (with_reducible repeat (first | apply Kd.R_alloc | apply Kd.R_drewN | apply Kd.R_drew)); exact Kd.R_mono HO125.out (fun _ hk => ⟨hk.1.1.2, ⟨hk.1.2, ⟨hk.1.1.1, hk.2⟩⟩⟩)⟩, ⟨bb_ BK109.out⟩, ⟨bb_ BK129.out⟩, ⟨gb_ HB.out⟩⟩
    rw [if_pos c43] at H
    have c43b0 : (t131 == t133) = true := beq_iff_eq.mpr c43
    have c43b1 : (t131 != t133) = false := bne_eq_false_iff_eq.mpr c43
    clear c43
    (first | rw [c43b0] | (simp only [i64_w, i32_w]; rw [c43b0]) | skip)
    have H' := Aside0.mk H
    clear H
    go_wp2
    go_meet
    case rel => exact ⟨_, ((t130 != t132)), t2_, H', ⟨by have := HJ6.out; have := HJ22.out; first | omega | exact Nat.le_refl _⟩, ⟨by (with_reducible repeat (first | apply Kd.R_alloc | apply Kd.R_drewN | apply Kd.R_drew)); exact Kd.R_mono HO_4.out (fun _ hk => ⟨hk.1.1.1, ⟨hk.2, ⟨hk.1.1.2, hk.1.2⟩⟩⟩)⟩, ⟨by (with_reducible repeat (first | apply Kd.R_alloc | apply Kd.R_drewN | apply Kd.R_drew)); exact Kd.R_mono HO_6.out (fun _ hk => ⟨hk.1.1.1, ⟨hk.2, ⟨hk.1.1.2, hk.1.2⟩⟩⟩)⟩, ⟨by (with_reducible repeat (first | apply Kd.R_alloc | apply Kd.R_drewN | apply Kd.R_drew)); exact Kd.R_mono HO128.out (fun _ hk => ⟨hk.1.1.2, ⟨hk.1.2, ⟨hk.2, hk.1.1.1⟩⟩⟩)⟩, ⟨by (with_reducible repeat (first | apply Kd.R_alloc | apply Kd.R_drewN | apply Kd.R_drew)); exact Kd.R_mono HO_110000.out (fun _ hk => ⟨hk.1.1.1, ⟨hk.1.1.2, ⟨hk.2, hk.1.2⟩⟩⟩)⟩, ⟨by (with_reducible repeat (first | apply Kd.R_alloc | apply Kd.R_drewN | apply Kd.R_drew)); exact Kd.R_mono HO125.out (fun _ hk => ⟨hk.1.1.2, ⟨hk.1.2, ⟨hk.1.1.1, hk.2⟩⟩⟩)⟩, ⟨bb_ BK109.out⟩, ⟨bb_ BK129.out⟩, ⟨gb_ HB.out⟩⟩
   clear HC33
   try clear c1
   try clear c2
   try clear p2
   try clear c3
   try clear c4
   try clear c6
   try clear c16
   try clear c16b0
   try clear c16b1
   try clear c20
   try clear c28
   try clear c28b0
   try clear c28b1
   try clear c29
   try clear c35
   try clear c36
   try clear c37
   try clear c38
   try clear c39
   try clear c40
   try clear c41
   try clear c42
   try clear c43
   try clear c43b0
   try clear c43b1
   try clear hcz11_0
   try clear hcz14_0
   try clear hcz24_0
   try clear hcz26_0
   try clear hcz38_0
   try clear hcz41_0
   try clear hfz11_0
   try clear hfz14_0
   try clear hfz24_0
   try clear hfz26_0
   try clear hfz38_0
   try clear hfz41_0
   try clear p2
   obtain ⟨kq, x104_32, rfl, HA, HJ32, HO_4, HO_6, HO_15, HO_110000, HO_130000, BK109, BK129, HB⟩ := hcut
   cases kq with
   | zero => exact absurd HA.out (by simp [laws_FnNearest.j2])
   | succ kj32 =>
    have H := HA.out
    clear HA
    simp only [laws_FnNearest.j2] at H
    by_cases c44 : x104_32 = true
    ·subst c44
     have H1 : (some false) = some r := by rw [if_pos rfl] at H; exact H
     clear H
     have H := H1
     clear H1
     obtain rfl := Option.some.inj H
     go_wp2
     go_ret
     exact ⟨t5_, gb_ HB.out⟩
    replace c44 := Bool.eq_false_iff.mpr c44
    subst c44
    have H1 : (if t131 = 0 then ((impl_RadiusOf.f kj32 t123 t126).bind fun bt134 => ((impl_DistanceTo.f kj32 t123 t126 t130).bind fun bt136 => (if bt134.2 = 0 then (if bt136.2 = 0 then (if bt136.1 = bt134.1 then (laws_FnNearest.j3 kj32 t105 t108 t110 t113 t119 t120 t102) else (some false)) else (some false)) else (some false)))) else (laws_FnNearest.j3 kj32 t105 t108 t110 t113 t119 t120 t102)) = some r := by rw [if_neg (show ¬ (false = true) by decide)] at H; exact H
    clear H
    have H := H1
    clear H1
    have HC45 := Aside0.mk H
    clear H
    go_upto_if 106 with (fail)
    go_cut [] (fun wc => ∃ (kq : Nat), Aside0 (laws_FnNearest.j3 kq t105 t108 t110 t113 t119 t120 t102 = some r) ∧ Aside0 (kq ≤ kj32) ∧ Aside0 (Kd.R (Kd.int .i64) 2 wc w.heap.size (fun k_ => OB_ k_ v111 ∧ OB_ k_ (.slice Ao10 t102.length co10) ∧ OB_ k_ (.slice Ao36 t123.length co36)) (.slice Ao12 t105.length co12) t105) ∧ Aside0 (Kd.R (Kd.int .i64) 2 wc w.heap.size (fun k_ => OB_ k_ (.slice Ao12 t105.length co12) ∧ OB_ k_ (.slice Ao10 t102.length co10) ∧ OB_ k_ (.slice Ao36 t123.length co36)) v111 t110) ∧ Aside0 (Kd.R (Kd.int .i64) 2 wc w.heap.size (fun k_ => OB_ k_ (.slice Ao12 t105.length co12) ∧ OB_ k_ v111 ∧ OB_ k_ (.slice Ao36 t123.length co36)) (.slice Ao10 t102.length co10) t102) ∧ Aside0 (Kd.R (Kd.int .i64) 2 wc w.heap.size (fun k_ => OB_ k_ (.slice Ao12 t105.length co12) ∧ OB_ k_ v111 ∧ OB_ k_ (.slice Ao10 t102.length co10)) (.slice Ao36 t123.length co36) t123) ∧ Aside0 (wc.heap[gb109]? = some (.cells #[(.slice Ao10 t102.length co10)] 26 (0, 0))) ∧ Aside0 (wc.heap[gb129]? = some (.cells #[(.slice Ao36 t123.length co36)] 26 (0, 0))) ∧ Aside0 (Below w.heap.size w wc))
    case first =>
     have H := HC45.out
     clear HC45
     by_cases c46 : t131 = 0
     rotate_left
     ·rw [if_neg c46] at H
      have c46b0 : (t131 == 0) = false := beq_eq_false_iff_ne.mpr c46
      have c46b1 : (t131 != 0) = true := bne_iff_ne.mpr c46
      (first | rw [c46b0] | (simp only [i64_w, i32_w]; rw [c46b0]) | skip)
      have H' := Aside0.mk H
      clear H
      go_wp2
      go_meet
      case rel => exact ⟨_, H', ⟨by have := HJ6.out; have := HJ22.out; have := HJ32.out; first | omega | exact Nat.le_refl _⟩, ⟨by (with_reducible repeat (first | apply Kd.R_alloc | apply Kd.R_drewN | apply Kd.R_drew)); exact Kd.R_mono HO_4.out (fun _ hk => ⟨hk.1, ⟨hk.2.2.1, hk.2.2.2⟩⟩)⟩, ⟨by (with_reducible repeat (first | apply Kd.R_alloc | apply Kd.R_drewN | apply Kd.R_drew)); exact Kd.R_mono HO_6.out (fun _ hk => ⟨hk.1, ⟨hk.2.2.1, hk.2.2.2⟩⟩)⟩, ⟨by (with_reducible repeat (first | apply Kd.R_alloc | apply Kd.R_drewN | apply Kd.R_drew)); exact Kd.R_mono HO_110000.out (fun _ hk => ⟨hk.1, ⟨hk.2.1, hk.2.2.2⟩⟩)⟩, ⟨by (with_reducible repeat (first | apply Kd.R_alloc | apply Kd.R_drewN | apply Kd.R_drew)); exact Kd.R_mono HO_130000.out (fun _ hk => ⟨hk.1, ⟨hk.2.1, hk.2.2.2⟩⟩)⟩, ⟨bb_ BK109.out⟩, ⟨bb_ BK129.out⟩, ⟨gb_ HB.out⟩⟩
     rw [if_pos c46] at H
     have c46b0 : (t131 == 0) = true := beq_iff_eq.mpr c46
     have c46b1 : (t131 != 0) = false := bne_eq_false_iff_eq.mpr c46
     clear c46
     (first | rw [c46b0] | (simp only [i64_w, i32_w]; rw [c46b0]) | skip)
     replace H := Option.bind_eq_some_iff.mp H
     obtain ⟨⟨t134, t135⟩, A470, H⟩ := H
     replace H : ((impl_DistanceTo.f kj32 t123 t126 t130).bind fun bt136 => (if t135 = 0 then (if bt136.2 = 0 then (if bt136.1 = t134 then (laws_FnNearest.j3 kj32 t105 t108 t110 t113 t119 t120 t102) else (some false)) else (some false)) else (some false))) = some r := H
     have A47 := Aside0.mk A470
     clear A470
     replace H := Option.bind_eq_some_iff.mp H
     obtain ⟨⟨t136, t137⟩, A480, H⟩ := H
     replace H : (if t135 = 0 then (if t137 = 0 then (if t136 = t134 then (laws_FnNearest.j3 kj32 t105 t108 t110 t113 t119 t120 t102) else (some false)) else (some false)) else (some false)) = some r := H
     have A48 := Aside0.mk A480
     clear A480
     by_cases c49 : t135 = 0
     rotate_left
     ·rw [if_neg c49] at H
      have c49b0 : (t135 == 0) = false := beq_eq_false_iff_ne.mpr c49
      have c49b1 : (t135 != 0) = true := bne_iff_ne.mpr c49
      obtain rfl := Option.some.inj H
      have hnb67 := NB129_109.out
      have hnc67 := NB109_129.out
      have hcz68_0 : wc.cell? ⟨gb129, 0, none⟩ = some (.slice Ao36 t123.length co36) := (blk_cell BK129.out 0).trans rfl
      have hfz68_0 := blk_frozen BK129.out 0
      go_wp2_with (first | ((with_reducible refine gate_callee (f := 43) rfl ?_); refine goesL_ (some 110) rfl rfl Try.func43 (by kernel_rfl) rfl #[.agg #[.slice Ao36 t123.length co36], .slice Ao39 t126.length co39] rfl t1_ ?_; (with_reducible refine (impl_RadiusOf.calls kj32 _ _ t123 _ _ t126 t134 t135 _ ?side1 ?side2 ?side3 ?side4 A47.out).mono ?_); (case side1 => exact c1_ HO_130000); (case side2 => exact (Kd.R_reads' HO_130000.out).2.1); (case side3 => exact c1_ HO_15); (case side4 => exact (Kd.R_reads' HO_15.out).2.1); rintro e w69 ⟨rfl, hb⟩; refine ⟨_, rfl, ?_⟩; replace HO_4 := a1_ HO_4 hb; replace HO_6 := a1_ HO_6 hb; replace HO_15 := a1_ HO_15 hb; replace HO_110000 := a1_ HO_110000 hb; replace HO_130000 := a1_ HO_130000 hb; replace BK109 := a2_ BK109 hb; replace BK129 := a2_ BK129 hb; replace HB := b1_ HB hb; (try clear hb); (try clear hb2); (try clear hk); (try clear hi); have hcz70_0 : w69.cell? ⟨gb129, 0, none⟩ = some (.slice Ao36 t123.length co36) := (blk_cell BK129.out 0).trans rfl; have hfz70_0 := blk_frozen BK129.out 0) | ((with_reducible refine gate_callee (f := 38) rfl ?_); refine goesL_ (some 117) rfl rfl Try.func38 (by kernel_rfl) rfl #[.agg #[.slice Ao36 t123.length co36], .slice Ao39 t126.length co39, .int .i64 t130] rfl t1_ ?_; (with_reducible refine (impl_DistanceTo.calls kj32 _ _ t123 _ _ t126 t130 t136 t137 _ ?side1 ?side2 ?side3 ?side4 A48.out).mono ?_); (case side1 => exact c1_ HO_130000); (case side2 => exact (Kd.R_reads' HO_130000.out).2.1); (case side3 => exact c1_ HO_15); (case side4 => exact (Kd.R_reads' HO_15.out).2.1); rintro e w71 ⟨rfl, hb⟩; refine ⟨_, rfl, ?_⟩; replace HO_4 := a1_ HO_4 hb; replace HO_6 := a1_ HO_6 hb; replace HO_15 := a1_ HO_15 hb; replace HO_110000 := a1_ HO_110000 hb; replace HO_130000 := a1_ HO_130000 hb; replace BK109 := a2_ BK109 hb; replace BK129 := a2_ BK129 hb; replace HB := b1_ HB hb; (try clear hb); (try clear hb2); (try clear hk); (try clear hi)))
      go_ret
      exact ⟨t5_, gb_ HB.out⟩
     rw [if_pos c49] at H
     have c49b0 : (t135 == 0) = true := beq_iff_eq.mpr c49
     have c49b1 : (t135 != 0) = false := bne_eq_false_iff_eq.mpr c49
     clear c49
     by_cases c50 : t137 = 0
     rotate_left
     ·rw [if_neg c50] at H
      have c50b0 : (t137 == 0) = false := beq_eq_false_iff_ne.mpr c50
      have c50b1 : (t137 != 0) = true := bne_iff_ne.mpr c50
      obtain rfl := Option.some.inj H
      have hnb62 := NB129_109.out
      have hnc62 := NB109_129.out
      have hcz63_0 : wc.cell? ⟨gb129, 0, none⟩ = some (.slice Ao36 t123.length co36) := (blk_cell BK129.out 0).trans rfl
      have hfz63_0 := blk_frozen BK129.out 0
      go_wp2_with (first | ((with_reducible refine gate_callee (f := 43) rfl ?_); refine goesL_ (some 110) rfl rfl Try.func43 (by kernel_rfl) rfl #[.agg #[.slice Ao36 t123.length co36], .slice Ao39 t126.length co39] rfl t1_ ?_; (with_reducible refine (impl_RadiusOf.calls kj32 _ _ t123 _ _ t126 t134 t135 _ ?side1 ?side2 ?side3 ?side4 A47.out).mono ?_); (case side1 => exact c1_ HO_130000); (case side2 => exact (Kd.R_reads' HO_130000.out).2.1); (case side3 => exact c1_ HO_15); (case side4 => exact (Kd.R_reads' HO_15.out).2.1); rintro e w64 ⟨rfl, hb⟩; refine ⟨_, rfl, ?_⟩; replace HO_4 := a1_ HO_4 hb; replace HO_6 := a1_ HO_6 hb; replace HO_15 := a1_ HO_15 hb; replace HO_110000 := a1_ HO_110000 hb; replace HO_130000 := a1_ HO_130000 hb; replace BK109 := a2_ BK109 hb; replace BK129 := a2_ BK129 hb; replace HB := b1_ HB hb; (try clear hb); (try clear hb2); (try clear hk); (try clear hi); have hcz65_0 : w64.cell? ⟨gb129, 0, none⟩ = some (.slice Ao36 t123.length co36) := (blk_cell BK129.out 0).trans rfl; have hfz65_0 := blk_frozen BK129.out 0) | ((with_reducible refine gate_callee (f := 38) rfl ?_); refine goesL_ (some 117) rfl rfl Try.func38 (by kernel_rfl) rfl #[.agg #[.slice Ao36 t123.length co36], .slice Ao39 t126.length co39, .int .i64 t130] rfl t1_ ?_; (with_reducible refine (impl_DistanceTo.calls kj32 _ _ t123 _ _ t126 t130 t136 t137 _ ?side1 ?side2 ?side3 ?side4 A48.out).mono ?_); (case side1 => exact c1_ HO_130000); (case side2 => exact (Kd.R_reads' HO_130000.out).2.1); (case side3 => exact c1_ HO_15); (case side4 => exact (Kd.R_reads' HO_15.out).2.1); rintro e w66 ⟨rfl, hb⟩; refine ⟨_, rfl, ?_⟩; replace HO_4 := a1_ HO_4 hb; replace HO_6 := a1_ HO_6 hb; replace HO_15 := a1_ HO_15 hb; replace HO_110000 := a1_ HO_110000 hb; replace HO_130000 := a1_ HO_130000 hb; replace BK109 := a2_ BK109 hb; replace BK129 := a2_ BK129 hb; replace HB := b1_ HB hb; (try clear hb); (try clear hb2); (try clear hk); (try clear hi)))
      go_ret
      exact ⟨t5_, gb_ HB.out⟩
     rw [if_pos c50] at H
     have c50b0 : (t137 == 0) = true := beq_iff_eq.mpr c50
     have c50b1 : (t137 != 0) = false := bne_eq_false_iff_eq.mpr c50
     clear c50
     by_cases c51 : t136 = t134
     rotate_left
     ·rw [if_neg c51] at H
      have c51b0 : (t136 == t134) = false := beq_eq_false_iff_ne.mpr c51
      have c51b1 : (t136 != t134) = true := bne_iff_ne.mpr c51
      obtain rfl := Option.some.inj H
      have hnb57 := NB129_109.out
      have hnc57 := NB109_129.out
      have hcz58_0 : wc.cell? ⟨gb129, 0, none⟩ = some (.slice Ao36 t123.length co36) := (blk_cell BK129.out 0).trans rfl
      have hfz58_0 := blk_frozen BK129.out 0
      go_wp2_with (first | ((with_reducible refine gate_callee (f := 43) rfl ?_); refine goesL_ (some 110) rfl rfl Try.func43 (by kernel_rfl) rfl #[.agg #[.slice Ao36 t123.length co36], .slice Ao39 t126.length co39] rfl t1_ ?_; (with_reducible refine (impl_RadiusOf.calls kj32 _ _ t123 _ _ t126 t134 t135 _ ?side1 ?side2 ?side3 ?side4 A47.out).mono ?_); (case side1 => exact c1_ HO_130000); (case side2 => exact (Kd.R_reads' HO_130000.out).2.1); (case side3 => exact c1_ HO_15); (case side4 => exact (Kd.R_reads' HO_15.out).2.1); rintro e w59 ⟨rfl, hb⟩; refine ⟨_, rfl, ?_⟩; replace HO_4 := a1_ HO_4 hb; replace HO_6 := a1_ HO_6 hb; replace HO_15 := a1_ HO_15 hb; replace HO_110000 := a1_ HO_110000 hb; replace HO_130000 := a1_ HO_130000 hb; replace BK109 := a2_ BK109 hb; replace BK129 := a2_ BK129 hb; replace HB := b1_ HB hb; (try clear hb); (try clear hb2); (try clear hk); (try clear hi); have hcz60_0 : w59.cell? ⟨gb129, 0, none⟩ = some (.slice Ao36 t123.length co36) := (blk_cell BK129.out 0).trans rfl; have hfz60_0 := blk_frozen BK129.out 0) | ((with_reducible refine gate_callee (f := 38) rfl ?_); refine goesL_ (some 117) rfl rfl Try.func38 (by kernel_rfl) rfl #[.agg #[.slice Ao36 t123.length co36], .slice Ao39 t126.length co39, .int .i64 t130] rfl t1_ ?_; (with_reducible refine (impl_DistanceTo.calls kj32 _ _ t123 _ _ t126 t130 t136 t137 _ ?side1 ?side2 ?side3 ?side4 A48.out).mono ?_); (case side1 => exact c1_ HO_130000); (case side2 => exact (Kd.R_reads' HO_130000.out).2.1); (case side3 => exact c1_ HO_15); (case side4 => exact (Kd.R_reads' HO_15.out).2.1); rintro e w61 ⟨rfl, hb⟩; refine ⟨_, rfl, ?_⟩; replace HO_4 := a1_ HO_4 hb; replace HO_6 := a1_ HO_6 hb; replace HO_15 := a1_ HO_15 hb; replace HO_110000 := a1_ HO_110000 hb; replace HO_130000 := a1_ HO_130000 hb; replace BK109 := a2_ BK109 hb; replace BK129 := a2_ BK129 hb; replace HB := b1_ HB hb; (try clear hb); (try clear hb2); (try clear hk); (try clear hi)))
      go_ret
      exact ⟨t5_, gb_ HB.out⟩
     rw [if_pos c51] at H
     have c51b0 : (t136 == t134) = true := beq_iff_eq.mpr c51
     have c51b1 : (t136 != t134) = false := bne_eq_false_iff_eq.mpr c51
     clear c51
     have H' := Aside0.mk H
     clear H
     have hnb52 := NB129_109.out
     have hnc52 := NB109_129.out
     have hcz53_0 : wc.cell? ⟨gb129, 0, none⟩ = some (.slice Ao36 t123.length co36) := (blk_cell BK129.out 0).trans rfl
     have hfz53_0 := blk_frozen BK129.out 0
     go_wp2_with (first | ((with_reducible refine gate_callee (f := 43) rfl ?_); refine goesL_ (some 110) rfl rfl Try.func43 (by kernel_rfl) rfl #[.agg #[.slice Ao36 t123.length co36], .slice Ao39 t126.length co39] rfl t1_ ?_; (with_reducible refine (impl_RadiusOf.calls kj32 _ _ t123 _ _ t126 t134 t135 _ ?side1 ?side2 ?side3 ?side4 A47.out).mono ?_); (case side1 => exact c1_ HO_130000); (case side2 => exact (Kd.R_reads' HO_130000.out).2.1); (case side3 => exact c1_ HO_15); (case side4 => exact (Kd.R_reads' HO_15.out).2.1); rintro e w54 ⟨rfl, hb⟩; refine ⟨_, rfl, ?_⟩; replace HO_4 := a1_ HO_4 hb; replace HO_6 := a1_ HO_6 hb; replace HO_15 := a1_ HO_15 hb; replace HO_110000 := a1_ HO_110000 hb; replace HO_130000 := a1_ HO_130000 hb; replace BK109 := a2_ BK109 hb; replace BK129 := a2_ BK129 hb; replace HB := b1_ HB hb; (try clear hb); (try clear hb2); (try clear hk); (try clear hi); have hcz55_0 : w54.cell? ⟨gb129, 0, none⟩ = some (.slice Ao36 t123.length co36) := (blk_cell BK129.out 0).trans rfl; have hfz55_0 := blk_frozen BK129.out 0) | ((with_reducible refine gate_callee (f := 38) rfl ?_); refine goesL_ (some 117) rfl rfl Try.func38 (by kernel_rfl) rfl #[.agg #[.slice Ao36 t123.length co36], .slice Ao39 t126.length co39, .int .i64 t130] rfl t1_ ?_; (with_reducible refine (impl_DistanceTo.calls kj32 _ _ t123 _ _ t126 t130 t136 t137 _ ?side1 ?side2 ?side3 ?side4 A48.out).mono ?_); (case side1 => exact c1_ HO_130000); (case side2 => exact (Kd.R_reads' HO_130000.out).2.1); (case side3 => exact c1_ HO_15); (case side4 => exact (Kd.R_reads' HO_15.out).2.1); rintro e w56 ⟨rfl, hb⟩; refine ⟨_, rfl, ?_⟩; replace HO_4 := a1_ HO_4 hb; replace HO_6 := a1_ HO_6 hb; replace HO_15 := a1_ HO_15 hb; replace HO_110000 := a1_ HO_110000 hb; replace HO_130000 := a1_ HO_130000 hb; replace BK109 := a2_ BK109 hb; replace BK129 := a2_ BK129 hb; replace HB := b1_ HB hb; (try clear hb); (try clear hb2); (try clear hk); (try clear hi)))
     go_meet
     case rel => exact ⟨_, H', ⟨by have := HJ6.out; have := HJ22.out; have := HJ32.out; first | omega | exact Nat.le_refl _⟩, ⟨by (with_reducible repeat (first | apply Kd.R_alloc | apply Kd.R_drewN | apply Kd.R_drew)); exact Kd.R_mono HO_4.out (fun _ hk => ⟨hk.1, ⟨hk.2.2.1, hk.2.2.2⟩⟩)⟩, ⟨by (with_reducible repeat (first | apply Kd.R_alloc | apply Kd.R_drewN | apply Kd.R_drew)); exact Kd.R_mono HO_6.out (fun _ hk => ⟨hk.1, ⟨hk.2.2.1, hk.2.2.2⟩⟩)⟩, ⟨by (with_reducible repeat (first | apply Kd.R_alloc | apply Kd.R_drewN | apply Kd.R_drew)); exact Kd.R_mono HO_110000.out (fun _ hk => ⟨hk.1, ⟨hk.2.1, hk.2.2.2⟩⟩)⟩, ⟨by (with_reducible repeat (first | apply Kd.R_alloc | apply Kd.R_drewN | apply Kd.R_drew)); exact Kd.R_mono HO_130000.out (fun _ hk => ⟨hk.1, ⟨hk.2.1, hk.2.2.2⟩⟩)⟩, ⟨bb_ BK109.out⟩, ⟨bb_ BK129.out⟩, ⟨gb_ HB.out⟩⟩
    clear HC45
    try clear c1
    try clear c2
    try clear p2
    try clear c3
    try clear c4
    try clear c5
    try clear c6
    try clear c16
    try clear c16b0
    try clear c16b1
    try clear c20
    try clear c28
    try clear c28b0
    try clear c28b1
    try clear c29
    try clear c35
    try clear c36
    try clear c37
    try clear c38
    try clear c39
    try clear c40
    try clear c41
    try clear c42
    try clear c43
    try clear c43b0
    try clear c43b1
    try clear c44
    try clear c46
    try clear c46b0
    try clear c46b1
    try clear c49
    try clear c49b0
    try clear c49b1
    try clear c50
    try clear c50b0
    try clear c50b1
    try clear c51
    try clear c51b0
    try clear c51b1
    try clear c52
    try clear c57
    try clear c62
    try clear c67
    try clear hcz11_0
    try clear hcz14_0
    try clear hcz24_0
    try clear hcz26_0
    try clear hcz38_0
    try clear hcz41_0
    try clear hcz53_0
    try clear hcz55_0
    try clear hcz58_0
    try clear hcz60_0
    try clear hcz63_0
    try clear hcz65_0
    try clear hcz68_0
    try clear hcz70_0
    try clear hfz11_0
    try clear hfz14_0
    try clear hfz24_0
    try clear hfz26_0
    try clear hfz38_0
    try clear hfz41_0
    try clear hfz53_0
    try clear hfz55_0
    try clear hfz58_0
    try clear hfz60_0
    try clear hfz63_0
    try clear hfz65_0
    try clear hfz68_0
    try clear hfz70_0
    try clear p2
    obtain ⟨kq, HA, HJ44, HO_4, HO_6, HO_110000, HO_130000, BK109, BK129, HB⟩ := hcut
    cases kq with
    | zero => exact absurd HA.out (by simp [laws_FnNearest.j3])
    | succ kj44 =>
     have H := HA.out
     clear HA
     simp only [laws_FnNearest.j3] at H
     by_cases c72 : t113 = 0
     rotate_left
     ·rw [if_neg c72] at H
      have c72b0 : (t113 == 0) = false := beq_eq_false_iff_ne.mpr c72
      have c72b1 : (t113 != 0) = true := bne_iff_ne.mpr c72
      by_cases c96 : (t110.length : Int) = 0
      ·rw [if_pos c96] at H
       have c96b0 : ((t110.length : Int) == 0) = true := beq_iff_eq.mpr c96
       have c96b1 : ((t110.length : Int) != 0) = false := bne_eq_false_iff_eq.mpr c96
       clear c96
       obtain rfl := Option.some.inj H
       obtain ⟨Ao97, co97, eo97⟩ := Kd.R_slice HO_6.out
       subst eo97
       go_wp2
       go_ret
       exact ⟨t5_, gb_ HB.out⟩
      rw [if_neg c96] at H
      have c96b0 : ((t110.length : Int) == 0) = false := beq_eq_false_iff_ne.mpr c96
      have c96b1 : ((t110.length : Int) != 0) = true := bne_iff_ne.mpr c96
      have c96b2 : ¬ (t110 = []) := fun h_ => c96 (by rw [h_]; rfl)
      obtain rfl := Option.some.inj H
      obtain ⟨Ao98, co98, eo98⟩ := Kd.R_slice HO_6.out
      subst eo98
      go_wp2
      go_ret
      exact ⟨t5_, gb_ HB.out⟩

     rw [if_pos c72] at H
     have c72b0 : (t113 == 0) = true := beq_iff_eq.mpr c72
     have c72b1 : (t113 != 0) = false := bne_eq_false_iff_eq.mpr c72
     clear c72
     by_cases c73 : (t105.length : Int) = 0
     ·rw [if_pos c73] at H
      have c73b0 : ((t105.length : Int) == 0) = true := beq_iff_eq.mpr c73
      have c73b1 : ((t105.length : Int) != 0) = false := bne_eq_false_iff_eq.mpr c73
      clear c73
      by_cases c74 : (t110.length : Int) = 0
      ·rw [if_pos c74] at H
       have c74b0 : ((t110.length : Int) == 0) = true := beq_iff_eq.mpr c74
       have c74b1 : ((t110.length : Int) != 0) = false := bne_eq_false_iff_eq.mpr c74
       clear c74
       obtain rfl := Option.some.inj H
       obtain ⟨Ao75, co75, eo75⟩ := Kd.R_slice HO_6.out
       subst eo75
       go_wp2
       go_ret
       exact ⟨t5_, gb_ HB.out⟩
      rw [if_neg c74] at H
      have c74b0 : ((t110.length : Int) == 0) = false := beq_eq_false_iff_ne.mpr c74
      have c74b1 : ((t110.length : Int) != 0) = true := bne_iff_ne.mpr c74
      have c74b2 : ¬ (t110 = []) := fun h_ => c74 (by rw [h_]; rfl)
      obtain rfl := Option.some.inj H
      obtain ⟨Ao76, co76, eo76⟩ := Kd.R_slice HO_6.out
      subst eo76
      go_wp2
      go_ret
      exact ⟨t5_, gb_ HB.out⟩
     rw [if_neg c73] at H
     have c73b0 : ((t105.length : Int) == 0) = false := beq_eq_false_iff_ne.mpr c73
     have c73b1 : ((t105.length : Int) != 0) = true := bne_iff_ne.mpr c73
     have c73b2 : ¬ (t105 = []) := fun h_ => c73 (by rw [h_]; rfl)
     have H' := Aside0.mk H
     clear H
     go_wp2
     go_loopg [24] kj44 (fun kq v24 w' => ∃ (x24_5 : Int), v24 = .int .i64 x24_5 ∧ Aside0 (laws_FnNearest.l0 kq t105 t108 t110 t119 t120 x24_5 t102 = some r) ∧ Aside0 (kq ≤ kj44) ∧ Aside0 (Kd.R (Kd.int .i64) 2 w' w.heap.size (fun k_ => OB_ k_ v111 ∧ OB_ k_ (.slice Ao10 t102.length co10) ∧ OB_ k_ (.slice Ao36 t123.length co36)) (.slice Ao12 t105.length co12) t105) ∧ Aside0 (Kd.R (Kd.int .i64) 2 w' w.heap.size (fun k_ => OB_ k_ (.slice Ao12 t105.length co12) ∧ OB_ k_ (.slice Ao10 t102.length co10) ∧ OB_ k_ (.slice Ao36 t123.length co36)) v111 t110) ∧ Aside0 (Kd.R (Kd.int .i64) 2 w' w.heap.size (fun k_ => OB_ k_ (.slice Ao12 t105.length co12) ∧ OB_ k_ v111 ∧ OB_ k_ (.slice Ao36 t123.length co36)) (.slice Ao10 t102.length co10) t102) ∧ Aside0 (Kd.R (Kd.int .i64) 2 w' w.heap.size (fun k_ => OB_ k_ (.slice Ao12 t105.length co12) ∧ OB_ k_ v111 ∧ OB_ k_ (.slice Ao10 t102.length co10)) (.slice Ao36 t123.length co36) t123) ∧ Aside0 (w'.heap[gb109]? = some (.cells #[(.slice Ao10 t102.length co10)] 26 (0, 0))) ∧ Aside0 (w'.heap[gb129]? = some (.cells #[(.slice Ao36 t123.length co36)] 26 (0, 0))) ∧ Aside0 (Below w.heap.size w w'))
     case atStart => exact ⟨(0), t2_, H', ⟨Nat.le_refl _⟩, ⟨rb_ HO_4.out⟩, ⟨rb_ HO_6.out⟩, ⟨rb_ HO_110000.out⟩, ⟨rb_ HO_130000.out⟩, ⟨bb_ BK109.out⟩, ⟨bb_ BK129.out⟩, ⟨gb_ HB.out⟩⟩
     clear H'
     try clear c1
     try clear c2
     try clear p2
     try clear c3
     try clear c4
     try clear c5
     try clear c6
     try clear c7
     try clear c16
     try clear c16b0
     try clear c16b1
     try clear c20
     try clear c28
     try clear c28b0
     try clear c28b1
     try clear c29
     try clear c35
     try clear c36
     try clear c37
     try clear c38
     try clear c39
     try clear c40
     try clear c41
     try clear c42
     try clear c43
     try clear c43b0
     try clear c43b1
     try clear c44
     try clear c46
     try clear c46b0
     try clear c46b1
     try clear c49
     try clear c49b0
     try clear c49b1
     try clear c50
     try clear c50b0
     try clear c50b1
     try clear c51
     try clear c51b0
     try clear c51b1
     try clear c52
     try clear c57
     try clear c62
     try clear c67
     try clear c72
     try clear c72b0
     try clear c72b1
     try clear c73
     try clear c73b0
     try clear c73b1
     try clear c73b2
     try clear c74
     try clear c74b0
     try clear c74b1
     try clear c74b2
     try clear hcz11_0
     try clear hcz14_0
     try clear hcz24_0
     try clear hcz26_0
     try clear hcz38_0
     try clear hcz41_0
     try clear hcz53_0
     try clear hcz55_0
     try clear hcz58_0
     try clear hcz60_0
     try clear hcz63_0
     try clear hcz65_0
     try clear hcz68_0
     try clear hcz70_0
     try clear hfz11_0
     try clear hfz14_0
     try clear hfz24_0
     try clear hfz26_0
     try clear hfz38_0
     try clear hfz41_0
     try clear hfz53_0
     try clear hfz55_0
     try clear hfz58_0
     try clear hfz60_0
     try clear hfz63_0
     try clear hfz65_0
     try clear hfz68_0
     try clear hfz70_0
     try clear p2
     obtain ⟨x24_5, rfl, HA, HK5, HO_4, HO_6, HO_110000, HO_130000, BK109, BK129, HB⟩ := hrel
     obtain _ | k5 := gk
     ·exact absurd HA.out (by simp [laws_FnNearest.l0])
     have H := HA.out
     clear HA
     simp only [laws_FnNearest.l0] at H
     by_cases c77 : x24_5 < (t105.length : Int)
     rotate_left
     ·rw [if_neg c77] at H
      have c77b0 : decide (x24_5 < (t105.length : Int)) = false := decide_eq_false c77
      clear c77
      by_cases c94 : t120 = 0
      rotate_left
      ·rw [if_neg c94] at H
       have c94b0 : (t120 == 0) = false := beq_eq_false_iff_ne.mpr c94
       have c94b1 : (t120 != 0) = true := bne_iff_ne.mpr c94
       obtain rfl := Option.some.inj H
       go_wp2
       go_ret
       exact ⟨t5_, gb_ HB.out⟩
      rw [if_pos c94] at H
      have c94b0 : (t120 == 0) = true := beq_iff_eq.mpr c94
      have c94b1 : (t120 != 0) = false := bne_eq_false_iff_eq.mpr c94
      clear c94
      obtain rfl := Option.some.inj H
      obtain ⟨Ao95, co95, eo95⟩ := Kd.R_slice HO_6.out
      subst eo95
      go_wp2
      go_ret
      exact ⟨t5_, gb_ HB.out⟩
     rw [if_pos c77] at H
     have c77b0 : decide (x24_5 < (t105.length : Int)) = true := decide_eq_true c77
     clear c77
     by_cases c78 : 0 ≤ x24_5
     rotate_left
     ·rw [if_neg c78] at H
      exact absurd H (by simp)
     rw [if_pos c78] at H
     have c78b0 : decide (0 ≤ x24_5) = true := decide_eq_true c78
     clear c78
     replace H := Option.bind_eq_some_iff.mp H
     obtain ⟨⟨t139, t140⟩, A790, H⟩ := H
     replace H : (if t140 = 0 then (if t139 < t119 then (some false) else ((laws_hasInt.f k5 t110 (rd t105 x24_5)).bind fun t142 => (if ((t139 == t119) != t142) = true then (some false) else (laws_FnNearest.l0 k5 t105 t108 t110 t119 t120 (wrap64 (x24_5 + 1)) t102)))) else (some false)) = some r := H
     have A79 := Aside0.mk A790
     clear A790
     by_cases c80 : t140 = 0
     rotate_left
     ·rw [if_neg c80] at H
      have c80b0 : (t140 == 0) = false := beq_eq_false_iff_ne.mpr c80
      have c80b1 : (t140 != 0) = true := bne_iff_ne.mpr c80
      obtain rfl := Option.some.inj H
      try go_wp2
      replace HO_4 := Aside0.mk (Kd.R_drew HO_4.out)
      replace HO_6 := Aside0.mk (Kd.R_drew HO_6.out)
      replace HO_110000 := Aside0.mk (Kd.R_drew HO_110000.out)
      replace HO_130000 := Aside0.mk (Kd.R_drew HO_130000.out)
      replace BK109 := Aside0.mk (blk_drew BK109.out)
      replace BK129 := Aside0.mk (blk_drew BK129.out)
      replace HB := Aside0.mk (below_drew1 HB.out)
      have p138 : 0 ≤ (x24_5 : Int) := of_decide_eq_true (by first | (with_reducible assumption) | assumption)
      have q138 : x24_5 < (t105.length : Int) := of_decide_eq_true (by first | (with_reducible assumption) | assumption)
      obtain ⟨ad138, e138, hx138_0⟩ := Kd.at_int (Kd.R_reads' HO_4.out).2.2 x24_5 p138 q138
      cases e138
      replace p138 := eq_true p138
      replace q138 := eq_true q138
      refine start_ (n := 12) (S := fun w' => w'.cell? ⟨gb109, 0, none⟩ = some (.slice Ao10 t102.length co10) ∧ w'.cell? (ad138.add (x24_5).toNat) = some (.int .i64 (rd t105 x24_5))) (ds := []) #[false, false, false, false, false, false, false, false, false, false, false, false] (by kernel_rfl) rfl rfl ⟨(blk_cell BK109.out 0).trans rfl, hx138_0⟩ (fun hHeld => ?_); refine with_tabW laws_FnNearest.tab29 laws_FnNearest.bits29 (fun HT_ HW_ => ?_)
      generalize wr.drew = w92 at HO_4 HO_6 HO_110000 HO_130000 BK109 BK129 HB hx138_0 hHeld ⊢
      refine pure_ (i := 1) (N := some 159) (v := ?_) (a' := ?_) #[false, true, false, false, false, false, false, false, false, false, false, false] rfl rfl (any_of HT_.out (by kernel_rfl)) (fun _ _ _ h => h) (Or.inl ⟨by rfl, ?_⟩) ?_ ?_
      rotate_left
      ·intro w'
       go_simp
       with_reducible rfl
      rotate_left
      ·exact t4_
      refine pure_ (i := 2) (N := some 160) (v := ?_) (a' := ?_) #[false, true, true, false, false, false, false, false, false, false, false, false] rfl rfl (any_of HT_.out (by kernel_rfl)) (fun _ _ _ h => h) (Or.inl ⟨by rfl, ?_⟩) ?_ ?_
      rotate_left
      ·intro w'
       go_simp
       with_reducible rfl
      rotate_left
      ·exact t4_
      refine pure_ (i := 3) (N := some 161) (v := ?_) (a' := ?_) #[false, true, true, true, false, false, false, false, false, false, false, false] rfl rfl (any_of HT_.out (by kernel_rfl)) (fun _ _ _ h => h) (Or.inl ⟨by rfl, ?_⟩) ?_ ?_
      rotate_left
      ·intro w'
       go_simp
       with_reducible rfl
      rotate_left
      ·exact t4_
      refine pure_ (i := 5) (N := some 163) (v := ?_) (a' := ?_) #[false, true, true, true, false, true, false, false, false, false, false, false] rfl rfl (any_of HT_.out (by kernel_rfl)) (fun _ _ _ h => h) (Or.inl ⟨by rfl, ?_⟩) ?_ ?_
      rotate_left
      ·intro w'
       go_simp
       with_reducible rfl
      rotate_left
      ·exact t4_
      refine take_ (i := 0) (N := some 158) (v := ?_) (a' := ?_) #[true, true, true, true, false, true, false, false, false, false, false, false] rfl rfl (take_ofW HT_.out HW_.out (by kernel_rfl)) (fun _ _ _ h => h) (Or.inl ⟨by rfl, ?_⟩) hHeld ?_ ?_
      rotate_left
      ·rintro w' ⟨s0, s1⟩
       go_simp
       with_reducible rfl
      rotate_left
      ·exact t4_
      refine take_ (i := 4) (N := some 162) (v := ?_) (a' := ?_) #[true, true, true, true, true, true, false, false, false, false, false, false] rfl rfl (take_ofW HT_.out HW_.out (by kernel_rfl)) (fun _ _ _ h => h) (Or.inl ⟨by rfl, ?_⟩) hHeld ?_ ?_
      rotate_left
      ·rintro w' ⟨s0, s1⟩
       go_simp
       with_reducible rfl
      rotate_left
      ·exact t4_
      refine one_ (i := 6) (N := some 164) #[true, true, true, true, true, true, true, false, false, false, false, false] rfl rfl (one_of HT_.out (by kernel_rfl)) (by decide) (fun K hK => ?_)
      refine goes_ Try.func10 (by kernel_rfl) rfl #[.agg #[.slice Ao10 t102.length co10], .int .i64 (rd t105 x24_5), .int .i64 t108] (by rfl) rfl rfl t1_ ?_
      with_reducible refine (impl_DistanceOf.calls k5 _ _ t102 (rd t105 x24_5) t108 t139 t140 _ ?side1 ?side2 A79.out).mono ?_
      (case side1 => exact c1_ HO_110000)
      (case side2 => exact (Kd.R_reads' HO_110000.out).2.1)
      rintro e w93 ⟨rfl, hb⟩
      have HS1_ := (hb.cell (World.block_lt_of_cell? _ _ (hHeld.2))).trans (hHeld.2)
      refine ⟨_, rfl, ?_⟩
      replace HO_4 := a1_ HO_4 hb
      replace HO_6 := a1_ HO_6 hb
      replace HO_110000 := a1_ HO_110000 hb
      replace HO_130000 := a1_ HO_130000 hb
      replace BK109 := a2_ BK109 hb
      replace BK129 := a2_ BK129 hb
      replace HB := b1_ HB hb
      (try clear hb)
      (try clear hb2)
      (try clear hk)
      (try clear hi)
      refine hK.out _ _ ⟨(blk_cell BK109.out 0).trans rfl, HS1_⟩ (fun hHeld => ?_)
      clear hK K
      refine norm_ (a' := ?_) ?_ ?_
      rotate_left
      ·show Act.put _ (some 164) _ = _
       simp only [Act.put, List.setIfInBounds_toArray, List.set_cons_zero, List.set_cons_succ, i64_w, i32_w]
       rfl
      refine pure_ (i := 7) (N := some 157) (v := ?_) (a' := ?_) #[true, true, true, true, true, true, true, true, false, false, false, false] rfl rfl (any_of HT_.out (by kernel_rfl)) (fun _ _ _ h => h) (Or.inl ⟨by rfl, ?_⟩) ?_ ?_
      rotate_left
      ·intro w'
       go_simp
       with_reducible rfl
      rotate_left
      ·exact t4_
      refine pure_ (i := 8) (N := some 165) (v := ?_) (a' := ?_) #[true, true, true, true, true, true, true, true, true, false, false, false] rfl rfl (any_of HT_.out (by kernel_rfl)) (fun _ _ _ h => h) (Or.inl ⟨by rfl, ?_⟩) ?_ ?_
      rotate_left
      ·intro w'
       go_simp
       with_reducible rfl
      rotate_left
      ·exact t4_
      refine pure_ (i := 9) (N := some 166) (v := ?_) (a' := ?_) #[true, true, true, true, true, true, true, true, true, true, false, false] rfl rfl (any_of HT_.out (by kernel_rfl)) (fun _ _ _ h => h) (Or.inl ⟨by rfl, ?_⟩) ?_ ?_
      rotate_left
      ·intro w'
       go_simp
       with_reducible rfl
      rotate_left
      ·exact t4_
      refine pure_ (i := 10) (N := some 25) (v := ?_) (a' := ?_) #[true, true, true, true, true, true, true, true, true, true, true, false] rfl rfl (any_of HT_.out (by kernel_rfl)) (fun _ _ _ h => h) (Or.inl ⟨by rfl, ?_⟩) ?_ ?_
      rotate_left
      ·intro w'
       go_simp
       with_reducible rfl
      rotate_left
      ·exact t4_
      refine pure_ (i := 11) (N := some 26) (v := ?_) (a' := ?_) #[true, true, true, true, true, true, true, true, true, true, true, true] rfl rfl (any_of HT_.out (by kernel_rfl)) (fun _ _ _ h => h) (Or.inl ⟨by rfl, ?_⟩) ?_ ?_
      rotate_left
      ·intro w'
       go_simp
       with_reducible rfl
      rotate_left
      ·exact t4_
      refine done_ (done_of HT_.out (by kernel_rfl)) ?_
      try go_wp2
      go_ret
      exact ⟨t5_, gb_ HB.out⟩
     rw [if_pos c80] at H
     have c80b0 : (t140 == 0) = true := beq_iff_eq.mpr c80
     have c80b1 : (t140 != 0) = false := bne_eq_false_iff_eq.mpr c80
     clear c80
     by_cases c81 : t139 < t119
     ·rw [if_pos c81] at H
      have c81b0 : decide (t139 < t119) = true := decide_eq_true c81
      clear c81
      obtain rfl := Option.some.inj H
      try go_wp2
      replace HO_4 := Aside0.mk (Kd.R_drew HO_4.out)
      replace HO_6 := Aside0.mk (Kd.R_drew HO_6.out)
      replace HO_110000 := Aside0.mk (Kd.R_drew HO_110000.out)
      replace HO_130000 := Aside0.mk (Kd.R_drew HO_130000.out)
      replace BK109 := Aside0.mk (blk_drew BK109.out)
      replace BK129 := Aside0.mk (blk_drew BK129.out)
      replace HB := Aside0.mk (below_drew1 HB.out)
      have p138 : 0 ≤ (x24_5 : Int) := of_decide_eq_true (by first | (with_reducible assumption) | assumption)
      have q138 : x24_5 < (t105.length : Int) := of_decide_eq_true (by first | (with_reducible assumption) | assumption)
      obtain ⟨ad138, e138, hx138_0⟩ := Kd.at_int (Kd.R_reads' HO_4.out).2.2 x24_5 p138 q138
      cases e138
      replace p138 := eq_true p138
      replace q138 := eq_true q138
      refine start_ (n := 12) (S := fun w' => w'.cell? ⟨gb109, 0, none⟩ = some (.slice Ao10 t102.length co10) ∧ w'.cell? (ad138.add (x24_5).toNat) = some (.int .i64 (rd t105 x24_5))) (ds := []) #[false, false, false, false, false, false, false, false, false, false, false, false] (by kernel_rfl) rfl rfl ⟨(blk_cell BK109.out 0).trans rfl, hx138_0⟩ (fun hHeld => ?_); refine with_tabW laws_FnNearest.tab29 laws_FnNearest.bits29 (fun HT_ HW_ => ?_)
      generalize wr.drew = w82 at HO_4 HO_6 HO_110000 HO_130000 BK109 BK129 HB hx138_0 hHeld ⊢
      refine pure_ (i := 1) (N := some 159) (v := ?_) (a' := ?_) #[false, true, false, false, false, false, false, false, false, false, false, false] rfl rfl (any_of HT_.out (by kernel_rfl)) (fun _ _ _ h => h) (Or.inl ⟨by rfl, ?_⟩) ?_ ?_
      rotate_left
      ·intro w'
       go_simp
       with_reducible rfl
      rotate_left
      ·exact t4_
      refine pure_ (i := 2) (N := some 160) (v := ?_) (a' := ?_) #[false, true, true, false, false, false, false, false, false, false, false, false] rfl rfl (any_of HT_.out (by kernel_rfl)) (fun _ _ _ h => h) (Or.inl ⟨by rfl, ?_⟩) ?_ ?_
      rotate_left
      ·intro w'
       go_simp
       with_reducible rfl
      rotate_left
      ·exact t4_
      refine pure_ (i := 3) (N := some 161) (v := ?_) (a' := ?_) #[false, true, true, true, false, false, false, false, false, false, false, false] rfl rfl (any_of HT_.out (by kernel_rfl)) (fun _ _ _ h => h) (Or.inl ⟨by rfl, ?_⟩) ?_ ?_
      rotate_left
      ·intro w'
       go_simp
       with_reducible rfl
      rotate_left
      ·exact t4_
      refine pure_ (i := 5) (N := some 163) (v := ?_) (a' := ?_) #[false, true, true, true, false, true, false, false, false, false, false, false] rfl rfl (any_of HT_.out (by kernel_rfl)) (fun _ _ _ h => h) (Or.inl ⟨by rfl, ?_⟩) ?_ ?_
      rotate_left
      ·intro w'
       go_simp
       with_reducible rfl
      rotate_left
      ·exact t4_
      refine take_ (i := 0) (N := some 158) (v := ?_) (a' := ?_) #[true, true, true, true, false, true, false, false, false, false, false, false] rfl rfl (take_ofW HT_.out HW_.out (by kernel_rfl)) (fun _ _ _ h => h) (Or.inl ⟨by rfl, ?_⟩) hHeld ?_ ?_
      rotate_left
      ·rintro w' ⟨s0, s1⟩
       go_simp
       with_reducible rfl
      rotate_left
      ·exact t4_
      refine take_ (i := 4) (N := some 162) (v := ?_) (a' := ?_) #[true, true, true, true, true, true, false, false, false, false, false, false] rfl rfl (take_ofW HT_.out HW_.out (by kernel_rfl)) (fun _ _ _ h => h) (Or.inl ⟨by rfl, ?_⟩) hHeld ?_ ?_
      rotate_left
      ·rintro w' ⟨s0, s1⟩
       go_simp
       with_reducible rfl
      rotate_left
      ·exact t4_
      refine one_ (i := 6) (N := some 164) #[true, true, true, true, true, true, true, false, false, false, false, false] rfl rfl (one_of HT_.out (by kernel_rfl)) (by decide) (fun K hK => ?_)
      refine goes_ Try.func10 (by kernel_rfl) rfl #[.agg #[.slice Ao10 t102.length co10], .int .i64 (rd t105 x24_5), .int .i64 t108] (by rfl) rfl rfl t1_ ?_
      with_reducible refine (impl_DistanceOf.calls k5 _ _ t102 (rd t105 x24_5) t108 t139 t140 _ ?side1 ?side2 A79.out).mono ?_
      (case side1 => exact c1_ HO_110000)
      (case side2 => exact (Kd.R_reads' HO_110000.out).2.1)
      rintro e w83 ⟨rfl, hb⟩
      have HS1_ := (hb.cell (World.block_lt_of_cell? _ _ (hHeld.2))).trans (hHeld.2)
      refine ⟨_, rfl, ?_⟩
      replace HO_4 := a1_ HO_4 hb
      replace HO_6 := a1_ HO_6 hb
      replace HO_110000 := a1_ HO_110000 hb
      replace HO_130000 := a1_ HO_130000 hb
      replace BK109 := a2_ BK109 hb
      replace BK129 := a2_ BK129 hb
      replace HB := b1_ HB hb
      (try clear hb)
      (try clear hb2)
      (try clear hk)
      (try clear hi)
      refine hK.out _ _ ⟨(blk_cell BK109.out 0).trans rfl, HS1_⟩ (fun hHeld => ?_)
      clear hK K
      refine norm_ (a' := ?_) ?_ ?_
      rotate_left
      ·show Act.put _ (some 164) _ = _
       simp only [Act.put, List.setIfInBounds_toArray, List.set_cons_zero, List.set_cons_succ, i64_w, i32_w]
       rfl
      refine pure_ (i := 7) (N := some 157) (v := ?_) (a' := ?_) #[true, true, true, true, true, true, true, true, false, false, false, false] rfl rfl (any_of HT_.out (by kernel_rfl)) (fun _ _ _ h => h) (Or.inl ⟨by rfl, ?_⟩) ?_ ?_
      rotate_left
      ·intro w'
       go_simp
       with_reducible rfl
      rotate_left
      ·exact t4_
      refine pure_ (i := 8) (N := some 165) (v := ?_) (a' := ?_) #[true, true, true, true, true, true, true, true, true, false, false, false] rfl rfl (any_of HT_.out (by kernel_rfl)) (fun _ _ _ h => h) (Or.inl ⟨by rfl, ?_⟩) ?_ ?_
      rotate_left
      ·intro w'
       go_simp
       with_reducible rfl
      rotate_left
      ·exact t4_
      refine pure_ (i := 9) (N := some 166) (v := ?_) (a' := ?_) #[true, true, true, true, true, true, true, true, true, true, false, false] rfl rfl (any_of HT_.out (by kernel_rfl)) (fun _ _ _ h => h) (Or.inl ⟨by rfl, ?_⟩) ?_ ?_
      rotate_left
      ·intro w'
       go_simp
       with_reducible rfl
      rotate_left
      ·exact t4_
      refine pure_ (i := 10) (N := some 25) (v := ?_) (a' := ?_) #[true, true, true, true, true, true, true, true, true, true, true, false] rfl rfl (any_of HT_.out (by kernel_rfl)) (fun _ _ _ h => h) (Or.inl ⟨by rfl, ?_⟩) ?_ ?_
      rotate_left
      ·intro w'
       go_simp
       with_reducible rfl
      rotate_left
      ·exact t4_
      refine pure_ (i := 11) (N := some 26) (v := ?_) (a' := ?_) #[true, true, true, true, true, true, true, true, true, true, true, true] rfl rfl (any_of HT_.out (by kernel_rfl)) (fun _ _ _ h => h) (Or.inl ⟨by rfl, ?_⟩) ?_ ?_
      rotate_left
      ·intro w'
       go_simp
       with_reducible rfl
      rotate_left
      ·exact t4_
      refine done_ (done_of HT_.out (by kernel_rfl)) ?_
      try go_wp2
      go_ret
      exact ⟨t5_, gb_ HB.out⟩
     rw [if_neg c81] at H
     have c81b0 : decide (t139 < t119) = false := decide_eq_false c81
     clear c81
     replace H := Option.bind_eq_some_iff.mp H
     obtain ⟨t142, A840, H⟩ := H
     replace H : (if ((t139 == t119) != t142) = true then (some false) else (laws_FnNearest.l0 k5 t105 t108 t110 t119 t120 (wrap64 (x24_5 + 1)) t102)) = some r := H
     have A84 := Aside0.mk A840
     clear A840
     by_cases c85 : ((t139 == t119) != t142) = true
     ·rw [if_pos c85] at H
      have c85b0 : ((t139 == t119) != t142) = true := c85
      (try (have c85b1 : decide ((t139 == t119) = t142) = false := by simpa using c85))
      (try (have c85b2 : ((t139 == t119) == t142) = false := by simpa using c85))
      (try (have c85b3 : ¬ ((t139 == t119) = t142) := by simpa using c85))
      clear c85
      obtain rfl := Option.some.inj H
      try go_wp2
      replace HO_4 := Aside0.mk (Kd.R_drew HO_4.out)
      replace HO_6 := Aside0.mk (Kd.R_drew HO_6.out)
      replace HO_110000 := Aside0.mk (Kd.R_drew HO_110000.out)
      replace HO_130000 := Aside0.mk (Kd.R_drew HO_130000.out)
      replace BK109 := Aside0.mk (blk_drew BK109.out)
      replace BK129 := Aside0.mk (blk_drew BK129.out)
      replace HB := Aside0.mk (below_drew1 HB.out)
      have p138 : 0 ≤ (x24_5 : Int) := of_decide_eq_true (by first | (with_reducible assumption) | assumption)
      have q138 : x24_5 < (t105.length : Int) := of_decide_eq_true (by first | (with_reducible assumption) | assumption)
      obtain ⟨ad138, e138, hx138_0⟩ := Kd.at_int (Kd.R_reads' HO_4.out).2.2 x24_5 p138 q138
      cases e138
      replace p138 := eq_true p138
      replace q138 := eq_true q138
      refine start_ (n := 12) (S := fun w' => w'.cell? ⟨gb109, 0, none⟩ = some (.slice Ao10 t102.length co10) ∧ w'.cell? (ad138.add (x24_5).toNat) = some (.int .i64 (rd t105 x24_5))) (ds := []) #[false, false, false, false, false, false, false, false, false, false, false, false] (by kernel_rfl) rfl rfl ⟨(blk_cell BK109.out 0).trans rfl, hx138_0⟩ (fun hHeld => ?_); refine with_tabW laws_FnNearest.tab29 laws_FnNearest.bits29 (fun HT_ HW_ => ?_)
      generalize wr.drew = w86 at HO_4 HO_6 HO_110000 HO_130000 BK109 BK129 HB hx138_0 hHeld ⊢
      refine pure_ (i := 1) (N := some 159) (v := ?_) (a' := ?_) #[false, true, false, false, false, false, false, false, false, false, false, false] rfl rfl (any_of HT_.out (by kernel_rfl)) (fun _ _ _ h => h) (Or.inl ⟨by rfl, ?_⟩) ?_ ?_
      rotate_left
      ·intro w'
       go_simp
       with_reducible rfl
      rotate_left
      ·exact t4_
      refine pure_ (i := 2) (N := some 160) (v := ?_) (a' := ?_) #[false, true, true, false, false, false, false, false, false, false, false, false] rfl rfl (any_of HT_.out (by kernel_rfl)) (fun _ _ _ h => h) (Or.inl ⟨by rfl, ?_⟩) ?_ ?_
      rotate_left
      ·intro w'
       go_simp
       with_reducible rfl
      rotate_left
      ·exact t4_
      refine pure_ (i := 3) (N := some 161) (v := ?_) (a' := ?_) #[false, true, true, true, false, false, false, false, false, false, false, false] rfl rfl (any_of HT_.out (by kernel_rfl)) (fun _ _ _ h => h) (Or.inl ⟨by rfl, ?_⟩) ?_ ?_
      rotate_left
      ·intro w'
       go_simp
       with_reducible rfl
      rotate_left
      ·exact t4_
      refine pure_ (i := 5) (N := some 163) (v := ?_) (a' := ?_) #[false, true, true, true, false, true, false, false, false, false, false, false] rfl rfl (any_of HT_.out (by kernel_rfl)) (fun _ _ _ h => h) (Or.inl ⟨by rfl, ?_⟩) ?_ ?_
      rotate_left
      ·intro w'
       go_simp
       with_reducible rfl
      rotate_left
      ·exact t4_
      refine take_ (i := 0) (N := some 158) (v := ?_) (a' := ?_) #[true, true, true, true, false, true, false, false, false, false, false, false] rfl rfl (take_ofW HT_.out HW_.out (by kernel_rfl)) (fun _ _ _ h => h) (Or.inl ⟨by rfl, ?_⟩) hHeld ?_ ?_
      rotate_left
      ·rintro w' ⟨s0, s1⟩
       go_simp
       with_reducible rfl
      rotate_left
      ·exact t4_
      refine take_ (i := 4) (N := some 162) (v := ?_) (a' := ?_) #[true, true, true, true, true, true, false, false, false, false, false, false] rfl rfl (take_ofW HT_.out HW_.out (by kernel_rfl)) (fun _ _ _ h => h) (Or.inl ⟨by rfl, ?_⟩) hHeld ?_ ?_
      rotate_left
      ·rintro w' ⟨s0, s1⟩
       go_simp
       with_reducible rfl
      rotate_left
      ·exact t4_
      refine one_ (i := 6) (N := some 164) #[true, true, true, true, true, true, true, false, false, false, false, false] rfl rfl (one_of HT_.out (by kernel_rfl)) (by decide) (fun K hK => ?_)
      refine goes_ Try.func10 (by kernel_rfl) rfl #[.agg #[.slice Ao10 t102.length co10], .int .i64 (rd t105 x24_5), .int .i64 t108] (by rfl) rfl rfl t1_ ?_
      with_reducible refine (impl_DistanceOf.calls k5 _ _ t102 (rd t105 x24_5) t108 t139 t140 _ ?side1 ?side2 A79.out).mono ?_
      (case side1 => exact c1_ HO_110000)
      (case side2 => exact (Kd.R_reads' HO_110000.out).2.1)
      rintro e w87 ⟨rfl, hb⟩
      have HS1_ := (hb.cell (World.block_lt_of_cell? _ _ (hHeld.2))).trans (hHeld.2)
      refine ⟨_, rfl, ?_⟩
      replace HO_4 := a1_ HO_4 hb
      replace HO_6 := a1_ HO_6 hb
      replace HO_110000 := a1_ HO_110000 hb
      replace HO_130000 := a1_ HO_130000 hb
      replace BK109 := a2_ BK109 hb
      replace BK129 := a2_ BK129 hb
      replace HB := b1_ HB hb
      (try clear hb)
      (try clear hb2)
      (try clear hk)
      (try clear hi)
      refine hK.out _ _ ⟨(blk_cell BK109.out 0).trans rfl, HS1_⟩ (fun hHeld => ?_)
      clear hK K
      refine norm_ (a' := ?_) ?_ ?_
      rotate_left
      ·show Act.put _ (some 164) _ = _
       simp only [Act.put, List.setIfInBounds_toArray, List.set_cons_zero, List.set_cons_succ, i64_w, i32_w]
       rfl
      refine pure_ (i := 7) (N := some 157) (v := ?_) (a' := ?_) #[true, true, true, true, true, true, true, true, false, false, false, false] rfl rfl (any_of HT_.out (by kernel_rfl)) (fun _ _ _ h => h) (Or.inl ⟨by rfl, ?_⟩) ?_ ?_
      rotate_left
      ·intro w'
       go_simp
       with_reducible rfl
      rotate_left
      ·exact t4_
      refine pure_ (i := 8) (N := some 165) (v := ?_) (a' := ?_) #[true, true, true, true, true, true, true, true, true, false, false, false] rfl rfl (any_of HT_.out (by kernel_rfl)) (fun _ _ _ h => h) (Or.inl ⟨by rfl, ?_⟩) ?_ ?_
      rotate_left
      ·intro w'
       go_simp
       with_reducible rfl
      rotate_left
      ·exact t4_
      refine pure_ (i := 9) (N := some 166) (v := ?_) (a' := ?_) #[true, true, true, true, true, true, true, true, true, true, false, false] rfl rfl (any_of HT_.out (by kernel_rfl)) (fun _ _ _ h => h) (Or.inl ⟨by rfl, ?_⟩) ?_ ?_
      rotate_left
      ·intro w'
       go_simp
       with_reducible rfl
      rotate_left
      ·exact t4_
      refine pure_ (i := 10) (N := some 25) (v := ?_) (a' := ?_) #[true, true, true, true, true, true, true, true, true, true, true, false] rfl rfl (any_of HT_.out (by kernel_rfl)) (fun _ _ _ h => h) (Or.inl ⟨by rfl, ?_⟩) ?_ ?_
      rotate_left
      ·intro w'
       go_simp
       with_reducible rfl
      rotate_left
      ·exact t4_
      refine pure_ (i := 11) (N := some 26) (v := ?_) (a' := ?_) #[true, true, true, true, true, true, true, true, true, true, true, true] rfl rfl (any_of HT_.out (by kernel_rfl)) (fun _ _ _ h => h) (Or.inl ⟨by rfl, ?_⟩) ?_ ?_
      rotate_left
      ·intro w'
       go_simp
       with_reducible rfl
      rotate_left
      ·exact t4_
      refine done_ (done_of HT_.out (by kernel_rfl)) ?_
      have p141 : 0 ≤ (x24_5 : Int) := of_decide_eq_true (by first | (with_reducible assumption) | assumption)
      have q141 : x24_5 < (t105.length : Int) := of_decide_eq_true (by first | (with_reducible assumption) | assumption)
      obtain ⟨ad141, e141, hx141_0⟩ := Kd.at_int (Kd.R_reads' HO_4.out).2.2 x24_5 p141 q141
      obtain rfl : ad138 = ad141 := (by injection e141)
      replace p141 := eq_true p141
      replace q141 := eq_true q141
      obtain ⟨Ao88, co88, eo88⟩ := Kd.R_slice HO_6.out
      subst eo88
      try go_wp2_with (first | (go_at_call 29; (with_reducible refine (laws_hasInt.calls k5 _ _ t110 (rd t105 x24_5) t142 _ ?side1 ?side2 A84.out).mono ?_); (case side1 => exact c1_ HO_6); (case side2 => exact (Kd.R_reads' HO_6.out).2.1); rintro e w' ⟨rfl, ⟨nd, rfl⟩⟩))
      go_ret
      exact ⟨t5_, gb_ HB.out⟩
     rw [if_neg c85] at H
     have c85b0 : ((t139 == t119) != t142) = false := by simpa using c85
     (try (have c85b1 : decide ((t139 == t119) = t142) = true := by simpa using c85))
     (try (have c85b2 : ((t139 == t119) == t142) = true := by simpa using c85))
     clear c85
     have H' := Aside0.mk H
     clear H
     try go_wp2
     replace HO_4 := Aside0.mk (Kd.R_drew HO_4.out)
     replace HO_6 := Aside0.mk (Kd.R_drew HO_6.out)
     replace HO_110000 := Aside0.mk (Kd.R_drew HO_110000.out)
     replace HO_130000 := Aside0.mk (Kd.R_drew HO_130000.out)
     replace BK109 := Aside0.mk (blk_drew BK109.out)
     replace BK129 := Aside0.mk (blk_drew BK129.out)
     replace HB := Aside0.mk (below_drew1 HB.out)
     have p138 : 0 ≤ (x24_5 : Int) := of_decide_eq_true (by first | (with_reducible assumption) | assumption)
     have q138 : x24_5 < (t105.length : Int) := of_decide_eq_true (by first | (with_reducible assumption) | assumption)
     obtain ⟨ad138, e138, hx138_0⟩ := Kd.at_int (Kd.R_reads' HO_4.out).2.2 x24_5 p138 q138
     cases e138
     replace p138 := eq_true p138
     replace q138 := eq_true q138
     refine start_ (n := 12) (S := fun w' => w'.cell? ⟨gb109, 0, none⟩ = some (.slice Ao10 t102.length co10) ∧ w'.cell? (ad138.add (x24_5).toNat) = some (.int .i64 (rd t105 x24_5))) (ds := []) #[false, false, false, false, false, false, false, false, false, false, false, false] (by kernel_rfl) rfl rfl ⟨(blk_cell BK109.out 0).trans rfl, hx138_0⟩ (fun hHeld => ?_); refine with_tabW laws_FnNearest.tab29 laws_FnNearest.bits29 (fun HT_ HW_ => ?_)
     generalize wr.drew = w89 at HO_4 HO_6 HO_110000 HO_130000 BK109 BK129 HB hx138_0 hHeld ⊢
     refine pure_ (i := 1) (N := some 159) (v := ?_) (a' := ?_) #[false, true, false, false, false, false, false, false, false, false, false, false] rfl rfl (any_of HT_.out (by kernel_rfl)) (fun _ _ _ h => h) (Or.inl ⟨by rfl, ?_⟩) ?_ ?_
     rotate_left
     ·intro w'
      go_simp
      with_reducible rfl
     rotate_left
     ·exact t4_
     refine pure_ (i := 2) (N := some 160) (v := ?_) (a' := ?_) #[false, true, true, false, false, false, false, false, false, false, false, false] rfl rfl (any_of HT_.out (by kernel_rfl)) (fun _ _ _ h => h) (Or.inl ⟨by rfl, ?_⟩) ?_ ?_
     rotate_left
     ·intro w'
      go_simp
      with_reducible rfl
     rotate_left
     ·exact t4_
     refine pure_ (i := 3) (N := some 161) (v := ?_) (a' := ?_) #[false, true, true, true, false, false, false, false, false, false, false, false] rfl rfl (any_of HT_.out (by kernel_rfl)) (fun _ _ _ h => h) (Or.inl ⟨by rfl, ?_⟩) ?_ ?_
     rotate_left
     ·intro w'
      go_simp
      with_reducible rfl
     rotate_left
     ·exact t4_
     refine pure_ (i := 5) (N := some 163) (v := ?_) (a' := ?_) #[false, true, true, true, false, true, false, false, false, false, false, false] rfl rfl (any_of HT_.out (by kernel_rfl)) (fun _ _ _ h => h) (Or.inl ⟨by rfl, ?_⟩) ?_ ?_
     rotate_left
     ·intro w'
      go_simp
      with_reducible rfl
     rotate_left
     ·exact t4_
     refine take_ (i := 0) (N := some 158) (v := ?_) (a' := ?_) #[true, true, true, true, false, true, false, false, false, false, false, false] rfl rfl (take_ofW HT_.out HW_.out (by kernel_rfl)) (fun _ _ _ h => h) (Or.inl ⟨by rfl, ?_⟩) hHeld ?_ ?_
     rotate_left
     ·rintro w' ⟨s0, s1⟩
      go_simp
      with_reducible rfl
     rotate_left
     ·exact t4_
     refine take_ (i := 4) (N := some 162) (v := ?_) (a' := ?_) #[true, true, true, true, true, true, false, false, false, false, false, false] rfl rfl (take_ofW HT_.out HW_.out (by kernel_rfl)) (fun _ _ _ h => h) (Or.inl ⟨by rfl, ?_⟩) hHeld ?_ ?_
     rotate_left
     ·rintro w' ⟨s0, s1⟩
      go_simp
      with_reducible rfl
     rotate_left
     ·exact t4_
     refine one_ (i := 6) (N := some 164) #[true, true, true, true, true, true, true, false, false, false, false, false] rfl rfl (one_of HT_.out (by kernel_rfl)) (by decide) (fun K hK => ?_)
     refine goes_ Try.func10 (by kernel_rfl) rfl #[.agg #[.slice Ao10 t102.length co10], .int .i64 (rd t105 x24_5), .int .i64 t108] (by rfl) rfl rfl t1_ ?_
     with_reducible refine (impl_DistanceOf.calls k5 _ _ t102 (rd t105 x24_5) t108 t139 t140 _ ?side1 ?side2 A79.out).mono ?_
     (case side1 => exact c1_ HO_110000)
     (case side2 => exact (Kd.R_reads' HO_110000.out).2.1)
     rintro e w90 ⟨rfl, hb⟩
     have HS1_ := (hb.cell (World.block_lt_of_cell? _ _ (hHeld.2))).trans (hHeld.2)
     refine ⟨_, rfl, ?_⟩
     replace HO_4 := a1_ HO_4 hb
     replace HO_6 := a1_ HO_6 hb
     replace HO_110000 := a1_ HO_110000 hb
     replace HO_130000 := a1_ HO_130000 hb
     replace BK109 := a2_ BK109 hb
     replace BK129 := a2_ BK129 hb
     replace HB := b1_ HB hb
     (try clear hb)
     (try clear hb2)
     (try clear hk)
     (try clear hi)
     refine hK.out _ _ ⟨(blk_cell BK109.out 0).trans rfl, HS1_⟩ (fun hHeld => ?_)
     clear hK K
     refine norm_ (a' := ?_) ?_ ?_
     rotate_left
     ·show Act.put _ (some 164) _ = _
      simp only [Act.put, List.setIfInBounds_toArray, List.set_cons_zero, List.set_cons_succ, i64_w, i32_w]
      rfl
     refine pure_ (i := 7) (N := some 157) (v := ?_) (a' := ?_) #[true, true, true, true, true, true, true, true, false, false, false, false] rfl rfl (any_of HT_.out (by kernel_rfl)) (fun _ _ _ h => h) (Or.inl ⟨by rfl, ?_⟩) ?_ ?_
     rotate_left
     ·intro w'
      go_simp
      with_reducible rfl
     rotate_left
     ·exact t4_
     refine pure_ (i := 8) (N := some 165) (v := ?_) (a' := ?_) #[true, true, true, true, true, true, true, true, true, false, false, false] rfl rfl (any_of HT_.out (by kernel_rfl)) (fun _ _ _ h => h) (Or.inl ⟨by rfl, ?_⟩) ?_ ?_
     rotate_left
     ·intro w'
      go_simp
      with_reducible rfl
     rotate_left
     ·exact t4_
     refine pure_ (i := 9) (N := some 166) (v := ?_) (a' := ?_) #[true, true, true, true, true, true, true, true, true, true, false, false] rfl rfl (any_of HT_.out (by kernel_rfl)) (fun _ _ _ h => h) (Or.inl ⟨by rfl, ?_⟩) ?_ ?_
     rotate_left
     ·intro w'
      go_simp
      with_reducible rfl
     rotate_left
     ·exact t4_
     refine pure_ (i := 10) (N := some 25) (v := ?_) (a' := ?_) #[true, true, true, true, true, true, true, true, true, true, true, false] rfl rfl (any_of HT_.out (by kernel_rfl)) (fun _ _ _ h => h) (Or.inl ⟨by rfl, ?_⟩) ?_ ?_
     rotate_left
     ·intro w'
      go_simp
      with_reducible rfl
     rotate_left
     ·exact t4_
     refine pure_ (i := 11) (N := some 26) (v := ?_) (a' := ?_) #[true, true, true, true, true, true, true, true, true, true, true, true] rfl rfl (any_of HT_.out (by kernel_rfl)) (fun _ _ _ h => h) (Or.inl ⟨by rfl, ?_⟩) ?_ ?_
     rotate_left
     ·intro w'
      go_simp
      with_reducible rfl
     rotate_left
     ·exact t4_
     refine done_ (done_of HT_.out (by kernel_rfl)) ?_
     have p141 : 0 ≤ (x24_5 : Int) := of_decide_eq_true (by first | (with_reducible assumption) | assumption)
     have q141 : x24_5 < (t105.length : Int) := of_decide_eq_true (by first | (with_reducible assumption) | assumption)
     obtain ⟨ad141, e141, hx141_0⟩ := Kd.at_int (Kd.R_reads' HO_4.out).2.2 x24_5 p141 q141
     obtain rfl : ad138 = ad141 := (by injection e141)
     replace p141 := eq_true p141
     replace q141 := eq_true q141
     obtain ⟨Ao91, co91, eo91⟩ := Kd.R_slice HO_6.out
     subst eo91
     try go_wp2_with (first | (go_at_call 29; (with_reducible refine (laws_hasInt.calls k5 _ _ t110 (rd t105 x24_5) t142 _ ?side1 ?side2 A84.out).mono ?_); (case side1 => exact c1_ HO_6); (case side2 => exact (Kd.R_reads' HO_6.out).2.1); rintro e w' ⟨rfl, ⟨nd, rfl⟩⟩))
     go_roundg k5
     case measure => have := HJ6.out; have := HJ22.out; have := HJ32.out; have := HJ44.out; have := HK5.out; omega
     case rel => exact ⟨(wrap64 (x24_5 + 1)), t2_, H', ⟨by have := HJ6.out; have := HJ22.out; have := HJ32.out; have := HJ44.out; have := HK5.out; omega⟩, ⟨rb_ HO_4.out⟩, ⟨rb_ HO_6.out⟩, ⟨rb_ HO_110000.out⟩, ⟨rb_ HO_130000.out⟩, ⟨bb_ BK109.out⟩, ⟨bb_ BK129.out⟩, ⟨gb_ HB.out⟩⟩
end Go.Proofs.Ytlfipjdjmpdblaa.P
set_option linter.unusedVariables false
set_option linter.unusedSimpArgs false
namespace Go.Proofs.Ytlfipjdjmpdblaa.Q
open Go.RowKit Go.Proofs.Ytlfipjdjmpdblaa.P Go.Proofs.YtlfipjdjmpdblaaW.PrintWords CC
def rSome (s c ws : List Int) : Int := if rCode s c ws = 0 then if c.length = 0 then 5 else 0 else rCode s c ws
theorem rSome_zero {s c ws : List Int} (h : rSome s c ws = 0) : isSp s = true ∧ isC s c = true ∧ (∀ x ∈ ws, isW s x = true) ∧ 0 < c.length := by
  unfold rSome at h
  split at h
  · rename_i hw
    obtain ⟨h1, h2, h3⟩ := rCode_zero hw
    split at h
    · cases h
    · exact ⟨h1, h2, h3, by omega⟩
  · rename_i hw
    exact absurd h hw
theorem someCode_ev (s : List Int) {c ws : List Int} (hc : c.length ≤ 1048576) (hw : ws.length ≤ 1048576) : Ev (fun k => impl_someCode.f k s c ws) (rSome s c ws) := by
  unfold impl_someCode.f rSome
  refine Ev.bind (codeCode_ev s hc hw) ?_
  by_cases h : rCode s c ws = 0
  · simp only [if_pos h]
    by_cases h2 : c.length = 0
    · rw [if_pos h2]
      exact Ev.iff_pos (by omega) (Ev.now _)
    · rw [if_neg h2]
      exact Ev.iff_neg (by omega) (Ev.now _)
  · simp only [if_neg h]
    exact Ev.now _
theorem l02Full_ev (s : List Int) {c : List Int} (hc : c.length ≤ 1048576) : Ev (fun k => spec_l02Full.f k s c) (rSome s c []) := by
  unfold spec_l02Full.f rSome
  refine Ev.bind (l01Given_ev s hc) ?_
  by_cases h : rCode s c [] = 0
  · simp only [if_pos h]
    by_cases h2 : c.length = 0
    · rw [if_pos h2]
      exact Ev.iff_pos (by omega) (Ev.now _)
    · rw [if_neg h2]
      refine Ev.iff_neg (by omega) ?_
      rw [h]
      exact Ev.now _
  · simp only [if_neg h]
    exact Ev.now _
def farW (s c : List Int) : List Int := (List.range (NW s)).map fun (u : Nat) => mdL s (u : Int) 8 c
theorem farW_length (s c : List Int) : (farW s c).length = NW s := by simp [farW]
theorem farW_rd (s c : List Int) {n : Nat} (h : n < NW s) : rd (farW s c) (n : Int) = mdL s (n : Int) 8 c := by
  simp [rd, farW, List.getD_eq_getElem?_getD, h]
theorem fold_mdL {s : List Int} (hl : s.length ≤ 8) (u : Int) : ∀ (c : List Int) (a : Int), c.foldl (fun a x => mn a (ham (dig8 s u) (dig8 s x))) a = mdL s u a c
  | [], a => rfl
  | x :: c, a => by
    rw [List.foldl_cons, mdL, fold_mdL hl u c, ham_dig8 hl, dist_comm]
theorem farness_eq {s c : List Int} (hs : isSp s = true) (hc : isC s c = true) (hp : 0 < c.length) : impl_farness.f s c = some (farW s c) := by
  unfold impl_farness.f
  have hl := isC_len hs hc
  rw [if_pos ⟨hs, by rw [List.all_eq_true]; exact isC_words hc, hp, by omega⟩]
  congr 1
  unfold farL farW NW
  apply List.map_congr_left
  intro u _
  unfold fq
  rw [List.take_length, fold_mdL (isSp_len hs)]
theorem NW_pos {s : List Int} (hs : isSp s = true) : 0 < NW s := by
  have := NW_eq hs
  have := isSp_prd1 hs
  omega
end Go.Proofs.Ytlfipjdjmpdblaa.Q
set_option linter.unusedVariables false
set_option linter.unusedSimpArgs false
namespace Go.Proofs.Ytlfipjdjmpdblaa.Q
open Go.RowKit Go.Proofs.Ytlfipjdjmpdblaa.P Go.Proofs.YtlfipjdjmpdblaaW.PrintWords CC
def Wc : List Int → Nat → Int
  | [], 0 => 1
  | [], _ + 1 => 0
  | _ :: rs, 0 => Wc rs 0
  | q :: rs, k + 1 => Wc rs (k + 1) + Wc rs k * (q - 1)
theorem Wc_bound : ∀ (rs : List Int) (k : Nat), rs.all sizeOk = true → 0 ≤ Wc rs k ∧ Wc rs k ≤ 4 ^ rs.length
  | [], 0, _ => by simp [Wc]
  | [], k + 1, _ => by simp [Wc]
  | q :: rs, 0, h => by
    simp only [List.all_cons, Bool.and_eq_true] at h
    have := Wc_bound rs 0 h.2
    simp only [Wc, List.length_cons, Int.pow_succ]
    omega
  | q :: rs, k + 1, h => by
    simp only [List.all_cons, Bool.and_eq_true] at h
    have h1 := Wc_bound rs (k + 1) h.2
    have h2 := Wc_bound rs k h.2
    simp only [Wc, List.length_cons, Int.pow_succ]
    rcases (sizeOk_iff q).1 h.1 with rfl | rfl | rfl <;> omega
theorem Wc_far : ∀ (rs : List Int) (k : Nat), rs.length < k → Wc rs k = 0
  | [], 0, h => by simp at h
  | [], k + 1, _ => rfl
  | q :: rs, 0, h => by simp at h
  | q :: rs, k + 1, h => by
    simp only [List.length_cons] at h
    rw [Wc, Wc_far rs (k + 1) (by omega), Wc_far rs k (by omega)]
    omega
def wt (rs : List Int) (u : Int) : Int := ham (dgr rs 0) (dgr rs u)
theorem wt_nil (u : Int) : wt [] u = 0 := rfl
theorem wt_cons (q : Int) (rs : List Int) (u : Int) : wt (q :: rs) u = (if 0 = u % q then 0 else 1) + wt rs (u / q) := by
  simp only [wt, dgr, ham, Int.zero_emod, Int.zero_ediv]
theorem wt_nonneg (rs : List Int) (u : Int) : 0 ≤ wt rs u := ham_nonneg _ _
theorem wt_le (rs : List Int) (u : Int) : wt rs u ≤ rs.length := by
  have := ham_le (dgr rs 0) (dgr rs u)
  rw [dgr_length] at this
  exact this
theorem dist_wt (s : List Int) (u : Int) : dist s 0 u = wt s.reverse u := by
  unfold dist dg wt
  rw [ham_reverse _ _ (by rw [dgr_length, dgr_length])]
def cN (p : Nat → Bool) (n : Nat) : Nat := (List.range n).countP p
theorem cN_succ (p : Nat → Bool) (n : Nat) : cN p (n + 1) = cN p n + if p n then 1 else 0 := by
  unfold cN
  rw [List.range_succ, List.countP_append]
  simp [List.countP_cons]
theorem cN_congr {p r : Nat → Bool} {n : Nat} (h : ∀ i, i < n → p i = r i) : cN p n = cN r n := by
  unfold cN
  apply List.countP_congr
  intro i hi
  rw [h i (List.mem_range.1 hi)]
theorem cN_two (p : Nat → Bool) : ∀ n, cN p (2 * n) = cN (fun v => p (2 * v)) n + cN (fun v => p (2 * v + 1)) n
  | 0 => rfl
  | n + 1 => by
    rw [show 2 * (n + 1) = 2 * n + 1 + 1 by omega, cN_succ, cN_succ, cN_two p n, cN_succ, cN_succ]
    omega
theorem cN_three (p : Nat → Bool) : ∀ n, cN p (3 * n) = cN (fun v => p (3 * v)) n + cN (fun v => p (3 * v + 1)) n + cN (fun v => p (3 * v + 2)) n
  | 0 => rfl
  | n + 1 => by
    rw [show 3 * (n + 1) = 3 * n + 1 + 1 + 1 by omega, cN_succ, cN_succ, cN_succ, cN_three p n, cN_succ, cN_succ, cN_succ]
    omega
theorem cN_four (p : Nat → Bool) : ∀ n, cN p (4 * n) = cN (fun v => p (4 * v)) n + cN (fun v => p (4 * v + 1)) n + cN (fun v => p (4 * v + 2)) n + cN (fun v => p (4 * v + 3)) n
  | 0 => rfl
  | n + 1 => by
    rw [show 4 * (n + 1) = 4 * n + 1 + 1 + 1 + 1 by omega, cN_succ, cN_succ, cN_succ, cN_succ, cN_four p n, cN_succ, cN_succ, cN_succ, cN_succ]
    omega
theorem cN_false (n : Nat) : cN (fun _ => false) n = 0 := by simp [cN]
def cw (rs : List Int) (k : Nat) : Nat := cN (fun u => decide (wt rs (u : Int) = (k : Int))) (prd rs).toNat
theorem dig0 (q : Int) (rs : List Int) (v : Nat) (hq : 0 < q) : wt (q :: rs) (q * v) = wt rs v := by
  rw [wt_cons, Int.mul_emod_right, if_pos rfl, Int.mul_ediv_cancel_left _ (by omega)]
  omega
theorem dig1 (q : Int) (rs : List Int) (v : Nat) (d : Int) (hd : 1 ≤ d) (hq : d < q) : wt (q :: rs) (q * v + d) = 1 + wt rs v := by
  have h1 : (q * (v : Int) + d) % q = d := by
    rw [Int.add_comm, Int.add_mul_emod_self_left]
    exact Int.emod_eq_of_lt (by omega) hq
  have h2 : (q * (v : Int) + d) / q = v := by
    rw [Int.add_comm, Int.add_mul_ediv_left _ _ (by omega), Int.ediv_eq_zero_of_lt (by omega) hq]
    omega
  rw [wt_cons, h1, h2, if_neg (by omega)]
theorem cw_Wc : ∀ (rs : List Int) (k : Nat), rs.all sizeOk = true → (cw rs k : Int) = Wc rs k
  | [], 0, _ => by decide
  | [], k + 1, _ => by
    have : cw [] (k + 1) = 0 := by
      unfold cw
      rw [cN_congr (r := fun _ => false) (fun i _ => decide_eq_false (by rw [wt_nil]; omega)), cN_false]
    rw [this]
    rfl
  | q :: rs, 0, h => by
    simp only [List.all_cons, Bool.and_eq_true] at h
    rw [Wc, ← cw_Wc rs 0 h.2]
    have hp := prd_pos rs h.2
    have e1 : ∀ (v : Nat) (d : Int), 1 ≤ d → d < q → decide (wt (q :: rs) (q * v + d) = ((0 : Nat) : Int)) = false := fun v d h1 h2 => by
      rw [dig1 q rs v d h1 h2]
      have := wt_nonneg rs v
      simp
      omega
    have e0 : ∀ (v : Nat), decide (wt (q :: rs) (q * v) = ((0 : Nat) : Int)) = decide (wt rs v = ((0 : Nat) : Int)) := fun v => by
      rw [dig0 q rs v (by have := (sizeOk_iff q).1 h.1; omega)]
    unfold cw
    rcases (sizeOk_iff q).1 h.1 with rfl | rfl | rfl
    · rw [prd, show (2 * prd rs).toNat = 2 * (prd rs).toNat by omega, cN_two]
      rw [cN_congr (p := fun v => decide (wt (2 :: rs) ((2 * v : Nat) : Int) = ((0 : Nat) : Int))) (r := fun u => decide (wt rs (u : Int) = ((0 : Nat) : Int))) (fun i _ => by simpa using e0 i), cN_congr (p := fun v => decide (wt (2 :: rs) ((2 * v + 1 : Nat) : Int) = ((0 : Nat) : Int))) (r := fun _ => false) (fun i _ => by simpa using e1 i 1 (by omega) (by omega)), cN_false]
      omega
    · rw [prd, show (3 * prd rs).toNat = 3 * (prd rs).toNat by omega, cN_three]
      rw [cN_congr (p := fun v => decide (wt (3 :: rs) ((3 * v : Nat) : Int) = ((0 : Nat) : Int))) (r := fun u => decide (wt rs (u : Int) = ((0 : Nat) : Int))) (fun i _ => by simpa using e0 i), cN_congr (p := fun v => decide (wt (3 :: rs) ((3 * v + 1 : Nat) : Int) = ((0 : Nat) : Int))) (r := fun _ => false) (fun i _ => by simpa using e1 i 1 (by omega) (by omega)), cN_congr (p := fun v => decide (wt (3 :: rs) ((3 * v + 2 : Nat) : Int) = ((0 : Nat) : Int))) (r := fun _ => false) (fun i _ => by simpa using e1 i 2 (by omega) (by omega)), cN_false]
      omega
    · rw [prd, show (4 * prd rs).toNat = 4 * (prd rs).toNat by omega, cN_four]
      rw [cN_congr (p := fun v => decide (wt (4 :: rs) ((4 * v : Nat) : Int) = ((0 : Nat) : Int))) (r := fun u => decide (wt rs (u : Int) = ((0 : Nat) : Int))) (fun i _ => by simpa using e0 i), cN_congr (p := fun v => decide (wt (4 :: rs) ((4 * v + 1 : Nat) : Int) = ((0 : Nat) : Int))) (r := fun _ => false) (fun i _ => by simpa using e1 i 1 (by omega) (by omega)), cN_congr (p := fun v => decide (wt (4 :: rs) ((4 * v + 2 : Nat) : Int) = ((0 : Nat) : Int))) (r := fun _ => false) (fun i _ => by simpa using e1 i 2 (by omega) (by omega)), cN_congr (p := fun v => decide (wt (4 :: rs) ((4 * v + 3 : Nat) : Int) = ((0 : Nat) : Int))) (r := fun _ => false) (fun i _ => by simpa using e1 i 3 (by omega) (by omega)), cN_false]
      omega
  | q :: rs, k + 1, h => by
    simp only [List.all_cons, Bool.and_eq_true] at h
    rw [Wc, ← cw_Wc rs (k + 1) h.2, ← cw_Wc rs k h.2]
    have hp := prd_pos rs h.2
    have e1 : ∀ (v : Nat) (d : Int), 1 ≤ d → d < q → decide (wt (q :: rs) (q * v + d) = ((k + 1 : Nat) : Int)) = decide (wt rs v = (k : Int)) := fun v d h1 h2 => by
      rw [dig1 q rs v d h1 h2, decide_eq_decide]
      omega
    have e0 : ∀ (v : Nat), decide (wt (q :: rs) (q * v) = ((k + 1 : Nat) : Int)) = decide (wt rs v = ((k + 1 : Nat) : Int)) := fun v => by
      rw [dig0 q rs v (by have := (sizeOk_iff q).1 h.1; omega)]
    unfold cw
    rcases (sizeOk_iff q).1 h.1 with rfl | rfl | rfl
    · rw [prd, show (2 * prd rs).toNat = 2 * (prd rs).toNat by omega, cN_two]
      rw [cN_congr (p := fun v => decide (wt (2 :: rs) ((2 * v : Nat) : Int) = ((k + 1 : Nat) : Int))) (r := fun u => decide (wt rs (u : Int) = ((k + 1 : Nat) : Int))) (fun i _ => by simpa using e0 i), cN_congr (p := fun v => decide (wt (2 :: rs) ((2 * v + 1 : Nat) : Int) = ((k + 1 : Nat) : Int))) (r := fun u => decide (wt rs (u : Int) = (k : Int))) (fun i _ => by simpa using e1 i 1 (by omega) (by omega))]
      omega
    · rw [prd, show (3 * prd rs).toNat = 3 * (prd rs).toNat by omega, cN_three]
      rw [cN_congr (p := fun v => decide (wt (3 :: rs) ((3 * v : Nat) : Int) = ((k + 1 : Nat) : Int))) (r := fun u => decide (wt rs (u : Int) = ((k + 1 : Nat) : Int))) (fun i _ => by simpa using e0 i), cN_congr (p := fun v => decide (wt (3 :: rs) ((3 * v + 1 : Nat) : Int) = ((k + 1 : Nat) : Int))) (r := fun u => decide (wt rs (u : Int) = (k : Int))) (fun i _ => by simpa using e1 i 1 (by omega) (by omega)), cN_congr (p := fun v => decide (wt (3 :: rs) ((3 * v + 2 : Nat) : Int) = ((k + 1 : Nat) : Int))) (r := fun u => decide (wt rs (u : Int) = (k : Int))) (fun i _ => by simpa using e1 i 2 (by omega) (by omega))]
      omega
    · rw [prd, show (4 * prd rs).toNat = 4 * (prd rs).toNat by omega, cN_four]
      rw [cN_congr (p := fun v => decide (wt (4 :: rs) ((4 * v : Nat) : Int) = ((k + 1 : Nat) : Int))) (r := fun u => decide (wt rs (u : Int) = ((k + 1 : Nat) : Int))) (fun i _ => by simpa using e0 i), cN_congr (p := fun v => decide (wt (4 :: rs) ((4 * v + 1 : Nat) : Int) = ((k + 1 : Nat) : Int))) (r := fun u => decide (wt rs (u : Int) = (k : Int))) (fun i _ => by simpa using e1 i 1 (by omega) (by omega)), cN_congr (p := fun v => decide (wt (4 :: rs) ((4 * v + 2 : Nat) : Int) = ((k + 1 : Nat) : Int))) (r := fun u => decide (wt rs (u : Int) = (k : Int))) (fun i _ => by simpa using e1 i 2 (by omega) (by omega)), cN_congr (p := fun v => decide (wt (4 :: rs) ((4 * v + 3 : Nat) : Int) = ((k + 1 : Nat) : Int))) (r := fun u => decide (wt rs (u : Int) = (k : Int))) (fun i _ => by simpa using e1 i 3 (by omega) (by omega))]
      omega
def cl (rs : List Int) (n : Int) : Nat := cN (fun u => decide (wt rs (u : Int) < n)) (prd rs).toNat
theorem cl_succ (rs : List Int) (n : Nat) : cl rs ((n + 1 : Nat) : Int) = cl rs (n : Int) + cw rs n := by
  unfold cl cw
  generalize (prd rs).toNat = N
  induction N with
  | zero => rfl
  | succ m ih =>
    rw [cN_succ, cN_succ, cN_succ, ih]
    simp only [decide_eq_true_eq]
    by_cases h1 : wt rs (m : Int) < (n : Int)
    · have h2 : ¬ wt rs (m : Int) = (n : Int) := by omega
      have h3 : wt rs (m : Int) < ((n + 1 : Nat) : Int) := by omega
      rw [if_pos h1, if_neg h2, if_pos h3]
      omega
    · by_cases h2 : wt rs (m : Int) = (n : Int)
      · have h3 : wt rs (m : Int) < ((n + 1 : Nat) : Int) := by omega
        rw [if_neg h1, if_pos h2, if_pos h3]
        omega
      · have h3 : ¬ wt rs (m : Int) < ((n + 1 : Nat) : Int) := by omega
        rw [if_neg h1, if_neg h2, if_neg h3]
        omega
theorem ball_cl {s : List Int} (hs : isSp s = true) (r : Int) : (ballL s 0 r).length = cl s.reverse (r + 1) := by
  unfold ballL selL cl cN NW
  rw [List.length_map, prd_reverse, List.countP_eq_length_filter]
  congr 1
  apply List.filter_congr
  intro i _
  show decide (dist s 0 (i : Int) ≤ r) = decide (wt s.reverse (i : Int) < r + 1)
  rw [dist_wt, decide_eq_decide]
  omega
theorem cl_far {rs : List Int} {m r : Int} (hm : (rs.length : Int) < m) (hr : (rs.length : Int) < r) : cl rs m = cl rs r := by
  unfold cl
  apply cN_congr
  intro i _
  have := wt_le rs (i : Int)
  rw [decide_eq_decide]
  omega
theorem cl_zero (rs : List Int) : cl rs 0 = 0 := by
  unfold cl
  rw [cN_congr (r := fun _ => false) (fun i _ => ?_), cN_false]
  have := wt_nonneg rs (i : Int)
  simp
  omega
def fL (f : Nat → Int) (n : Nat) : List Int := (List.range n).map f
theorem fL_length (f : Nat → Int) (n : Nat) : (fL f n).length = n := by simp [fL]
theorem fL_rd (f : Nat → Int) {n k : Nat} (h : k < n) : rd (fL f n) (k : Int) = f k := by
  simp [rd, fL, List.getD_eq_getElem?_getD, h]
theorem fL_set (f : Nat → Int) (n k : Nat) (v : Int) : (fL f n).set k v = fL (fun j => if j = k then v else f j) n := by
  apply List.ext_getElem (by simp [fL])
  intro j h1 h2
  simp only [fL, List.getElem_set, List.getElem_map, List.getElem_range]
  by_cases h : k = j
  · rw [if_pos h, if_pos h.symm]
  · rw [if_neg h, if_neg (fun e => h e.symm)]
theorem fL_congr {f g : Nat → Int} {n : Nat} (h : ∀ j, j < n → f j = g j) : fL f n = fL g n := by
  unfold fL
  apply List.map_congr_left
  intro j hj
  exact h j (List.mem_range.1 hj)
def mid (q : Int) (rs : List Int) (j k : Nat) : Int := if j < k then Wc (q :: rs) k else Wc rs k
theorem all_take {s : List Int} (h : s.all sizeOk = true) (n : Nat) : (s.take n).reverse.all sizeOk = true := by
  rw [List.all_reverse, List.all_eq_true]
  intro x hx
  exact List.all_eq_true.1 h x (List.mem_of_mem_take hx)
theorem Wc_small {s : List Int} (h : s.all sizeOk = true) {n : Nat} (hn : n ≤ 8) (k : Nat) : 0 ≤ Wc (s.take n).reverse k ∧ Wc (s.take n).reverse k ≤ 65536 := by
  have h1 := Wc_bound (s.take n).reverse k (all_take h n)
  have h2 : (s.take n).reverse.length ≤ n := by
    rw [List.length_reverse]
    exact List.length_take_le _ _
  have h3 := pow48 (m := (s.take n).reverse.length) (by omega)
  omega
theorem l01Size_in {s : List Int} (hs : s.all sizeOk = true) (hl : s.length ≤ 8) (r R : Int) {i : Nat} (hi : i < s.length) : ∀ (j : Nat), j ≤ i + 1 →
    Ev (fun k => spec_l01Size.l0 k r (fL (mid (rd s (i : Int)) (s.take i).reverse 0) (s.length + 1)) ((i + 1 : Nat) : Int) s) R →
    Ev (fun k => spec_l01Size.l1 k r (fL (mid (rd s (i : Int)) (s.take i).reverse j) (s.length + 1)) (i : Int) (j : Int) s) R
  | 0, _, hev => by
    refine Ev.step (fun k => by simp only [spec_l01Size.l1]; exact rfl) ?_
    refine Ev.iff_neg (by omega) ?_
    rw [wrap_nat (by unfold maxLen; omega)]
    exact hev
  | j + 1, hj, hev => by
    refine Ev.step (fun k => by simp only [spec_l01Size.l1]; exact rfl) ?_
    have e1 : wrap64 (((j + 1 : Nat) : Int) - 1) = (j : Int) := by
      rw [wrap_id (by omega) (by omega)]
      omega
    have hq := all_rd hs hi
    have w0 := Wc_small hs (n := i) (by omega) j
    have w1 := Wc_small hs (n := i) (by omega) (j + 1)
    rw [e1]
    refine Ev.iff_pos (by omega) ?_
    refine Ev.iff_pos (by omega) ?_
    refine Ev.iff_pos (by rw [fL_length]; omega) ?_
    refine Ev.iff_pos (by omega) ?_
    refine Ev.iff_pos (by rw [fL_length]; omega) ?_
    refine Ev.iff_pos (by omega) ?_
    refine Ev.iff_pos (by omega) ?_
    rw [fL_rd _ (by omega), fL_rd _ (by omega), Int.toNat_natCast, fL_set]
    have e2 : wrap64 (mid (rd s (i : Int)) (s.take i).reverse (j + 1) (j + 1) + wrap64 (mid (rd s (i : Int)) (s.take i).reverse (j + 1) j * wrap64 (rd s (i : Int) - 1))) = Wc (rd s (i : Int) :: (s.take i).reverse) (j + 1) := by
      unfold mid
      rw [if_neg (by omega), if_neg (by omega), Wc, wrap_id (x := rd s (i : Int) - 1) (by omega) (by omega)]
      rcases hq with e | e | e <;> rw [e] <;> rw [wrap_id (x := _ * _) (by omega) (by omega), wrap_id (by omega) (by omega)]
    rw [e2]
    have e3 : fL (fun k => if k = j + 1 then Wc (rd s (i : Int) :: (s.take i).reverse) (j + 1) else mid (rd s (i : Int)) (s.take i).reverse (j + 1) k) (s.length + 1) = fL (mid (rd s (i : Int)) (s.take i).reverse j) (s.length + 1) := by
      apply fL_congr
      intro k _
      unfold mid
      by_cases h : k = j + 1
      · subst h
        rw [if_pos rfl, if_pos (by omega)]
      · rw [if_neg h]
        by_cases h2 : j + 1 < k
        · rw [if_pos h2, if_pos (by omega)]
        · rw [if_neg h2, if_neg (by omega)]
    rw [e3]
    exact l01Size_in hs hl r R hi j (by omega) hev
theorem l01Size_out {s : List Int} (hs : s.all sizeOk = true) (hl : s.length ≤ 8) (r R : Int)
    (hev : Ev (fun k => spec_l01Size.l2 k r (fL (Wc s.reverse) (s.length + 1)) 0 0) R) : ∀ (m i : Nat), i + m = s.length →
    Ev (fun k => spec_l01Size.l0 k r (fL (Wc (s.take i).reverse) (s.length + 1)) (i : Int) s) R
  | 0, i, hm => by
    refine Ev.step (fun k => by simp only [spec_l01Size.l0]; exact rfl) ?_
    refine Ev.iff_neg (by omega) ?_
    rw [List.take_of_length_le (by omega)]
    exact hev
  | m + 1, i, hm => by
    have hi : i < s.length := by omega
    refine Ev.step (fun k => by simp only [spec_l01Size.l0]; exact rfl) ?_
    refine Ev.iff_pos (by omega) ?_
    rw [wrap_nat (by unfold maxLen; omega)]
    have ih := l01Size_out hs hl r R hev m (i + 1) (by omega)
    have e1 : (s.take (i + 1)).reverse = rd s (i : Int) :: (s.take i).reverse := by
      rw [take_rd s (by omega), List.reverse_append]
      rfl
    have hlen : (s.take i).reverse.length = i := by
      rw [List.length_reverse, List.length_take]
      omega
    have e2 : fL (Wc (s.take i).reverse) (s.length + 1) = fL (mid (rd s (i : Int)) (s.take i).reverse (i + 1)) (s.length + 1) := by
      apply fL_congr
      intro k _
      unfold mid
      by_cases h : i + 1 < k
      · rw [if_pos h, Wc_far _ _ (by omega), Wc_far _ _ (by rw [List.length_cons]; omega)]
      · rw [if_neg h]
    have e3 : fL (mid (rd s (i : Int)) (s.take i).reverse 0) (s.length + 1) = fL (Wc (s.take (i + 1)).reverse) (s.length + 1) := by
      apply fL_congr
      intro k _
      unfold mid
      rw [e1]
      by_cases h : 0 < k
      · rw [if_pos h]
      · rw [if_neg h]
        have : k = 0 := by omega
        subst this
        rfl
    rw [e2]
    refine l01Size_in hs hl r R hi (i + 1) (by omega) ?_
    rw [e3]
    exact ih
theorem l01Size_sum {s : List Int} (hs : isSp s = true) {r : Int} (h0 : 0 ≤ r) (h1 : r ≤ 1024) : ∀ (m n : Nat), n + m = s.length + 1 → (n : Int) ≤ r + 1 →
    Ev (fun k => spec_l01Size.l2 k r (fL (Wc s.reverse) (s.length + 1)) (cl s.reverse (n : Int)) (n : Int)) (cl s.reverse (r + 1))
  | 0, n, hm, hn => by
    refine Ev.step (fun k => by simp only [spec_l01Size.l2]; exact rfl) ?_
    refine Ev.iff_neg (by rw [fL_length]; omega) ?_
    rw [cl_far (m := (n : Int)) (r := r + 1) (by rw [List.length_reverse]; omega) (by rw [List.length_reverse]; omega)]
    exact Ev.now _
  | m + 1, n, hm, hn => by
    have hl := isSp_len hs
    refine Ev.step (fun k => by simp only [spec_l01Size.l2]; exact rfl) ?_
    refine Ev.iff_pos (by rw [fL_length]; omega) ?_
    by_cases h : (n : Int) ≤ r
    · refine Ev.iff_pos h ?_
      refine Ev.iff_pos (by omega) ?_
      have hall : s.reverse.all sizeOk = true := by
        rw [List.all_reverse]
        exact isSp_all hs
      have hb := cl_succ s.reverse n
      have hle : cl s.reverse ((n + 1 : Nat) : Int) ≤ (prd s.reverse).toNat := by
        unfold cl cN
        have := List.countP_le_length (p := fun (u : Nat) => decide (wt s.reverse (u : Int) < ((n + 1 : Nat) : Int))) (l := List.range (prd s.reverse).toNat)
        rwa [List.length_range] at this
      rw [prd_reverse] at hle
      have hp := isSp_prd hs
      rw [fL_rd _ (by omega), ← cw_Wc _ _ hall, wrap_nat (by unfold maxLen; omega), wrap_id (by omega) (by omega)]
      have := l01Size_sum hs h0 h1 m (n + 1) (by omega) (by omega)
      have e : ((cl s.reverse (n : Int) : Nat) : Int) + (cw s.reverse n : Nat) = (cl s.reverse ((n + 1 : Nat) : Int) : Nat) := by omega
      rw [e]
      exact this
    · refine Ev.iff_neg h ?_
      have : r + 1 = (n : Int) := by omega
      rw [this]
      exact Ev.now _
theorem l01Size_ev {s : List Int} (hs : isSp s = true) {r : Int} (h0 : 0 ≤ r) (h1 : r ≤ 1024) : Ev (fun k => spec_l01Size.f k s r) ((ballL s 0 r).length : Int) := by
  unfold spec_l01Size.f
  have hl := isSp_len hs
  have e : wrap64 ((s.length : Int) + 1) = ((s.length + 1 : Nat) : Int) := wrap_nat (by unfold maxLen; omega)
  rw [e, Int.toNat_natCast]
  refine Ev.iff_pos (by omega) ?_
  refine Ev.iff_pos (by omega) ?_
  refine Ev.bindc rfl ?_
  refine Ev.iff_pos (by simp) ?_
  rw [ball_cl hs]
  have h2 := l01Size_sum hs h0 h1 (s.length + 1) 0 (by omega) (by omega)
  have e0 : ((cl s.reverse ((0 : Nat) : Int) : Nat) : Int) = 0 := by
    have := cl_zero s.reverse
    simpa using this
  rw [e0] at h2
  have := l01Size_out (isSp_all hs) hl r _ h2 s.length 0 (by omega)
  have e1 : (List.replicate (s.length + 1) (0 : Int)).set (0 : Int).toNat 1 = fL (Wc (s.take 0).reverse) (s.length + 1) := by
    apply List.ext_getElem (by simp [fL])
    intro j h1 h2
    cases j with
    | zero => simp [fL, Wc]
    | succ j => simp [fL, Wc]
  rw [e1]
  exact this
end Go.Proofs.Ytlfipjdjmpdblaa.Q
set_option linter.unusedVariables false
set_option linter.unusedSimpArgs false
namespace Go.Proofs.Ytlfipjdjmpdblaa.Q
open Go.RowKit Go.Proofs.Ytlfipjdjmpdblaa.P Go.Proofs.YtlfipjdjmpdblaaW.PrintWords CC
def ag (L : List Int) : Nat → Nat
  | 0 => 0
  | n + 1 => if maxQ L n < rd L (n : Int) then n else ag L n
theorem ag_law (L : List Int) : ∀ (n : Nat), n < L.length → ag L (n + 1) < n + 1 ∧ rd L (ag L (n + 1) : Nat) = maxQ L (n + 1) ∧ ∀ j : Nat, j < ag L (n + 1) → rd L (j : Int) < maxQ L (n + 1)
  | 0, h => by
    have h0 : maxQ L 0 = rd L 0 := by simp [maxQ]
    have e : ag L 1 = 0 := by
      simp only [ag, h0]
      rw [if_neg (by simp)]
    rw [show (0 + 1 : Nat) = 1 from rfl, e, maxQ_one L h]
    exact ⟨by omega, rfl, fun j hj => by omega⟩
  | n + 1, h => by
    obtain ⟨i1, i2, i3⟩ := ag_law L n (by omega)
    rw [maxQ_succ L h]
    unfold gr
    by_cases hh : maxQ L (n + 1) < rd L ((n + 1 : Nat) : Int)
    · have e : ag L (n + 1 + 1) = n + 1 := by
        rw [ag, if_pos hh]
      rw [e, if_pos hh]
      refine ⟨by omega, rfl, fun j hj => ?_⟩
      have key : ∀ (m : Nat), m ≤ n + 1 → ∀ j : Nat, j < m → rd L (j : Int) ≤ maxQ L m := by
        intro m
        induction m with
        | zero => intro _ j hj; omega
        | succ m ih =>
          intro hm j hj
          rw [maxQ_succ L (show m < L.length by omega)]
          unfold gr
          by_cases hj2 : j = m
          · subst hj2
            split <;> omega
          · have := ih (by omega) j (by omega)
            split <;> omega
      have := key (n + 1) (Nat.le_refl _) j hj
      omega
    · have e : ag L (n + 1 + 1) = ag L (n + 1) := by
        rw [ag, if_neg hh]
      rw [e, if_neg hh]
      exact ⟨by omega, i2, i3⟩
theorem l02Farthest_l {s c : List Int} (hs : isSp s = true) (hc : isC s c = true) (hp : 0 < c.length) : ∀ (m n : Nat), n + m = NW s →
    Ev (fun k => spec_l02Farthest.l0 k c (ag (farW s c) n) (maxQ (farW s c) n) (n : Int) s) ((ag (farW s c) (NW s) : Int), maxQ (farW s c) (NW s))
  | 0, n, hm => by
    have hN := NW_eq hs
    refine Ev.step (fun k => by simp only [spec_l02Farthest.l0]; exact rfl) ?_
    refine Ev.bind (l01N_sp hs) ?_
    refine Ev.iff_neg (by omega) ?_
    have : n = NW s := by omega
    subst this
    exact Ev.now _
  | m + 1, n, hm => by
    have hN := NW_eq hs
    have hN2 := NW_le hs
    have ih := l02Farthest_l hs hc hp m (n + 1) (by omega)
    refine Ev.step (fun k => by simp only [spec_l02Farthest.l0]; exact rfl) ?_
    refine Ev.bind (l01N_sp hs) ?_
    refine Ev.iff_pos (by omega) ?_
    refine Ev.bind (l02To_ev hs hc (isW_nat hs (show n < NW s by omega)) hp (b := 8) (by omega)) ?_
    rw [wrap_nat (by unfold maxLen; omega)]
    have hr := farW_rd s c (show n < NW s by omega)
    have h1 : maxQ (farW s c) (n + 1) = gr (maxQ (farW s c) n) (mdL s (n : Int) 8 c) := by
      rw [maxQ_succ _ (by rw [farW_length]; omega), hr]
    have h2 : ag (farW s c) (n + 1) = if maxQ (farW s c) n < mdL s (n : Int) 8 c then n else ag (farW s c) n := by
      rw [ag, hr]
    rw [h1, h2] at ih
    unfold gr at ih
    by_cases h : mdL s (n : Int) 8 c > maxQ (farW s c) n
    · refine Ev.iff_pos h ?_
      rw [if_pos (show maxQ (farW s c) n < mdL s (n : Int) 8 c from h), if_pos (show maxQ (farW s c) n < mdL s (n : Int) 8 c from h)] at ih
      exact ih
    · refine Ev.iff_neg h ?_
      rw [if_neg (show ¬ maxQ (farW s c) n < mdL s (n : Int) 8 c from h), if_neg (show ¬ maxQ (farW s c) n < mdL s (n : Int) 8 c from h)] at ih
      exact ih
theorem l02Farthest_ev {s c : List Int} (hs : isSp s = true) (hc : isC s c = true) (hp : 0 < c.length) : Ev (fun k => spec_l02Farthest.f k s c) ((ag (farW s c) (NW s) : Int), maxQ (farW s c) (NW s)) := by
  unfold spec_l02Farthest.f
  have hN := NW_pos hs
  have h0 := l02To_ev hs hc (isW_nat hs hN) hp (b := 8) (by omega)
  refine Ev.bind (a := mdL s 0 8 c) (by simpa using h0) ?_
  have := l02Farthest_l hs hc hp (NW s - 1) 1 (by omega)
  have hm : maxQ (farW s c) 1 = mdL s 0 8 c := by
    rw [maxQ_one _ (by rw [farW_length]; exact hN)]
    have := farW_rd s c hN
    simpa using this
  have ha : ag (farW s c) 1 < 1 := (ag_law (farW s c) 0 (by rw [farW_length]; exact hN)).1
  have ha0 : ag (farW s c) 1 = 0 := by omega
  rw [hm, ha0] at this
  exact this
theorem max_eq {s c : List Int} (hs : isSp s = true) : slices_Max_int64_int64.f (farW s c) = some (maxQ (farW s c) (NW s)) := by
  unfold slices_Max_int64_int64.f
  have hN := NW_pos hs
  have hN2 := NW_le hs
  rw [if_pos ⟨by rw [farW_length]; omega, by rw [farW_length]; omega⟩, farW_length]
end Go.Proofs.Ytlfipjdjmpdblaa.Q
set_option linter.unusedVariables false
set_option linter.unusedSimpArgs false
namespace Go.Proofs.Ytlfipjdjmpdblaa.Q
open Go.RowKit Go.Proofs.Ytlfipjdjmpdblaa.P Go.Proofs.YtlfipjdjmpdblaaW.PrintWords CC
theorem ham_step {q : Int} (rs : List Int) (w : Int) (v : Nat) (d : Int) (h0 : 0 ≤ d) (hd : d < q) : ham (dgr (q :: rs) w) (dgr (q :: rs) (q * v + d)) = (if w % q = d then 0 else 1) + ham (dgr rs (w / q)) (dgr rs v) := by
  have e1 : (q * (v : Int) + d) % q = d := by rw [Int.mul_add_emod_self_left, Int.emod_eq_of_lt h0 hd]
  have e2 : (q * (v : Int) + d) / q = v := by rw [Int.mul_add_ediv_left _ _ (by omega), Int.ediv_eq_zero_of_lt h0 hd, Int.add_zero]
  simp only [dgr, ham, e1, e2]
def tE (rs : List Int) (w : Int) (p : Int → Bool) (e : Int) : Nat := cN (fun v => p (e + ham (dgr rs w) (dgr rs (v : Int)))) (prd rs).toNat
theorem any_cons (q : Int) (rs : List Int) (hq : q = 2 ∨ q = 3 ∨ q = 4) (hn : 0 ≤ prd rs) (w : Int) (p : Int → Bool) (e : Int) : (tE (q :: rs) w p e : Int) = tE rs (w / q) p e + (q - 1) * tE rs (w / q) p (e + 1) := by
  have hs : ∀ (v : Nat) (d : Int), 0 ≤ d → d < q → p (e + ham (dgr (q :: rs) w) (dgr (q :: rs) (q * v + d))) = p ((if w % q = d then e else e + 1) + ham (dgr rs (w / q)) (dgr rs v)) := fun v d h0 h1 => by
    rw [ham_step rs w v d h0 h1]
    congr 1
    split <;> omega
  have hm0 := Int.emod_nonneg w (show q ≠ 0 by omega)
  have hm1 := Int.emod_lt_of_pos w (show 0 < q by omega)
  have hc : ∀ (d : Int) (g : Nat → Bool), 0 ≤ d → d < q → (∀ v : Nat, g v = p (e + ham (dgr (q :: rs) w) (dgr (q :: rs) (q * v + d)))) → cN g (prd rs).toNat = if w % q = d then tE rs (w / q) p e else tE rs (w / q) p (e + 1) := fun d g h0 h1 h2 => by
    rw [cN_congr (r := fun v => p ((if w % q = d then e else e + 1) + ham (dgr rs (w / q)) (dgr rs (v : Int)))) (fun v _ => by rw [h2 v, hs v d h0 h1])]
    unfold tE
    split <;> rfl
  rcases hq with rfl | rfl | rfl
  · have : tE (2 :: rs) w p e = (if w % 2 = 0 then tE rs (w / 2) p e else tE rs (w / 2) p (e + 1)) + (if w % 2 = 1 then tE rs (w / 2) p e else tE rs (w / 2) p (e + 1)) := by
      show cN _ (prd (2 :: rs)).toNat = _
      rw [prd, show (2 * prd rs).toNat = 2 * (prd rs).toNat by omega, cN_two]
      rw [hc 0 _ (by omega) (by omega) (fun v => by simp), hc 1 _ (by omega) (by omega) (fun v => by simp)]
    rw [this]
    rcases (show w % 2 = 0 ∨ w % 2 = 1 by omega) with h | h <;> simp [h] <;> omega
  · have : tE (3 :: rs) w p e = (if w % 3 = 0 then tE rs (w / 3) p e else tE rs (w / 3) p (e + 1)) + (if w % 3 = 1 then tE rs (w / 3) p e else tE rs (w / 3) p (e + 1)) + (if w % 3 = 2 then tE rs (w / 3) p e else tE rs (w / 3) p (e + 1)) := by
      show cN _ (prd (3 :: rs)).toNat = _
      rw [prd, show (3 * prd rs).toNat = 3 * (prd rs).toNat by omega, cN_three]
      rw [hc 0 _ (by omega) (by omega) (fun v => by simp), hc 1 _ (by omega) (by omega) (fun v => by simp), hc 2 _ (by omega) (by omega) (fun v => by simp)]
    rw [this]
    rcases (show w % 3 = 0 ∨ w % 3 = 1 ∨ w % 3 = 2 by omega) with h | h | h <;> simp [h] <;> omega
  · have : tE (4 :: rs) w p e = (if w % 4 = 0 then tE rs (w / 4) p e else tE rs (w / 4) p (e + 1)) + (if w % 4 = 1 then tE rs (w / 4) p e else tE rs (w / 4) p (e + 1)) + (if w % 4 = 2 then tE rs (w / 4) p e else tE rs (w / 4) p (e + 1)) + (if w % 4 = 3 then tE rs (w / 4) p e else tE rs (w / 4) p (e + 1)) := by
      show cN _ (prd (4 :: rs)).toNat = _
      rw [prd, show (4 * prd rs).toNat = 4 * (prd rs).toNat by omega, cN_four]
      rw [hc 0 _ (by omega) (by omega) (fun v => by simp), hc 1 _ (by omega) (by omega) (fun v => by simp), hc 2 _ (by omega) (by omega) (fun v => by simp), hc 3 _ (by omega) (by omega) (fun v => by simp)]
    rw [this]
    rcases (show w % 4 = 0 ∨ w % 4 = 1 ∨ w % 4 = 2 ∨ w % 4 = 3 by omega) with h | h | h | h <;> simp [h] <;> omega
theorem any_word : ∀ (rs : List Int), rs.all sizeOk = true → ∀ (w w' : Int) (p : Int → Bool) (e : Int), tE rs w p e = tE rs w' p e
  | [], _, _, _, _, _ => rfl
  | q :: rs, h, w, w', p, e => by
    simp only [List.all_cons, Bool.and_eq_true] at h
    have hp := prd_pos rs h.2
    have h1 := any_cons q rs ((sizeOk_iff q).1 h.1) (by omega) w p e
    have h2 := any_cons q rs ((sizeOk_iff q).1 h.1) (by omega) w' p e
    rw [any_word rs h.2 (w / q) (w' / q) p e, any_word rs h.2 (w / q) (w' / q) p (e + 1)] at h1
    omega
theorem near_any {s : List Int} (hs : isSp s = true) (r : Int) (w : Nat) : (List.range (prd s).toNat).countP (nrb s r w) = (ballL s 0 r).length := by
  have hall : s.reverse.all sizeOk = true := by rw [List.all_reverse]; exact isSp_all hs
  have e : ∀ x : Int, (List.range (prd s).toNat).countP (fun u : Nat => decide (ham (dig8 s x) (dig8 s (u : Int)) ≤ r)) = tE s.reverse x (fun d => decide (d ≤ r)) 0 := fun x => by
    unfold tE cN
    rw [prd_reverse]
    apply List.countP_congr
    intro u _
    rw [ham_dig8 (isSp_len hs)]
    unfold dist dg
    rw [ham_reverse _ _ (by rw [dgr_length, dgr_length]), Int.zero_add]
  have h1 := e (w : Int)
  have h2 := e 0
  rw [any_word s.reverse hall (w : Int) 0, ← h2] at h1
  unfold nrb
  rw [h1]
  unfold ballL selL NW
  rw [List.length_map, List.countP_eq_length_filter]
  congr 1
  apply List.filter_congr
  intro i _
  rw [ham_dig8 (isSp_len hs)]
theorem gn_start {s : List Int} (hs : isSp s = true) (r : Int) {P : Nat} (hP : (prd s).toNat = P) : gnL s r P (List.replicate P false) = List.replicate P ((ballL s 0 r).length : Int) := by
  subst hP
  rw [List.eq_replicate_iff]
  refine ⟨gnL_len s r _ _, fun b hb => ?_⟩
  unfold gnL at hb
  rw [List.mem_map] at hb
  obtain ⟨w, _, rfl⟩ := hb
  unfold gnF
  rw [← near_any hs r w]
  congr 1
  apply List.countP_congr
  intro u _
  have : (List.replicate (prd s).toNat false).getD u false = false := by
    rw [List.getD_eq_getElem?_getD, List.getElem?_replicate]
    split <;> rfl
  rw [this]
  rfl
end Go.Proofs.Ytlfipjdjmpdblaa.Q
set_option linter.unusedVariables false
set_option linter.unusedSimpArgs false
namespace Go.Proofs.Ytlfipjdjmpdblaa.Q
open Go.RowKit Go.Proofs.Ytlfipjdjmpdblaa.P Go.Proofs.YtlfipjdjmpdblaaW.PrintWords CC
def nearL (s c : List Int) (w : Int) : List Int := c.filter fun x => decide (dist s x w = mdL s w 9 c)
def rNear (s c : List Int) (w : Int) : Int := if rCode s c [] = 0 then if isW s w then 0 else 2 else rCode s c []
theorem rNear_eq (s c : List Int) (w : Int) : rCode s c [w] = rNear s c w := by
  unfold rNear rCode rWords
  by_cases hs : isSp s = true
  · by_cases hw : isW s w = true
    · by_cases hc : isC s c = true
      · simp [hs, hw, hc]
      · simp [hs, hw, hc]
    · by_cases hc : isC s c = true
      · simp [hs, hw, hc]
      · simp [hs, hw, hc]
  · simp [hs]
def rNearestWords (s c : List Int) (w : Int) : List Int × Int := if rNear s c w = 0 then (nearL s c w, 0) else ([], rNear s c w)
theorem rNearestWords_len (s c : List Int) (w : Int) : (rNearestWords s c w).1.length ≤ 1024 := by
  unfold rNearestWords
  by_cases h : rNear s c w = 0
  · rw [if_pos h]
    rw [← rNear_eq] at h
    obtain ⟨hs, hc, _⟩ := rCode_zero h
    have h1 := isC_len hs hc
    have h2 := List.length_filter_le (fun x => decide (dist s x w = mdL s w 9 c)) c
    show (nearL s c w).length ≤ 1024
    unfold nearL
    omega
  · rw [if_neg h]
    simp
theorem distance_eq {s : List Int} (hs : isSp s = true) {u w : Int} (hu : isW s u = true) (hw : isW s w = true) : impl_distance.f s u w = some (dist s u w) := by
  unfold impl_distance.f
  rw [if_pos ⟨hs, hu, hw⟩, ham_dig8 (isSp_len hs)]
theorem implNear_l {s c : List Int} (hs : isSp s = true) (hc : isC s c = true) {w : Int} (hw : isW s w = true) : ∀ (m n : Nat) (L : List Int) (a : Int), n + m = c.length → L.length ≤ n →
    Ev (fun k => impl_NearestWords.l0 k w L a c (c.length : Int) (n : Int) s) ((if mdL s w a (c.drop n) = a then L else []) ++ (c.drop n).filter (fun x => decide (dist s x w = mdL s w a (c.drop n))), 0)
  | 0, n, L, a, hm, hL => by
    refine Ev.step (fun k => by simp only [impl_NearestWords.l0]; exact rfl) ?_
    refine Ev.iff_neg (by omega) ?_
    rw [drop_all (by omega)]
    simpa [mdL] using Ev.now _
  | m + 1, n, L, a, hm, hL => by
    have hn : n < c.length := by omega
    have hl := isC_len hs hc
    refine Ev.step (fun k => by simp only [impl_NearestWords.l0]; exact rfl) ?_
    refine Ev.iff_pos (by omega) ?_
    refine Ev.iff_pos (by omega) ?_
    refine Ev.iff_pos (by omega) ?_
    refine Ev.bindc (distance_eq hs (isC_rd hc hn) hw) ?_
    rw [wrap_nat (by unfold maxLen; omega), drop_cons c hn]
    generalize hd : dist s (rd c (n : Int)) w = t
    by_cases h1 : t < a
    · refine Ev.iff_pos h1 ?_
      refine Ev.bindc rfl ?_
      refine Ev.iff_pos (by first | rfl | trivial) ?_
      refine Ev.iff_pos (by simp) ?_
      have ih := implNear_l hs hc hw m (n + 1) [rd c (n : Int)] t (by omega) (by simp)
      have e : mn a t = t := by
        unfold mn
        rw [if_pos h1]
      have hle := mdL_le s w (c.drop (n + 1)) t
      simp only [mdL, hd, e, List.filter_cons]
      rw [if_neg (show ¬ mdL s w t (c.drop (n + 1)) = a by omega)]
      simp only [List.nil_append]
      by_cases h2 : mdL s w t (c.drop (n + 1)) = t
      · rw [if_pos h2] at ih
        rw [if_pos (by simp [h2])]
        simpa using ih
      · rw [if_neg h2] at ih
        rw [if_neg (by simp; omega)]
        simpa using ih
    · refine Ev.iff_neg h1 ?_
      have e : mn a t = a := by
        unfold mn
        rw [if_neg h1]
      have hle := mdL_le s w (c.drop (n + 1)) a
      simp only [mdL, hd, e, List.filter_cons]
      by_cases h2 : t = a
      · refine Ev.iff_pos h2 ?_
        refine Ev.iff_pos (by omega) ?_
        have ih := implNear_l hs hc hw m (n + 1) (L ++ [rd c (n : Int)]) a (by omega) (by simp; omega)
        by_cases h3 : mdL s w a (c.drop (n + 1)) = a
        · rw [if_pos h3] at ih ⊢
          rw [if_pos (by simp; omega)]
          simpa using ih
        · rw [if_neg h3] at ih ⊢
          rw [if_neg (by simp; omega)]
          simpa using ih
      · refine Ev.iff_neg h2 ?_
        have ih := implNear_l hs hc hw m (n + 1) L a (by omega) (by omega)
        rw [if_neg (show ¬ decide (t = mdL s w a (c.drop (n + 1))) = true by simp; omega)]
        exact ih
theorem specNear_l {s c : List Int} (hs : isSp s = true) (hc : isC s c = true) {w : Int} (hw : isW s w = true) : ∀ (m n : Nat) (L : List Int), n + m = c.length → L.length ≤ n →
    Ev (fun k => spec_NearestWords.l0 k c w L (n : Int) s) (L ++ (c.drop n).filter (fun x => decide (dist s x w = mdL s w 9 c)), 0)
  | 0, n, L, hm, hL => by
    refine Ev.step (fun k => by simp only [spec_NearestWords.l0]; exact rfl) ?_
    refine Ev.iff_neg (by omega) ?_
    rw [drop_all (by omega)]
    simpa using Ev.now _
  | m + 1, n, L, hm, hL => by
    have hn : n < c.length := by omega
    have hl := isC_len hs hc
    refine Ev.step (fun k => by simp only [spec_NearestWords.l0]; exact rfl) ?_
    refine Ev.iff_pos (by omega) ?_
    refine Ev.iff_pos (by omega) ?_
    refine Ev.bind (l01Distance_ev hs (isC_rd hc hn) hw) ?_
    refine Ev.bind (l02To_ev hs hc hw (by omega) (b := 9) (by omega)) ?_
    rw [wrap_nat (by unfold maxLen; omega), drop_cons c hn]
    simp only [List.filter_cons]
    by_cases h : dist s (rd c (n : Int)) w = mdL s w 9 c
    · refine Ev.iff_pos h ?_
      refine Ev.iff_pos (by omega) ?_
      have ih := specNear_l hs hc hw m (n + 1) (L ++ [rd c (n : Int)]) (by omega) (by simp; omega)
      rw [if_pos (by simp [h])]
      simpa using ih
    · refine Ev.iff_neg h ?_
      have ih := specNear_l hs hc hw m (n + 1) L (by omega) (by omega)
      rw [if_neg (by simp [h])]
      exact ih
theorem specNearestWords_ev (s : List Int) {c : List Int} (hcl : c.length ≤ 1048576) (w : Int) : Ev (fun k => spec_NearestWords.f k s c w) (rNearestWords s c w) := by
  unfold spec_NearestWords.f rNearestWords rNear
  refine Ev.bind (l01Given_ev s hcl) ?_
  by_cases h : rCode s c [] = 0
  · obtain ⟨hs, hc, _⟩ := rCode_zero h
    simp only [if_pos h]
    refine Ev.bind (l01N_sp hs) ?_
    have hp := isSp_prd hs
    have hp1 := isSp_prd1 hs
    rw [wrap_id (x := prd s - 1) (by omega) (by omega)]
    refine Ev.bindc (l01In_eq _ _ _) ?_
    refine Ev.step (fun k => by simp only [spec_NearestWords.j0]; exact rfl) ?_
    by_cases hw : isW s w = true
    · have hw' := (isW_iff s w).1 hw
      refine Ev.iff_neg (by rw [decide_eq_true (show 0 ≤ w ∧ w ≤ prd s - 1 from ⟨by omega, by omega⟩)]; decide) ?_
      refine Ev.step (fun k => by simp only [spec_NearestWords.j1]; exact rfl) ?_
      refine Ev.iff_pos h ?_
      simp only [if_pos hw]
      have := specNear_l hs hc hw c.length 0 [] (by omega) (by simp)
      simpa [nearL] using this
    · have hw' := fun z => hw ((isW_iff s w).2 z)
      refine Ev.iff_pos (by rw [decide_eq_false (show ¬ (0 ≤ w ∧ w ≤ prd s - 1) from fun z => hw' ⟨z.1, by have := z.2; omega⟩)]; decide) ?_
      refine Ev.step (fun k => by simp only [spec_NearestWords.j1]; exact rfl) ?_
      refine Ev.iff_neg (by decide) ?_
      simp only [if_neg hw]
      exact Ev.now _
  · simp only [if_neg h]
    refine Ev.step (fun k => by simp only [spec_NearestWords.j0]; exact rfl) ?_
    refine Ev.iff_neg (by decide) ?_
    refine Ev.step (fun k => by simp only [spec_NearestWords.j1]; exact rfl) ?_
    refine Ev.iff_neg h ?_
    exact Ev.now _
theorem implNearestWords_ev (s : List Int) {c : List Int} (hcl : c.length ≤ 1048576) (w : Int) : Ev (fun k => impl_NearestWords.f k s c w) (rNearestWords s c w) := by
  unfold impl_NearestWords.f rNearestWords
  refine Ev.bind (codeCode_ev s hcl (ws := [w]) (by simp)) ?_
  rw [rNear_eq]
  by_cases h : rNear s c w = 0
  · simp only [if_pos h]
    rw [← rNear_eq] at h
    obtain ⟨hs, hc, hw⟩ := rCode_zero h
    have := implNear_l hs hc (hw w (by simp)) c.length 0 [] 9 (by omega) (by simp)
    simpa [nearL] using this
  · simp only [if_neg h]
    exact Ev.now _
def rDistanceTo (s c : List Int) (w : Int) : Int × Int := if rSome s c [w] = 0 then (mdL s w 8 c, 0) else (0, rSome s c [w])
theorem rSome_one (s c : List Int) (w : Int) : rSome s c [w] = if rSome s c [] = 0 ∨ rSome s c [] = 5 then if isW s w = true then rSome s c [] else 2 else rSome s c [] := by
  unfold rSome rCode rWords
  by_cases hs : isSp s = true
  · by_cases hw : isW s w = true
    · by_cases hc : isC s c = true
      · by_cases hp : c.length = 0
        · simp [hs, hw, hc, hp]
        · simp [hs, hw, hc, hp]
      · simp [hs, hw, hc]
    · by_cases hc : isC s c = true
      · by_cases hp : c.length = 0
        · simp [hs, hw, hc, hp]
        · simp [hs, hw, hc, hp]
      · simp [hs, hw, hc]
  · simp [hs]
theorem rSome_sp {s c : List Int} (h : rSome s c [] = 0 ∨ rSome s c [] = 5) : isSp s = true := by
  unfold rSome rCode rWords at h
  by_cases hs : isSp s = true
  · exact hs
  · simp [hs] at h
theorem specDistanceTo_ev (s : List Int) {c : List Int} (hcl : c.length ≤ 1048576) (w : Int) : Ev (fun k => spec_DistanceTo.f k s c w) (rDistanceTo s c w) := by
  unfold spec_DistanceTo.f rDistanceTo
  refine Ev.bind (l02Full_ev s hcl) ?_
  have key : (rSome s c [] = 0 ∨ rSome s c [] = 5) → Ev (fun k => (spec_l01N.f k s).bind fun t103 => (spec_l01In.f w 0 (wrap64 (t103 - 1))).bind fun t104 => spec_DistanceTo.j0 k c w (rSome s c []) (!t104) s) (if rSome s c [w] = 0 then (mdL s w 8 c, 0) else (0, rSome s c [w])) := fun h => by
    have hs := rSome_sp h
    have hp := isSp_prd hs
    have hp1 := isSp_prd1 hs
    refine Ev.bind (l01N_sp hs) ?_
    rw [wrap_id (x := prd s - 1) (by omega) (by omega)]
    refine Ev.bindc (l01In_eq _ _ _) ?_
    refine Ev.step (fun k => by simp only [spec_DistanceTo.j0]; exact rfl) ?_
    rw [rSome_one]
    simp only [if_pos h]
    by_cases hw : isW s w = true
    · have hw' := (isW_iff s w).1 hw
      refine Ev.iff_neg (by rw [decide_eq_true (show 0 ≤ w ∧ w ≤ prd s - 1 from ⟨by omega, by omega⟩)]; decide) ?_
      simp only [if_pos hw]
      by_cases h0 : rSome s c [] = 0
      · obtain ⟨_, hc, _, hpos⟩ := rSome_zero h0
        refine Ev.iff_pos h0 ?_
        simp only [if_pos h0]
        exact Ev.bind (l02To_ev hs hc hw hpos (b := 8) (by omega)) (Ev.now _)
      · refine Ev.iff_neg h0 ?_
        simp only [if_neg h0]
        exact Ev.now _
    · have hw' := fun z => hw ((isW_iff s w).2 z)
      refine Ev.iff_pos (by rw [decide_eq_false (show ¬ (0 ≤ w ∧ w ≤ prd s - 1) from fun z => hw' ⟨z.1, by have := z.2; omega⟩)]; decide) ?_
      refine Ev.iff_neg (by decide) ?_
      simp only [if_neg hw]
      exact Ev.now _
  by_cases h : rSome s c [] = 0
  · refine Ev.iff_pos h ?_
    exact key (.inl h)
  · refine Ev.iff_neg h ?_
    by_cases h5 : rSome s c [] = 5
    · refine Ev.iff_pos h5 ?_
      exact key (.inr h5)
    · refine Ev.iff_neg h5 ?_
      refine Ev.step (fun k => by simp only [spec_DistanceTo.j0]; exact rfl) ?_
      refine Ev.iff_neg (by decide) ?_
      refine Ev.iff_neg h ?_
      have hn : ¬ (rSome s c [] = 0 ∨ rSome s c [] = 5) := by omega
      rw [rSome_one, if_neg hn, if_neg h]
      exact Ev.now _
theorem implDistanceTo_ev (s : List Int) {c : List Int} (hcl : c.length ≤ 1048576) (w : Int) : Ev (fun k => impl_DistanceTo.f k s c w) (rDistanceTo s c w) := by
  unfold impl_DistanceTo.f rDistanceTo
  refine Ev.bind (someCode_ev s hcl (ws := [w]) (by simp)) ?_
  by_cases h : rSome s c [w] = 0
  · obtain ⟨hs, hc, hw, hp⟩ := rSome_zero h
    have hw' := (isW_iff s w).1 (hw w (by simp))
    have hN := NW_eq hs
    simp only [if_pos h]
    refine Ev.bindc (farness_eq hs hc hp) ?_
    refine Ev.iff_pos hw'.1 ?_
    refine Ev.iff_pos (by rw [farW_length]; omega) ?_
    obtain ⟨n, rfl⟩ := Int.eq_ofNat_of_zero_le hw'.1
    rw [farW_rd s c (by omega)]
    exact Ev.now _
  · simp only [if_neg h]
    exact Ev.now _
def rFarthestWord (s c : List Int) : Int × Int := if rSome s c [] = 0 then ((ag (farW s c) (NW s) : Int), 0) else (0, rSome s c [])
theorem indexAt_l {L : List Int} (hL : L.length ≤ 1048576) (x : Int) {t : Nat} (ht : t < L.length) (hx : rd L (t : Int) = x) (hb : ∀ j : Nat, j < t → rd L (j : Int) < x) : ∀ (m n : Nat), n + m = t →
    Ev (fun k => slices_Index_int64_int64.l0 k L x (L.length : Int) (n : Int)) (t : Int)
  | 0, n, hm => by
    have : n = t := by omega
    subst this
    refine Ev.step (fun k => by simp only [slices_Index_int64_int64.l0]; exact rfl) ?_
    refine Ev.iff_pos (by omega) ?_
    refine Ev.iff_pos (by omega) ?_
    refine Ev.iff_pos (by omega) ?_
    exact Ev.iff_pos hx.symm (Ev.now _)
  | m + 1, n, hm => by
    have hlt := hb n (by omega)
    refine Ev.step (fun k => by simp only [slices_Index_int64_int64.l0]; exact rfl) ?_
    refine Ev.iff_pos (by omega) ?_
    refine Ev.iff_pos (by omega) ?_
    refine Ev.iff_pos (by omega) ?_
    refine Ev.iff_neg (by omega) ?_
    rw [wrap_nat (by unfold maxLen; omega)]
    exact indexAt_l hL x ht hx hb m (n + 1) (by omega)
theorem specFarthestWord_ev (s : List Int) {c : List Int} (hcl : c.length ≤ 1048576) : Ev (fun k => spec_FarthestWord.f k s c) (rFarthestWord s c) := by
  unfold spec_FarthestWord.f rFarthestWord
  refine Ev.bind (l02Full_ev s hcl) ?_
  by_cases h : rSome s c [] = 0
  · obtain ⟨hs, hc, _, hp⟩ := rSome_zero h
    simp only [if_pos h]
    exact Ev.bind (l02Farthest_ev hs hc hp) (Ev.now _)
  · simp only [if_neg h]
    exact Ev.now _
theorem implFarthestWord_ev (s : List Int) {c : List Int} (hcl : c.length ≤ 1048576) : Ev (fun k => impl_FarthestWord.f k s c) (rFarthestWord s c) := by
  unfold impl_FarthestWord.f rFarthestWord
  refine Ev.bind (someCode_ev s hcl (by simp)) ?_
  by_cases h : rSome s c [] = 0
  · obtain ⟨hs, hc, _, hp⟩ := rSome_zero h
    have hN := NW_pos hs
    have hN2 := NW_le hs
    simp only [if_pos h]
    refine Ev.bindc (farness_eq hs hc hp) ?_
    refine Ev.bindc (max_eq hs) ?_
    obtain ⟨i1, i2, i3⟩ := ag_law (farW s c) (NW s - 1) (by rw [farW_length]; omega)
    rw [show NW s - 1 + 1 = NW s by omega] at i1 i2 i3
    refine Ev.bind (a := (ag (farW s c) (NW s) : Int)) ?_ (Ev.now _)
    unfold slices_Index_int64_int64.f
    exact indexAt_l (by rw [farW_length]; omega) _ (by rw [farW_length]; exact i1) i2 i3 (ag (farW s c) (NW s)) 0 (by omega)
  · simp only [if_neg h]
    exact Ev.now _
def rRadiusOf (s c : List Int) : Int × Int := if rSome s c [] = 0 then (maxQ (farW s c) (NW s), 0) else (0, rSome s c [])
theorem implRadiusOf_ev (s : List Int) {c : List Int} (hcl : c.length ≤ 1048576) : Ev (fun k => impl_RadiusOf.f k s c) (rRadiusOf s c) := by
  unfold impl_RadiusOf.f rRadiusOf
  refine Ev.bind (someCode_ev s hcl (by simp)) ?_
  by_cases h : rSome s c [] = 0
  · obtain ⟨hs, hc, _, hp⟩ := rSome_zero h
    simp only [if_pos h]
    refine Ev.bindc (a := maxQ (farW s c) (NW s)) ?_ (Ev.now _)
    unfold impl_radius.f
    rw [farness_eq hs hc hp, Option.bind_some, max_eq hs, Option.bind_some]
  · simp only [if_neg h]
    exact Ev.now _
def rDistanceOf (s : List Int) (u w : Int) : Int × Int := if rWords s [u, w] = 0 then (dist s u w, 0) else (0, rWords s [u, w])
theorem implDistanceOf_ev (s : List Int) (u w : Int) : Ev (fun k => impl_DistanceOf.f k s u w) (rDistanceOf s u w) := by
  unfold impl_DistanceOf.f rDistanceOf
  refine Ev.bind (wordCode_ev s (c := [u, w]) (by simp)) ?_
  by_cases h : rWords s [u, w] = 0
  · obtain ⟨hs, hc⟩ := rWords_zero h
    simp only [if_pos h]
    refine Ev.bindc (a := dist s u w) ?_ (Ev.now _)
    unfold impl_distance.f
    rw [if_pos ⟨hs, hc u (by simp), hc w (by simp)⟩, ham_dig8 (isSp_len hs)]
  · simp only [if_neg h]
    exact Ev.now _
end Go.Proofs.Ytlfipjdjmpdblaa.Q
set_option linter.unusedVariables false
set_option linter.unusedSimpArgs false
namespace Go.Proofs.Ytlfipjdjmpdblaa.Q
open Go.RowKit Go.Proofs.Ytlfipjdjmpdblaa.P Go.Proofs.YtlfipjdjmpdblaaW.PrintWords CC
def decV (L : List Int) (x : Int) : List Int := L.set x.toNat (rd L x - 1)
theorem decV_length (L : List Int) (x : Int) : (decV L x).length = L.length := by simp [decV]
theorem decV_gen (f : Nat → Int) (P : Nat) {x : Nat} (h : x < P) : decV ((List.range P).map f) (x : Int) = (List.range P).map fun u => f u - if u = x then 1 else 0 := by
  unfold decV
  rw [Int.toNat_natCast]
  apply List.ext_getElem?
  intro k
  by_cases hk : k = x
  · subst hk
    rw [List.getElem?_set_self (by simpa using h)]
    simp [rd, List.getD_eq_getElem?_getD, h]
  · rw [List.getElem?_set_ne (fun e => hk e.symm)]
    simp only [List.getElem?_map]
    by_cases hp : k < P
    · simp [hp, hk]
    · rw [List.getElem?_eq_none (by simp; omega)]
      rfl
theorem decV_fold (P : Nat) (p : Int → Bool) : ∀ (n : Nat) (f : Nat → Int), n ≤ P → (selL p n).foldl decV ((List.range P).map f) = (List.range P).map fun u => f u - if u < n ∧ p (u : Int) = true then 1 else 0
  | 0, f, _ => by simp [selL]
  | n + 1, f, h => by
    rw [selL_succ, List.foldl_append, decV_fold P p n f (by omega)]
    by_cases hp : p (n : Int) = true
    · rw [if_pos hp]
      simp only [List.foldl_cons, List.foldl_nil]
      rw [decV_gen _ P (show n < P by omega)]
      apply List.map_congr_left
      intro u _
      by_cases hu : u = n
      · subst hu
        simp [hp]
      · by_cases hu2 : u < n
        · have : u < n + 1 := by omega
          simp [hu, hu2, this]
        · have : ¬ u < n + 1 := by omega
          simp [hu, hu2, this]
    · rw [if_neg hp, List.foldl_nil]
      apply List.map_congr_left
      intro u _
      by_cases hu : u = n
      · subst hu
        simp [hp]
      · by_cases hu2 : u < n
        · have : u < n + 1 := by omega
          simp [hu2, this]
        · have : ¬ u < n + 1 := by omega
          simp [hu2, this]
def lowb (L : List Int) (b : Int) : Prop := ∀ u : Nat, -b ≤ rd L (u : Int) ∧ rd L (u : Int) ≤ 1048576
theorem rd_set2 (L : List Int) (k u : Nat) (v : Int) : rd (L.set k v) (u : Int) = if k = u ∧ k < L.length then v else rd L (u : Int) := by
  simp only [rd, Int.toNat_natCast, List.getD_eq_getElem?_getD, List.getElem?_set]
  by_cases h : k = u
  · subst h
    by_cases h2 : k < L.length
    · simp [h2]
    · simp [h2]
  · simp [h]
theorem lowb_dec {L : List Int} {b : Int} (h : lowb L b) (x : Int) (hb : 0 ≤ b) : lowb (decV L x) (b + 1) := by
  intro u
  unfold decV
  rw [rd_set2]
  have h1 := h u
  have h2 := h x.toNat
  split
  · by_cases hx : 0 ≤ x
    · rw [Int.toNat_of_nonneg hx] at h2
      omega
    · have : rd L x = rd L ((x.toNat : Nat) : Int) := by unfold rd; rw [Int.toNat_natCast]
      rw [this]
      omega
  · omega
theorem rd_in {B : List Int} {P k : Nat} (hB : ∀ x ∈ B, 0 ≤ x ∧ x < P) (hk : k < B.length) : 0 ≤ rd B (k : Int) ∧ rd B (k : Int) < P := by
  have : rd B (k : Int) = B[k] := by simp [rd, List.getD_eq_getElem?_getD, hk]
  rw [this]
  exact hB _ (List.getElem_mem hk)
def lf (cov : List Bool) : List Bool := cov.map fun b => !b
theorem lf_len (cov : List Bool) : (lf cov).length = cov.length := by simp [lf]
theorem lf_rd {cov : List Bool} {x : Int} (h0 : 0 ≤ x) (h1 : x < cov.length) : rdOf false (lf cov) x = !(cov.getD x.toNat false) := by
  have : x.toNat < cov.length := by omega
  simp [rdOf, lf, List.getD_eq_getElem?_getD, this]
theorem lf_set (cov : List Bool) (i : Nat) : (lf cov).set i false = lf (cov.set i true) := by simp [lf, List.map_set]
def covF (cov : List Bool) (L : List Int) : List Bool := L.foldl (fun c x => c.set x.toNat true) cov
theorem covF_len : ∀ (L : List Int) (cov : List Bool), (covF cov L).length = cov.length
  | [], _ => rfl
  | x :: L, cov => by
    have := covF_len L (cov.set x.toNat true)
    unfold covF at this ⊢
    rw [List.foldl_cons, this, List.length_set]
theorem covF_get : ∀ (L : List Int) (cov : List Bool) {P : Nat} {u : Nat}, cov.length = P → u < P → (∀ x ∈ L, 0 ≤ x) → (covF cov L).getD u false = (cov.getD u false || decide ((u : Int) ∈ L))
  | [], cov, P, u, _, _, _ => by simp [covF]
  | x :: L, cov, P, u, hl, hu, hL => by
    have ih := covF_get L (cov.set x.toNat true) (P := P) (u := u) (by rw [List.length_set]; exact hl) hu (fun y hy => hL y (List.mem_cons_of_mem _ hy))
    have hx := hL x List.mem_cons_self
    unfold covF at ih ⊢
    rw [List.foldl_cons, ih]
    by_cases e : x.toNat = u
    · have e2 : (u : Int) = x := by omega
      have h3 : (cov.set x.toNat true).getD u false = true := by
        rw [← e, List.getD_eq_getElem?_getD, List.getElem?_set_self (by omega)]
        rfl
      rw [h3, e2]
      simp
    · have h3 : (cov.set x.toNat true).getD u false = cov.getD u false := by
        rw [List.getD_eq_getElem?_getD, List.getElem?_set_ne e, ← List.getD_eq_getElem?_getD]
      rw [h3]
      congr 1
      rw [decide_eq_decide, List.mem_cons]
      constructor
      · exact .inr
      · rintro (h | h)
        · omega
        · exact h
theorem nrb_dist {s : List Int} (hs : isSp s = true) (r : Int) (a b : Nat) : nrb s r a b = decide (dist s (a : Int) (b : Int) ≤ r) := by
  unfold nrb
  rw [ham_dig8 (isSp_len hs)]
theorem covF_ball {s : List Int} (hs : isSp s = true) (r : Int) {P : Nat} (hP : NW s = P) {cov : List Bool} (hl : cov.length = P) (b : Nat) : covF cov (ballL s (b : Int) r) = covU s r P b cov P := by
  apply List.ext_getElem
  · rw [covF_len, covU_len, hl]
  · intro u h1 h2
    have hu : u < P := by rw [covU_len] at h2; exact h2
    have e1 := covF_get (ballL s (b : Int) r) cov (u := u) hl hu (fun x hx => (mem_selL.1 hx).1)
    have e2 := covU_get s r P b cov P hu
    rw [List.getD_eq_getElem?_getD, List.getElem?_eq_getElem h1] at e1
    rw [List.getD_eq_getElem?_getD, List.getElem?_eq_getElem h2] at e2
    have e3 : decide ((u : Int) ∈ ballL s (b : Int) r) = nrb s r b u := by
      rw [nrb_dist hs, decide_eq_decide]
      unfold ballL
      rw [mem_selL, hP]
      constructor
      · rintro ⟨_, _, h⟩
        simpa using h
      · intro h
        exact ⟨by omega, by omega, by simpa using h⟩
    rw [e3] at e1
    rw [decide_eq_true hu, Bool.true_and] at e2
    simp only [Option.getD_some] at e1 e2
    rw [e1, e2]
theorem decV_ball {s : List Int} (hs : isSp s = true) (r : Int) {P : Nat} (hP : NW s = P) {cov : List Bool} (hl : cov.length = P) {u : Nat} (hu : u < P) (hc : cov.getD u false = false) : (ballL s (u : Int) r).foldl decV (gnL s r P cov) = gnL s r P (cov.set u true) := by
  unfold ballL gnL
  rw [hP, decV_fold P _ P _ (Nat.le_refl _)]
  apply List.map_congr_left
  intro w hw
  have hw2 := List.mem_range.1 hw
  rw [gnF_set s r hu hl hc w, nrb_dist hs, dist_comm s (w : Int) (u : Int)]
  by_cases h : dist s (u : Int) (w : Int) ≤ r
  · simp [h, hw2]
  · simp [h]
theorem greedy_l4 {s B : List Int} {r : Int} {P : Nat} (hB : ∀ x ∈ B, 0 ≤ x ∧ x < P) (hBl : B.length ≤ 1024) (O L : List Int) (V : List Bool) (R : List Int × Int) {i : Nat} (hi : i ≤ 1024) :
    ∀ (m k0 : Nat) (T : List Int), k0 + m = B.length → T.length = P → lowb T (k0 : Int) →
      Ev (fun k => spec_GreedyCode.l3 k r (P : Int) O V ((B.drop k0).foldl decV T) L ((i + 1 : Nat) : Int) s) R → Ev (fun k => spec_GreedyCode.l4 k r (P : Int) O V T L (i : Int) B (k0 : Int) s) R
  | 0, k0, T, hm, hT, hsm, hev => by
    refine Ev.step (fun k => by simp only [spec_GreedyCode.l4]; exact rfl) ?_
    refine Ev.iff_neg (by omega) ?_
    rw [wrap_nat (by unfold maxLen; omega)]
    rw [drop_all (by omega)] at hev
    exact hev
  | m + 1, k0, T, hm, hT, hsm, hev => by
    have hk : k0 < B.length := by omega
    have hx := rd_in hB hk
    have hr := hsm (rd B (k0 : Int)).toNat
    rw [Int.toNat_of_nonneg hx.1] at hr
    refine Ev.step (fun k => by simp only [spec_GreedyCode.l4]; exact rfl) ?_
    refine Ev.iff_pos (by omega) (Ev.iff_pos (by omega) (Ev.iff_pos hx.1 (Ev.iff_pos (by rw [hT]; exact hx.2) ?_)))
    rw [wrap_nat (by unfold maxLen; omega), wrap_id (x := rd T (rd B (k0 : Int)) - 1) (by omega) (by omega)]
    refine greedy_l4 hB hBl O L V R hi m (k0 + 1) (decV T (rd B (k0 : Int))) (by omega) (by rw [decV_length]; exact hT) ?_ ?_
    · have := lowb_dec hsm (rd B (k0 : Int)) (by omega)
      rw [show (((k0 + 1 : Nat)) : Int) = (k0 : Int) + 1 by omega]
      exact this
    · rw [drop_cons B hk] at hev
      exact hev
theorem gnL_low (s : List Int) (r : Int) {P : Nat} (hP : P ≤ 1024) (cov : List Bool) : lowb (gnL s r P cov) 0 := by
  intro u
  by_cases h : u < P
  · rw [gnL_rd s r cov h]
    have := gnF_bd s r P cov u
    omega
  · have : rd (gnL s r P cov) (u : Int) = 0 := by simp [gnL, rd, List.getD_eq_getElem?_getD, h]
    omega
theorem greedy_l3 {s L : List Int} {r : Int} {P : Nat} (hs : isSp s = true) (hP : NW s = P) (hL : ∀ x ∈ L, 0 ≤ x ∧ x < P) (hLl : L.length ≤ 1024) (O : List Int) (R : List Int × Int) :
    ∀ (m i : Nat) (cov : List Bool), i + m = L.length → cov.length = P →
      Ev (fun k => spec_GreedyCode.l1 k r (P : Int) O (lf (covF cov (L.drop i))) (gnL s r P (covF cov (L.drop i))) s) R → Ev (fun k => spec_GreedyCode.l3 k r (P : Int) O (lf cov) (gnL s r P cov) L (i : Int) s) R
  | 0, i, cov, hm, hc, hev => by
    refine Ev.step (fun k => by simp only [spec_GreedyCode.l3]; exact rfl) ?_
    refine Ev.iff_neg (by omega) ?_
    rw [drop_all (by omega)] at hev
    exact hev
  | m + 1, i, cov, hm, hc, hev => by
    have hk : i < L.length := by omega
    have hx := rd_in hL hk
    have hPl : P ≤ 1024 := by have := NW_le hs; omega
    rw [drop_cons L hk] at hev
    refine Ev.step (fun k => by simp only [spec_GreedyCode.l3]; exact rfl) ?_
    refine Ev.iff_pos (by omega) (Ev.iff_pos (by omega) (Ev.iff_pos hx.1 (Ev.iff_pos (by rw [lf_len, hc]; exact hx.2) ?_)))
    generalize rd L (i : Int) = x at *
    obtain ⟨u, rfl⟩ : ∃ u : Nat, x = (u : Int) := ⟨x.toNat, by omega⟩
    have hu : u < P := by omega
    rw [lf_rd (by omega) (by omega), Int.toNat_natCast]
    have hev2 : Ev (fun k => spec_GreedyCode.l1 k r (P : Int) O (lf (covF (cov.set u true) (L.drop (i + 1)))) (gnL s r P (covF (cov.set u true) (L.drop (i + 1)))) s) R := hev
    by_cases h : cov.getD u false = false
    · refine Ev.iff_pos (by rw [h]; rfl) ?_
      refine Ev.bind (l01Ball_ev hs (isW_nat hs (by omega)) r) ?_
      rw [lf_set]
      refine greedy_l4 (B := ballL s (u : Int) r) (fun y hy => by have := mem_selL.1 hy; rw [hP] at this; exact ⟨this.1, this.2.1⟩) (ballL_len hs _ _) O L _ R (by omega) (ballL s (u : Int) r).length 0 (gnL s r P cov) (by omega) (gnL_len s r P cov) (gnL_low s r hPl cov) ?_
      rw [List.drop_zero, decV_ball hs r hP hc hu h]
      exact greedy_l3 hs hP hL hLl O R m (i + 1) (cov.set u true) (by omega) (by rw [List.length_set]; exact hc) hev2
    · rw [Bool.not_eq_false] at h
      refine Ev.iff_neg (by rw [h]; simp) ?_
      rw [wrap_nat (by unfold maxLen; omega)]
      have e : cov.set u true = cov := by
        apply List.ext_getElem
        · simp
        · intro v h1 h2
          rw [List.getElem_set]
          split
          · rename_i e
            subst e
            rw [List.getD_eq_getElem?_getD, List.getElem?_eq_getElem h2] at h
            exact h.symm
          · rfl
      rw [e] at hev2
      exact greedy_l3 hs hP hL hLl O R m (i + 1) cov (by omega) hc hev2
theorem bst_one (f : Nat → Int) : bst f 1 = 0 := by unfold bst; split <;> rfl
theorem greedy_l2 {s : List Int} {r : Int} {P : Nat} (hPl : P ≤ 1024) (O : List Int) (V : List Bool) (cov : List Bool) (R : List Int × Int)
    (h1 : gnF s r P cov (bst (gnF s r P cov) P) = 0 → R = (O, 0))
    (h2 : gnF s r P cov (bst (gnF s r P cov) P) ≠ 0 → Ev (fun k => (spec_l01Put.f k O (bst (gnF s r P cov) P : Nat)).bind fun t120 => (spec_l01Ball.f k s (bst (gnF s r P cov) P : Nat) r).bind fun t123 => spec_GreedyCode.l3 k r (P : Int) t120 V (gnL s r P cov) t123 0 s) R) :
    ∀ (m n : Nat), 1 ≤ n → n + m = P → Ev (fun k => spec_GreedyCode.l2 k r (P : Int) O V (gnL s r P cov) (bst (gnF s r P cov) n : Nat) (n : Int) s) R
  | 0, n, hn, hm => by
    have e : n = P := by omega
    subst e
    have hb := bst_lt (gnF s r n cov) (show 0 < n by omega)
    refine Ev.step (fun k => by simp only [spec_GreedyCode.l2]; exact rfl) ?_
    refine Ev.iff_neg (by omega) (Ev.iff_pos (by omega) (Ev.iff_pos (by rw [gnL_len]; omega) ?_))
    rw [gnL_rd s r cov hb]
    by_cases h : gnF s r n cov (bst (gnF s r n cov) n) = 0
    · refine Ev.iff_pos h ?_
      rw [h1 h]
      exact Ev.now _
    · exact Ev.iff_neg h (h2 h)
  | m + 1, n, hn, hm => by
    have hb := bst_lt (gnF s r P cov) (show 0 < n by omega)
    have ih := greedy_l2 hPl O V cov R h1 h2 m (n + 1) (by omega) (by omega)
    refine Ev.step (fun k => by simp only [spec_GreedyCode.l2]; exact rfl) ?_
    refine Ev.iff_pos (by omega) (Ev.iff_pos (by omega) (Ev.iff_pos (by rw [gnL_len]; omega) (Ev.iff_pos (by omega) (Ev.iff_pos (by rw [gnL_len]; omega) ?_))))
    rw [gnL_rd s r cov (show n < P by omega), gnL_rd s r cov (show bst (gnF s r P cov) n < P by omega), wrap_nat (by unfold maxLen; omega)]
    by_cases h : gnF s r P cov n > gnF s r P cov (bst (gnF s r P cov) n)
    · refine Ev.iff_pos h ?_
      rw [bst, if_pos h] at ih
      exact ih
    · refine Ev.iff_neg h ?_
      rw [bst, if_neg h] at ih
      exact ih
theorem msort_ord {l : List Int} (h : l.Nodup) : msort l = ordL l := by
  have h1 := msort_pw l
  have h2 : (msort l).Nodup := (List.mergeSort_perm l _).nodup_iff.2 h
  refine ordL_of ?_ (fun y => msort_mem l y)
  exact (h1.and h2).imp (fun h => by have := h.1; have := h.2; omega)
theorem gnF_mono (s : List Int) (r : Int) (P b : Nat) (cov : List Bool) (w : Nat) : gnF s r P (covU s r P b cov P) w ≤ gnF s r P cov w := by
  unfold gnF
  have : (List.range P).countP (fun u => !((covU s r P b cov P).getD u false) && nrb s r w u) ≤ (List.range P).countP (fun u => !(cov.getD u false) && nrb s r w u) := by
    apply List.countP_mono_left
    intro u hu
    rw [covU_get s r P b cov P (List.mem_range.1 hu)]
    cases cov.getD u false <;> simp
  omega
theorem gnF_own (s : List Int) (r : Int) (P b : Nat) (cov : List Bool) : gnF s r P (covU s r P b cov P) b = 0 := by
  unfold gnF
  have : (List.range P).countP (fun u => !((covU s r P b cov P).getD u false) && nrb s r b u) = 0 := by
    rw [List.countP_eq_zero]
    intro u hu
    have hu2 := List.mem_range.1 hu
    rw [covU_get s r P b cov P hu2, decide_eq_true hu2]
    cases cov.getD u false <;> cases nrb s r b u <;> simp
  omega
theorem greedy_run {s : List Int} {r : Int} {P : Nat} (hs : isSp s = true) (hP : NW s = P) (hP1 : 1 ≤ P) (hPl : P ≤ 1024) : ∀ (fuel : Nat) (cov : List Bool) (out : List Int), cov.length = P → P + 1 ≤ fuel + cn cov → out.length ≤ cn cov → out.Nodup → (∀ x ∈ out, 0 ≤ x ∧ gnF s r P cov x.toNat = 0) →
    Ev (fun k => spec_GreedyCode.l1 k r (P : Int) (ordL out) (lf cov) (gnL s r P cov) s) (msort (gRun s r P fuel cov out), 0)
  | 0, cov, out, hc, hf, _, _, _ => by
    have := cn_le cov
    omega
  | fuel + 1, cov, out, hc, hf, ho, hnd, hz => by
    have hcn := cn_le cov
    refine Ev.step (fun k => by simp only [spec_GreedyCode.l1]; exact rfl) ?_
    have hb := bst_lt (gnF s r P cov) (show 0 < P by omega)
    have h3 := greedy_l2 (s := s) (r := r) hPl (ordL out) (lf cov) cov (msort (gRun s r P (fuel + 1) cov out), 0) (fun h => by rw [gRun, if_pos h, msort_ord hnd]) (fun h => ?_) (P - 1) 1 (Nat.le_refl _) (by omega)
    · rw [bst_one] at h3
      exact h3
    · have hmore := cn_more s r hc h
      have hcu := covU_len s r P (bst (gnF s r P cov) P) cov P
      have hnin : ((bst (gnF s r P cov) P : Nat) : Int) ∉ out := fun hm => h (by have := (hz _ hm).2; rwa [Int.toNat_natCast] at this)
      have hol := ordL_len out
      rw [gRun, if_neg h]
      refine Ev.bind (l01Put_ev (ordL_pw out) (by omega) _) ?_
      rw [ordL_put]
      refine Ev.bind (l01Ball_ev hs (isW_nat hs (by omega)) r) ?_
      have ih := greedy_run (r := r) hs hP hP1 hPl fuel (covU s r P (bst (gnF s r P cov) P) cov P) (out ++ [((bst (gnF s r P cov) P : Nat) : Int)]) hcu (by omega) (by rw [List.length_append, List.length_singleton]; omega)
        (by rw [List.nodup_append]; exact ⟨hnd, by simp, fun a ha b hb2 e => by rw [List.mem_singleton] at hb2; subst hb2; subst e; exact hnin ha⟩)
        (fun x hx => by
          rcases List.mem_append.1 hx with hx | hx
          · have h1 := hz x hx
            have h2 := gnF_mono s r P (bst (gnF s r P cov) P) cov x.toNat
            have h4 := gnF_bd s r P (covU s r P (bst (gnF s r P cov) P) cov P) x.toNat
            omega
          · rw [List.mem_singleton] at hx
            subst hx
            rw [Int.toNat_natCast]
            exact ⟨by omega, gnF_own s r P _ cov⟩)
      rw [← covF_ball hs r hP hc] at ih ⊢
      exact greedy_l3 hs hP (fun x hx => by have := mem_selL.1 hx; rw [hP] at this; exact ⟨this.1, this.2.1⟩) (ballL_len hs _ _) _ _ (ballL s ((bst (gnF s r P cov) P : Nat) : Int) r).length 0 cov (by omega) hc (by rw [List.drop_zero]; exact ih)
def lfN (P n : Nat) : List Bool := (List.range P).map fun u => decide (u < n)
theorem lfN_set {P n : Nat} (h : n < P) : (lfN P n).set n true = lfN P (n + 1) := by
  apply List.ext_getElem
  · simp [lfN]
  · intro u h1 h2
    rw [List.getElem_set]
    by_cases e : n = u
    · subst e
      simp [lfN]
    · rw [if_neg e]
      simp only [lfN, List.getElem_map, List.getElem_range]
      rw [decide_eq_decide]
      omega
theorem lfN_zero (P : Nat) : lfN P 0 = List.replicate P false := by
  rw [List.eq_replicate_iff]
  refine ⟨by simp [lfN], fun b hb => ?_⟩
  simp only [lfN, List.mem_map] at hb
  obtain ⟨u, _, rfl⟩ := hb
  simp
theorem lfN_all (P : Nat) : lfN P P = lf (List.replicate P false) := by
  have h1 : lf (List.replicate P false) = List.replicate P true := by simp [lf]
  rw [h1, List.eq_replicate_iff]
  refine ⟨by simp [lfN], fun b hb => ?_⟩
  simp only [lfN, List.mem_map] at hb
  obtain ⟨u, hu, rfl⟩ := hb
  exact decide_eq_true (List.mem_range.1 hu)
theorem greedy_l0 {s : List Int} {r : Int} {P : Nat} (hs : isSp s = true) (hP : NW s = P) (h0 : 0 ≤ r) (h1 : r ≤ 8) (hPl : P ≤ 1024) (R : List Int × Int)
    (hev : Ev (fun k => spec_GreedyCode.l1 k r (P : Int) [] (lf (List.replicate P false)) (gnL s r P (List.replicate P false)) s) R) : ∀ (m n : Nat), n + m = P →
    Ev (fun k => spec_GreedyCode.l0 k r (P : Int) [] (lfN P n) (mix (fun _ => ((ballL s 0 r).length : Int)) (fun _ => 0) P n) (n : Int) s) R
  | 0, n, hm => by
    obtain rfl : n = P := by omega
    refine Ev.step (fun k => by simp only [spec_GreedyCode.l0]; exact rfl) ?_
    refine Ev.iff_neg (by omega) ?_
    have e : mix (fun _ => ((ballL s 0 r).length : Int)) (fun _ => 0) n n = gnL s r n (List.replicate n false) := by
      rw [mix_all, gn_start hs r (P := n) hP, List.eq_replicate_iff]
      refine ⟨by simp, fun b hb => ?_⟩
      simp only [List.mem_map] at hb
      obtain ⟨u, _, rfl⟩ := hb
      rfl
    rw [e, lfN_all]
    exact hev
  | m + 1, n, hm => by
    have hn : n < P := by omega
    have ih := greedy_l0 hs hP h0 h1 hPl R hev m (n + 1) (by omega)
    refine Ev.step (fun k => by simp only [spec_GreedyCode.l0]; exact rfl) ?_
    refine Ev.iff_pos (by omega) (Ev.iff_pos (by omega) (Ev.iff_pos (by simp [lfN]; omega) ?_))
    refine Ev.bind (l01Size_ev hs h0 (by omega)) ?_
    refine Ev.iff_pos (by rw [mix_length]; omega) ?_
    rw [wrap_nat (by unfold maxLen; omega), Int.toNat_natCast, lfN_set hn]
    have hms := mix_set (fun _ => ((ballL s 0 r).length : Int)) (fun _ => 0) hn
    rw [hms]
    exact ih
theorem gRun_len (s : List Int) (r : Int) (P : Nat) : ∀ (f : Nat) (cov : List Bool) (out : List Int), (gRun s r P f cov out).length ≤ out.length + f
  | 0, _, out => by simp [gRun]
  | f + 1, cov, out => by
    rw [gRun]
    split
    · omega
    · have := gRun_len s r P f (covU s r P (bst (gnF s r P cov) P) cov P) (out ++ [((bst (gnF s r P cov) P : Nat) : Int)])
      rw [List.length_append, List.length_singleton] at this
      omega
theorem greedy_sp {s : List Int} (hs : isSp s = true) {r : Int} (hr : 0 ≤ r ∧ r ≤ 8) : Ev (fun k => spec_GreedyCode.f k s r) (msort (greedyL s r (prd s).toNat), 0) := by
  unfold spec_GreedyCode.f
  refine Ev.bind (l01Is_ev s) ?_
  refine Ev.iff_pos hs ?_
  refine Ev.bindc (l01In_eq _ _ _) ?_
  refine Ev.iff_pos (decide_eq_true hr) ?_
  refine Ev.bind (l01N_sp hs) ?_
  have p0 := isSp_prd1 hs
  have p1 := isSp_prd hs
  obtain ⟨P, hP⟩ : ∃ P : Nat, prd s = (P : Int) := ⟨(prd s).toNat, by omega⟩
  have hN : NW s = P := by unfold NW; omega
  rw [hP, Int.toNat_natCast]
  refine Ev.iff_pos (by omega) (Ev.iff_pos (by omega) (Ev.iff_pos (by omega) ?_))
  have hrun := greedy_run (r := r) hs hN (by omega) (by omega) (P + 1) (List.replicate P false) [] (by simp) (by omega) (by simp) List.nodup_nil (by simp)
  rw [ordL_asc (l := []) List.Pairwise.nil] at hrun
  have := greedy_l0 hs hN hr.1 hr.2 (by omega) _ hrun P 0 (by omega)
  rw [lfN_zero, mix_zero] at this
  have e : (List.range P).map (fun _ => (0 : Int)) = List.replicate P 0 := by
    rw [List.eq_replicate_iff]
    refine ⟨by simp, fun b hb => ?_⟩
    simp only [List.mem_map] at hb
    obtain ⟨u, _, rfl⟩ := hb
    rfl
  rw [e] at this
  exact this
end Go.Proofs.Ytlfipjdjmpdblaa.Q
