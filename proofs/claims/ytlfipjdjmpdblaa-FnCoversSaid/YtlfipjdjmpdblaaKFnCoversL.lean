/- What the law FnCovers needs, part 12: words, walks of functions (each says that a call returns what the plain Lean function beside it says), plain lemmas. -/
import Derived.Test.YtlfipjdjmpdblaaKFnCoversK
import Derived.OpenShut
set_option linter.unusedVariables false
namespace Go.Proofs.Ytlfipjdjmpdblaa.Q
open Go.RowKit Go.Proofs.Ytlfipjdjmpdblaa.P Go.Proofs.YtlfipjdjmpdblaaW.PrintWords CC
theorem Ev.iff_pos {α : Type} {c : Prop} [Decidable c] {A B : Nat → Option α} {r : α} (h : c) (k : Ev A r) : Ev (fun n => if c then A n else B n) r := by
  simpa [h] using k
theorem Ev.iff_neg {α : Type} {c : Prop} [Decidable c] {A B : Nat → Option α} {r : α} (h : ¬ c) (k : Ev B r) : Ev (fun n => if c then A n else B n) r := by
  simpa [h] using k
theorem Ev.bindc {α β : Type} {g : Option α} {f : Nat → α → Option β} {a : α} {r : β} (h : g = some a) (k : Ev (fun n => f n a) r) : Ev (fun n => g.bind (f n)) r := by
  simpa [h] using k
theorem wrap_nat {n : Nat} (h : n < maxLen) : wrap64 ((n : Int) + 1) = ((n + 1 : Nat) : Int) := by
  unfold maxLen at h
  unfold wrap64
  omega
theorem rd_nat (s : List Int) (n : Nat) : rd s (n : Int) = s.getD n 0 := by simp [rd]
theorem drop_cons (s : List Int) {n : Nat} (h : n < s.length) : s.drop n = rd s (n : Int) :: s.drop (n + 1) := by
  rw [List.drop_eq_getElem_cons h, rd_nat]
  simp [List.getD_eq_getElem?_getD, h]
theorem drop_all {s : List Int} {n : Nat} (h : s.length ≤ n) : s.drop n = [] := List.drop_eq_nil_of_le h
theorem l01In_eq (a b c : Int) : spec_l01In.f a b c = some (decide (b ≤ a ∧ a ≤ c)) := by
  unfold spec_l01In.f
  by_cases h : a ≥ b
  · rw [if_pos h]
    simp [show b ≤ a from h]
  · rw [if_neg h]
    simp
    omega
theorem l01N_l (s : List Int) (hs : s.length < maxLen) : ∀ (d n : Nat) (x : Int), n + d = s.length → Ev (fun k => spec_l01N.l0 k x (n : Int) s) (prw x (s.drop n))
  | 0, n, x, hd => by
    refine Ev.step (f := fun _ => some x) (fun k => ?_) ?_
    · simp only [spec_l01N.l0]
      rw [if_neg (by omega)]
    · rw [drop_all (by omega)]
      exact Ev.now x
  | d + 1, n, x, hd => by
    refine Ev.step (f := fun k => spec_l01N.l0 k (wrap64 (x * rd s (n : Int))) ((n + 1 : Nat) : Int) s) (fun k => ?_) ?_
    · simp only [spec_l01N.l0]
      rw [if_pos (by omega), if_pos (by omega), wrap_nat (by omega)]
    · have := l01N_l s hs d (n + 1) (wrap64 (x * rd s (n : Int))) (by omega)
      rw [drop_cons s (by omega)]
      exact this
theorem l01N_ev (s : List Int) (hs : s.length < maxLen) : Ev (fun k => spec_l01N.f k s) (prw 1 s) := by
  unfold spec_l01N.f
  simpa using l01N_l s hs s.length 0 1 (by omega)
theorem l01N_sp {s : List Int} (h : isSp s = true) : Ev (fun k => spec_l01N.f k s) (prd s) := by
  have := l01N_ev s (by have := isSp_len h; unfold maxLen; omega)
  rwa [prw_one (isSp_len h) (isSp_all h)] at this
theorem l01Is_l (s : List Int) (hs : s.length ≤ 8) : ∀ (d n : Nat), n + d = s.length → (s.take n).all sizeOk = true → Ev (fun k => spec_l01Is.l0 k (n : Int) s) (s.all sizeOk && decide (prd s ≤ 1024))
  | 0, n, hd, ht => by
    rw [List.take_of_length_le (by omega)] at ht
    refine Ev.step (f := fun k => (spec_l01N.f k s).bind fun t109 => (some (decide (t109 ≤ 1024)))) (fun k => ?_) ?_
    · simp only [spec_l01Is.l0]
      rw [if_neg (by omega)]
    · have := l01N_ev s (by unfold maxLen; omega)
      rw [prw_one hs ht] at this
      refine Ev.bind this ?_
      rw [ht, Bool.true_and]
      exact Ev.now _
  | d + 1, n, hd, ht => by
    have hn : n < s.length := by omega
    have hal : s.all sizeOk = ((s.take n).all sizeOk && (sizeOk (rd s (n : Int)) && (s.drop (n + 1)).all sizeOk)) := by
      conv => lhs; rw [← List.take_append_drop n s, List.all_append, drop_cons s hn, List.all_cons]
    by_cases hq : sizeOk (rd s (n : Int)) = true
    · refine Ev.step (f := fun k => spec_l01Is.l0 k ((n + 1 : Nat) : Int) s) (fun k => ?_) (l01Is_l s hs d (n + 1) (by omega) ?_)
      · have hq' := (sizeOk_iff _).1 hq
        simp only [spec_l01Is.l0]
        rw [if_pos (by omega), if_pos (by omega), l01In_eq, Option.bind_some, wrap_nat (by unfold maxLen; omega), if_pos (by simp; omega)]
      · rw [List.take_add_one, List.all_append, ht]
        rw [rd_nat] at hq
        simp only [List.getD_eq_getElem?_getD, List.getElem?_eq_getElem hn, Option.getD_some] at hq
        simp [List.getElem?_eq_getElem hn, hq]
    · refine Ev.step (f := fun _ => some false) (fun k => ?_) ?_
      · have hq' : ¬ (rd s (n : Int) = 2 ∨ rd s (n : Int) = 3 ∨ rd s (n : Int) = 4) := fun z => hq ((sizeOk_iff _).2 z)
        simp only [spec_l01Is.l0]
        rw [if_pos (by omega), if_pos (by omega), l01In_eq, Option.bind_some, if_neg (by simp; omega)]
      · rw [hal, ht]
        simp only [Bool.not_eq_true] at hq
        rw [hq]
        exact Ev.now false
theorem l01Is_ev (s : List Int) : Ev (fun k => spec_l01Is.f k s) (isSp s) := by
  unfold spec_l01Is.f
  refine Ev.bindc (l01In_eq _ _ _) ?_
  by_cases h : 1 ≤ s.length ∧ s.length ≤ 8
  · refine Ev.iff_pos (by simp; omega) ?_
    have := l01Is_l s h.2 s.length 0 (by omega) (by simp)
    unfold isSp
    simpa [h.1, h.2] using this
  · refine Ev.iff_neg (by simp; omega) ?_
    have : isSp s = false := by
      unfold isSp
      rcases Nat.lt_or_ge s.length 1 with h1 | h1
      · have : ¬ 1 ≤ s.length := by omega
        simp [this]
      · have : ¬ s.length ≤ 8 := by omega
        simp [this]
    rw [this]
    exact Ev.now false
theorem isSpace_l (s : List Int) (hs : s.length ≤ 8) : ∀ (d n : Nat) (x : Int), n + d = s.length → (s.take n).all sizeOk = true → 0 ≤ x → x ≤ 4 ^ n → Ev (fun k => impl_IsSpace.l0 k x s (s.length : Int) (n : Int)) ((s.drop n).all sizeOk && decide (x * prd (s.drop n) ≤ 1024))
  | 0, n, x, hd, ht, h0, hx => by
    refine Ev.step (f := fun _ => some (decide (x ≤ 1024))) (fun k => ?_) ?_
    · simp only [impl_IsSpace.l0]
      rw [if_neg (by omega)]
    · rw [drop_all (by omega)]
      simpa [prd] using Ev.now (decide (x ≤ 1024))
  | d + 1, n, x, hd, ht, h0, hx => by
    have hn : n < s.length := by omega
    rw [drop_cons s hn]
    by_cases hq : sizeOk (rd s (n : Int)) = true
    · have hq' := (sizeOk_iff _).1 hq
      have hb := pow48 (m := n + 1) (by omega)
      have hx2 : x * rd s (n : Int) ≤ 4 ^ (n + 1) := by
        rw [Int.pow_succ]
        rcases hq' with e | e | e <;> rw [e] <;> omega
      have hx0 : 0 ≤ x * rd s (n : Int) := by rcases hq' with e | e | e <;> rw [e] <;> omega
      refine Ev.step (f := fun k => impl_IsSpace.l0 k (x * rd s (n : Int)) s (s.length : Int) ((n + 1 : Nat) : Int)) (fun k => ?_) ?_
      · simp only [impl_IsSpace.l0]
        rw [if_pos (by omega), if_pos (by omega), if_pos (by omega), if_neg (by omega), if_neg (by omega), wrap_nat (by unfold maxLen; omega), wrap_id (by omega) (by omega)]
      · have := isSpace_l s hs d (n + 1) (x * rd s (n : Int)) (by omega) ?_ hx0 hx2
        · have e : ((rd s (n : Int) :: s.drop (n + 1)).all sizeOk && decide (x * prd (rd s (n : Int) :: s.drop (n + 1)) ≤ 1024)) = ((s.drop (n + 1)).all sizeOk && decide (x * rd s (n : Int) * prd (s.drop (n + 1)) ≤ 1024)) := by rw [List.all_cons, hq, Bool.true_and, prd, ← Int.mul_assoc]
          rw [e]
          exact this
        · rw [List.take_add_one, List.all_append, ht]
          rw [rd_nat] at hq
          simp only [List.getD_eq_getElem?_getD, List.getElem?_eq_getElem hn, Option.getD_some] at hq
          simp [List.getElem?_eq_getElem hn, hq]
    · have hq' : ¬ (rd s (n : Int) = 2 ∨ rd s (n : Int) = 3 ∨ rd s (n : Int) = 4) := fun z => hq ((sizeOk_iff _).2 z)
      simp only [Bool.not_eq_true] at hq
      refine Ev.step (f := fun _ => some false) (fun k => ?_) ?_
      · simp only [impl_IsSpace.l0]
        rw [if_pos (by omega), if_pos (by omega), if_pos (by omega)]
        by_cases h2 : rd s (n : Int) < 2
        · rw [if_pos h2]
        · rw [if_neg h2, if_pos (by omega)]
      · simp only [List.all_cons, hq, Bool.false_and]
        exact Ev.now false
theorem isSpace_ev (s : List Int) : Ev (fun k => impl_IsSpace.f k s) (isSp s) := by
  unfold impl_IsSpace.f
  by_cases h1 : s.length < 1
  · refine Ev.iff_pos (by omega) ?_
    refine Ev.step (f := fun _ => some false) (fun k => by simp [impl_IsSpace.j0]) ?_
    have : isSp s = false := by
      have : ¬ 1 ≤ s.length := by omega
      simp [isSp, this]
    rw [this]
    exact Ev.now false
  · refine Ev.iff_neg (by omega) ?_
    by_cases h2 : s.length ≤ 8
    · refine Ev.step (f := fun k => impl_IsSpace.l0 k 1 s (s.length : Int) ((0 : Nat) : Int)) (fun k => ?_) ?_
      · simp only [impl_IsSpace.j0]
        rw [if_neg (by simp; omega)]
        rfl
      · have := isSpace_l s h2 s.length 0 1 (by omega) (by simp) (by omega) (by simp)
        have e1 : 1 ≤ s.length := by omega
        simpa [isSp, e1, h2] using this
    · refine Ev.step (f := fun _ => some false) (fun k => ?_) ?_
      · simp only [impl_IsSpace.j0]
        rw [if_pos (by simp; omega)]
      · have : isSp s = false := by simp [isSp, h2]
        rw [this]
        exact Ev.now false
theorem count_l (s : List Int) (hs : s.length < maxLen) : ∀ (d n : Nat) (x : Int), n + d = s.length → Ev (fun k => impl_count.l0 k x s (s.length : Int) (n : Int)) (prw x (s.drop n))
  | 0, n, x, hd => by
    refine Ev.step (f := fun _ => some x) (fun k => ?_) ?_
    · simp only [impl_count.l0]
      rw [if_neg (by omega)]
    · rw [drop_all (by omega)]
      exact Ev.now x
  | d + 1, n, x, hd => by
    refine Ev.step (f := fun k => impl_count.l0 k (wrap64 (x * rd s (n : Int))) s (s.length : Int) ((n + 1 : Nat) : Int)) (fun k => ?_) ?_
    · simp only [impl_count.l0]
      rw [if_pos (by omega), if_pos (by omega), if_pos (by omega), wrap_nat (by omega)]
    · have := count_l s hs d (n + 1) (wrap64 (x * rd s (n : Int))) (by omega)
      rw [drop_cons s (by omega)]
      exact this
theorem count_sp {s : List Int} (h : isSp s = true) : Ev (fun k => impl_count.f k s) (prd s) := by
  unfold impl_count.f
  have := count_l s (by have := isSp_len h; unfold maxLen; omega) s.length 0 1 (by omega)
  rw [List.drop_zero, prw_one (isSp_len h) (isSp_all h)] at this
  exact this
end Go.Proofs.Ytlfipjdjmpdblaa.Q
set_option linter.unusedVariables false
set_option linter.unusedSimpArgs false
namespace Go.Proofs.Ytlfipjdjmpdblaa.Q
open Go.RowKit Go.Proofs.Ytlfipjdjmpdblaa.P Go.Proofs.YtlfipjdjmpdblaaW.PrintWords CC
theorem isW_in {s : List Int} (h : isSp s = true) (x : Int) : spec_l01In.f x 0 (wrap64 (prd s - 1)) = some (isW s x) := by
  have h1 := isSp_prd h
  have h2 := isSp_prd1 h
  rw [l01In_eq, wrap_id (by omega) (by omega)]
  unfold isW
  congr 1
  rw [← Bool.decide_and]
  exact decide_eq_decide.2 (by omega)
theorem areWords_l {s c : List Int} (hc : c.length ≤ 1048576) : ∀ (m n : Nat), n + m = c.length →
    Ev (fun k => impl_areWords.l0 k (prd s) c (c.length : Int) (n : Int)) ((c.drop n).all (isW s))
  | 0, n, hm => by
    rw [drop_all (by omega)]
    refine Ev.step (f := fun k => some true) (fun k => ?_) (Ev.now _)
    simp only [impl_areWords.l0]
    rw [if_neg (by omega)]
  | m + 1, n, hm => by
    have hn : n < c.length := by omega
    rw [drop_cons c hn, List.all_cons]
    by_cases h0 : rd c (n : Int) < 0
    · have : isW s (rd c (n : Int)) = false := by simp [isW]; omega
      rw [this, Bool.false_and]
      refine Ev.step (f := fun k => some false) (fun k => ?_) (Ev.now _)
      simp only [impl_areWords.l0]
      rw [if_pos (by omega), if_pos (by omega), if_pos (by omega), if_pos h0]
    by_cases h1 : rd c (n : Int) ≥ prd s
    · have : isW s (rd c (n : Int)) = false := by simp [isW]; omega
      rw [this, Bool.false_and]
      refine Ev.step (f := fun k => some false) (fun k => ?_) (Ev.now _)
      simp only [impl_areWords.l0]
      rw [if_pos (by omega), if_pos (by omega), if_pos (by omega), if_neg h0, if_pos h1]
    · have : isW s (rd c (n : Int)) = true := by simp [isW]; omega
      rw [this, Bool.true_and]
      refine Ev.step (f := fun k => impl_areWords.l0 k (prd s) c (c.length : Int) ((n + 1 : Nat) : Int)) (fun k => ?_) (areWords_l hc m (n + 1) (by omega))
      simp only [impl_areWords.l0]
      rw [if_pos (by omega), if_pos (by omega), if_pos (by omega), if_neg h0, if_neg h1, wrap_nat (by unfold maxLen; omega)]
theorem areWords_ev {s c : List Int} (hs : isSp s = true) (hc : c.length ≤ 1048576) : Ev (fun k => impl_areWords.f k s c) (c.all (isW s)) := by
  unfold impl_areWords.f
  refine Ev.bind (count_sp hs) ?_
  simpa using areWords_l (s := s) hc c.length 0 (by omega)
def rWords (s c : List Int) : Int := if isSp s then if c.all (isW s) then 0 else 2 else 1
theorem rWords_zero {s c : List Int} (h : rWords s c = 0) : isSp s = true ∧ ∀ x ∈ c, isW s x = true := by
  unfold rWords at h
  split at h
  · rename_i hs
    split at h
    · rename_i hc
      exact ⟨hs, List.all_eq_true.1 hc⟩
    · cases h
  · cases h
theorem wordCode_ev (s : List Int) {c : List Int} (hc : c.length ≤ 1048576) : Ev (fun k => impl_wordCode.f k s c) (rWords s c) := by
  unfold impl_wordCode.f rWords
  refine Ev.bind (isSpace_ev s) ?_
  by_cases h : isSp s = true
  · simp only [h, if_true]
    refine Ev.bind (areWords_ev h hc) ?_
    by_cases h2 : c.all (isW s) = true
    · simp only [h2, if_true]
      exact Ev.now _
    · simp only [h2, if_false]
      exact Ev.now _
  · simp only [h, if_false]
    exact Ev.now _
theorem all_rd {s : List Int} (h : s.all sizeOk = true) {n : Nat} (hn : n < s.length) : rd s (n : Int) = 2 ∨ rd s (n : Int) = 3 ∨ rd s (n : Int) = 4 := by
  rw [← sizeOk_iff, rd_nat]
  simp only [List.getD_eq_getElem?_getD, List.getElem?_eq_getElem hn, Option.getD_some]
  exact List.all_eq_true.1 h _ (List.getElem_mem hn)
theorem tmod_pos {x q : Int} (h : 0 ≤ x) : Int.tmod x q = x % q := Int.tmod_eq_emod_of_nonneg h
theorem tdiv_pos {x q : Int} (h : 0 ≤ x) (hq : 0 ≤ q) : Int.tdiv x q = x / q := Int.tdiv_eq_ediv_of_nonneg h
theorem div_bounds {x q : Int} (h0 : 0 ≤ x) (h1 : x ≤ 1024) (hq : q = 2 ∨ q = 3 ∨ q = 4) : 0 ≤ x / q ∧ x / q ≤ 1024 ∧ wrap64 (Int.tdiv x q) = x / q ∧ Int.tmod x q = x % q := by
  have h2 : 0 ≤ x / q ∧ x / q ≤ 1024 := by rcases hq with rfl | rfl | rfl <;> omega
  refine ⟨h2.1, h2.2, ?_, tmod_pos h0⟩
  rw [tdiv_pos h0 (by omega), wrap_id (by omega) (by omega)]
theorem pred_nat (n : Nat) (h : n ≤ 100) : wrap64 (((n : Nat) : Int) - 1) = (n : Int) - 1 := wrap_id (by omega) (by omega)
theorem isW_b {s : List Int} (hs : isSp s = true) {x : Int} (h : isW s x = true) : 0 ≤ x ∧ x ≤ 1024 := by
  have h1 := (isW_iff s x).1 h
  have h2 := isSp_prd hs
  omega
end Go.Proofs.Ytlfipjdjmpdblaa.Q
set_option linter.unusedVariables false
set_option linter.unusedSimpArgs false
namespace Go.Proofs.Ytlfipjdjmpdblaa.P
open Go.RowKit Go.Proofs.YtlfipjdjmpdblaaW.PrintWords Go.Proofs.YtlfipjdjmpdblaaW.PrintLast Go.Proofs.YtlfipjdjmpdblaaW.PrintMore CC
def fq (s C : List Int) (d : List Int) (n : Nat) : Int := (C.take n).foldl (fun a x => mn a (ham d (dig8 s x))) 8
theorem fq_succ (s C d : List Int) {n : Nat} (h : n < C.length) : fq s C d (n + 1) = mn (fq s C d n) (ham d (dig8 s (rd C (n : Int)))) := by
  unfold fq
  rw [take_rdO h, List.foldl_append]
  rfl
def farL (s C : List Int) (P : Nat) : List Int := (List.range P).map fun (u : Nat) => fq s C (dig8 s (u : Int)) C.length
theorem farL_succ (s C : List Int) (P : Nat) : farL s C (P + 1) = farL s C P ++ [fq s C (dig8 s (P : Int)) C.length] := by simp [farL, List.range_succ]
set_option maxHeartbeats 16000000 in
set_option maxRecDepth 100000 in
theorem farness_calls (A : Option Addr) (c : Nat) (s : List Int) (A1 : Option Addr) (c1 : Nat) (C : List Int) (w : World) (hr : Kd.C (Kd.int .i64) w A s.length s) (hc : s.length ≤ c) (hr1 : Kd.C (Kd.int .i64) w A1 C.length C) (hc1 : C.length ≤ c1) (hs : isSp s = true) (hC : C.all (isW s) = true) (hCl : C.length ≤ 1048576) (hCp : 1 ≤ C.length) :
    Calls Try.prog 91 #[.agg #[.slice A s.length c], .slice A1 C.length c1] w
      fun e w' => ∃ v, e = .returned v ∧ Kd.R (Kd.int .i64) 2 w' w.heap.size (fun _ => True) v (farL s C (prd s).toNat) ∧ Below w.heap.size w w' := by
  have huS := Try.underlying26
  have huD := Try.underlying54
  have HR := Aside0.mk hr
  have HR1 := Aside0.mk hr1
  have HS := Aside0.mk hs
  have HC := Aside0.mk hC
  obtain ⟨kc, hcount⟩ := (Q.count_sp hs).rounds
  have HK := Aside0.mk hcount
  have p0 := isSp_prd1 hs
  have p1 := isSp_prd hs
  clear hr hr1 hs hC hcount
  obtain ⟨P, hP⟩ : ∃ P : Nat, prd s = (P : Int) := ⟨(prd s).toNat, by omega⟩
  have hP2 : (prd s).toNat = P := by omega
  have pP : P ≤ 1024 := by omega
  have pP0 : 1 ≤ P := by omega
  have HP := Aside0.mk hP
  have HP2 := Aside0.mk hP2
  rw [hP2]
  rw [hP] at HK
  clear hP hP2 p0 p1
  obtain ⟨i0, hi, hz0, hz1, hz2⟩ := info_parts infoI
  have HI := Aside0.mk (And.intro hi (And.intro hz0 (And.intro hz1 hz2)))
  clear hi hz0 hz1 hz2
  go_enter Try.func91, Try.ntmps91
  have hcell : (w.alloc (.cells #[.slice A s.length c] 26)).heap[w.heap.size]? = some (.cells #[.slice A s.length c] 26 (0, 0)) := blk_new _ _
  have hB : Below w.heap.size w (w.alloc (.cells #[.slice A s.length c] 26)) := (Below.refl _ _).alloc (Nat.le_refl _) _
  have hcz : (w.alloc (.cells #[.slice A s.length c] 26)).cell? ⟨w.heap.size, 0, none⟩ = some (.slice A s.length c) := blk_cell hcell 0
  go_wp2_with fail
  refine (digitsOfAll_calls A c s A1 c1 C _ (Kd.C_below HR.out hB) hc (Kd.C_below HR1.out hB) hc1 HS.out HC.out hCl).mono ?_
  rintro e w1 ⟨v1, rfl, hO, hb⟩
  obtain ⟨g, cap, rfl, hcap⟩ : ∃ g cap, v1 = .slice (some ⟨g, 0, none⟩) C.length cap ∧ C.length ≤ cap := by
    rcases hO.2 with ⟨_, h⟩ | ⟨g, cap, _, h, _, _, h2, _⟩
    · omega
    · exact ⟨g, cap, h, h2⟩
  have HCAP := Aside0.mk hcap
  have hz1 := hB.size
  have K1 := Aside0.mk (blk_below hcell hb)
  have B1 := Aside0.mk (below_then hB hB.size hb)
  have O1 := Aside0.mk (own_weaken hO hz1)
  clear hcell hB hO hb hcap hcz hz1
  have hcz : (w1.alloc (.cells #[] 2)).cell? ⟨w.heap.size, 0, none⟩ = some (.slice A s.length c) := blk_cell (blk_alloc K1.out _) 0
  go_wp2_with fail
  have hB1 := below_alloc B1.out (.cells #[] 2)
  refine (allDigits_calls A c s _ (Kd.C_below HR.out hB1) hc HS.out kc (by rw [HP.out]; exact HK.out)).mono ?_
  rintro e w2 ⟨v2, rfl, hD, hb⟩
  rw [HP2.out] at hD
  obtain ⟨ga, capa, rfl, hcapa⟩ : ∃ g cap, v2 = .slice (some ⟨g, 0, none⟩) P cap ∧ P ≤ cap := by
    rcases hD.2 with ⟨_, h⟩ | ⟨g, cap, _, h, _, _, h2, _⟩
    · omega
    · exact ⟨g, cap, h, h2⟩
  have HCAPA := Aside0.mk hcapa
  have hs1 := B1.out.size
  have hOut : (w1.alloc (.cells #[] 2)).ownsRow w.heap.size 2 1 (.slice (some ⟨w1.heap.size, 0, none⟩) 0 0) 0 (nums .i64 (farL s C 0)) :=
    ⟨rfl, .inr ⟨w1.heap.size, 0, #[], rfl, by omega, blk_new w1 (.cells #[] 2), by omega, by unfold maxLen; omega, rfl, rfl⟩⟩
  have HO2 := Aside0.mk (pw_own_below hOut hb)
  have HL2 := Aside0.mk (pw_own_below (own_alloc O1.out _) hb)
  have HD2 := Aside0.mk (own_weaken hD hB1.size)
  have HB2 := Aside0.mk (below_then hB1 hB1.size hb)
  clear hB1 hD hb hcapa hOut hcz hs1 K1 B1 O1
  go_wp2_with fail
  go_loopw [6, 19] (fun v i W => ∃ (m : Nat) (vo : Value), m ≤ P ∧ vo = v ∧ i = .int .i64 m ∧ Aside0 (W.ownsRow w.heap.size 2 1 v m (nums .i64 (farL s C m))) ∧ Aside0 (W.ownsRow w.heap.size 54 8 (.slice (some ⟨g, 0, none⟩) C.length cap) C.length (flat8 (allOf s C C.length))) ∧ Aside0 (W.ownsRow w.heap.size 54 8 (.slice (some ⟨ga, 0, none⟩) P capa) P (flat8 (all8 s P))) ∧ Aside0 (Below w.heap.size w W)) (fun _ i _ => P - (intOf i).toNat)
  case atStart => exact ⟨0, _, by omega, rfl, rfl, HO2, HL2, HD2, HB2⟩
  case round =>
    clear HO2 HL2 HD2 HB2
    obtain ⟨m, vo, hm, rfl, rfl, HO, HL, HD, HB⟩ := hrel
    by_cases hmP : m < P
    · obtain ⟨y0, y1, y2, y3, y4, y5, y6, y7, hye⟩ := eight (dig8_length s (m : Int))
      obtain ⟨k0, k1, k2, k3, k4, k5, k6, k7⟩ := row8 HD.out hmP hye
      have HYE := Aside0.mk hye
      clear hye
      go_wp2_with fail
      have HO1 := Aside0.mk (own_alloc HO.out (.cells #[.int .u8 y0, .int .u8 y1, .int .u8 y2, .int .u8 y3, .int .u8 y4, .int .u8 y5, .int .u8 y6, .int .u8 y7] 54))
      have HL1 := Aside0.mk (own_alloc HL.out (.cells #[.int .u8 y0, .int .u8 y1, .int .u8 y2, .int .u8 y3, .int .u8 y4, .int .u8 y5, .int .u8 y6, .int .u8 y7] 54))
      have HD1 := Aside0.mk (own_alloc HD.out (.cells #[.int .u8 y0, .int .u8 y1, .int .u8 y2, .int .u8 y3, .int .u8 y4, .int .u8 y5, .int .u8 y6, .int .u8 y7] 54))
      have HB1 := Aside0.mk (below_alloc HB.out (.cells #[.int .u8 y0, .int .u8 y1, .int .u8 y2, .int .u8 y3, .int .u8 y4, .int .u8 y5, .int .u8 y6, .int .u8 y7] 54))
      have HY1 := Aside0.mk (blk_new wr (.cells #[.int .u8 y0, .int .u8 y1, .int .u8 y2, .int .u8 y3, .int .u8 y4, .int .u8 y5, .int .u8 y6, .int .u8 y7] 54))
      clear k0 k1 k2 k3 k4 k5 k6 k7 HO HL HD HB
      generalize wr.alloc (.cells #[.int .u8 y0, .int .u8 y1, .int .u8 y2, .int .u8 y3, .int .u8 y4, .int .u8 y5, .int .u8 y6, .int .u8 y7] 54) = W1 at *
      generalize wr.heap.size = gd at *
      go_loopw [9, 25] (fun a i W => ∃ (n : Nat) (z : Int), n ≤ C.length ∧ i = .int .i64 n ∧ a = .int .i64 z ∧ Aside0 (z = fq s C [y0, y1, y2, y3, y4, y5, y6, y7] n) ∧ Aside0 (W.ownsRow w.heap.size 2 1 vo m (nums .i64 (farL s C m))) ∧ Aside0 (W.ownsRow w.heap.size 54 8 (.slice (some ⟨g, 0, none⟩) C.length cap) C.length (flat8 (allOf s C C.length))) ∧ Aside0 (W.ownsRow w.heap.size 54 8 (.slice (some ⟨ga, 0, none⟩) P capa) P (flat8 (all8 s P))) ∧ Aside0 (W.heap[gd]? = some (.cells #[.int .u8 y0, .int .u8 y1, .int .u8 y2, .int .u8 y3, .int .u8 y4, .int .u8 y5, .int .u8 y6, .int .u8 y7] 54 (0, 0))) ∧ Aside0 (Below w.heap.size w W)) (fun _ i _ => C.length - (intOf i).toNat)
      case atStart => exact ⟨0, 8, by omega, rfl, rfl, ⟨rfl⟩, HO1, HL1, HD1, HY1, HB1⟩
      case round =>
        clear HO1 HL1 HD1 HB1 HY1
        obtain ⟨n, z, hn, rfl, rfl, HZ, HO, HL, HD, HY, HB⟩ := hrel
        by_cases hlt : n < C.length
        · obtain ⟨x0, x1, x2, x3, x4, x5, x6, x7, hxe⟩ := eight (dig8_length s (rd C (n : Int)))
          have hge := allOf_get s C hlt
          rw [hxe] at hge
          obtain ⟨k0, k1, k2, k3, k4, k5, k6, k7⟩ := row8g HL.out (allOf_len s C _) hge
          have HQ : Aside0 (fq s C [y0, y1, y2, y3, y4, y5, y6, y7] (n + 1) = mn z (ham [y0, y1, y2, y3, y4, y5, y6, y7] [x0, x1, x2, x3, x4, x5, x6, x7])) := ⟨by rw [fq_succ s C _ hlt, hxe, HZ.out]⟩
          clear hge hxe
          have hY2 := blk_alloc HY.out (.cells #[.int .u8 x0, .int .u8 x1, .int .u8 x2, .int .u8 x3, .int .u8 x4, .int .u8 x5, .int .u8 x6, .int .u8 x7] 54)
          have h0 := blk_cell hY2 0
          have h1 := blk_cell hY2 1
          have h2 := blk_cell hY2 2
          have h3 := blk_cell hY2 3
          have h4 := blk_cell hY2 4
          have h5 := blk_cell hY2 5
          have h6 := blk_cell hY2 6
          have h7 := blk_cell hY2 7
          clear hY2
          go_wp2_with fail
          refine (far_calls8 y0 y1 y2 y3 y4 y5 y6 y7 x0 x1 x2 x3 x4 x5 x6 x7 _).mono ?_
          rintro e w3 ⟨rfl, hb⟩
          have HO3 := Aside0.mk (pw_own_below (own_alloc HO.out (.cells #[.int .u8 x0, .int .u8 x1, .int .u8 x2, .int .u8 x3, .int .u8 x4, .int .u8 x5, .int .u8 x6, .int .u8 x7] 54)) hb)
          have HL3 := Aside0.mk (pw_own_below (own_alloc HL.out (.cells #[.int .u8 x0, .int .u8 x1, .int .u8 x2, .int .u8 x3, .int .u8 x4, .int .u8 x5, .int .u8 x6, .int .u8 x7] 54)) hb)
          have HD3 := Aside0.mk (pw_own_below (own_alloc HD.out (.cells #[.int .u8 x0, .int .u8 x1, .int .u8 x2, .int .u8 x3, .int .u8 x4, .int .u8 x5, .int .u8 x6, .int .u8 x7] 54)) hb)
          have HY3 := Aside0.mk (blk_below (blk_alloc HY.out (.cells #[.int .u8 x0, .int .u8 x1, .int .u8 x2, .int .u8 x3, .int .u8 x4, .int .u8 x5, .int .u8 x6, .int .u8 x7] 54)) hb)
          have hB2 := below_alloc HB.out (.cells #[.int .u8 x0, .int .u8 x1, .int .u8 x2, .int .u8 x3, .int .u8 x4, .int .u8 x5, .int .u8 x6, .int .u8 x7] 54)
          have HB3 := Aside0.mk (below_then hB2 hB2.size hb)
          clear k0 k1 k2 k3 k4 k5 k6 k7 h0 h1 h2 h3 h4 h5 h6 h7 HO HL HD HY HB hB2 hb
          go_wp2
          go_roundw
          case rel => exact ⟨n + 1, mn z (ham [y0, y1, y2, y3, y4, y5, y6, y7] [x0, x1, x2, x3, x4, x5, x6, x7]), by omega, by go_num, rfl, ⟨HQ.out.symm⟩, HO3, HL3, HD3, HY3, HB3⟩
          case measure => simp [intOf]; omega
        · have hn2 : n = C.length := by omega
          subst hn2
          have HQ : Aside0 (farL s C (m + 1) = farL s C m ++ [z]) := ⟨by rw [farL_succ, HYE.out, HZ.out]⟩
          clear HZ HY
          have hcapL := HCAP.out
          go_wp2_with (at_builtin; obtain ⟨hi, hz0, hz1, hz2⟩ := HI.out; refine wpList_append_own _ rfl _ _ 24 rfl w.heap.size 2 i0 (.int .i64 0) 1 8 Try.underlying24 hi hz0 hz1 hz2 rfl (by decide) _ m (nums .i64 (farL s C m)) rfl (HO.out.alloc _) ⟨wr.heap.size, 0, none⟩ 1 1 [.int .i64 z] rfl ?c0 ?c1 ?c2 ?c3 ?c4 ?c5 ?_; clear hi hz0 hz1 hz2)
          case c0 => rfl
          case c1 =>
            intro j u hj
            have hb := blk_cell (blk_new wr (.cells #[.int .i64 z] 2)) j
            rw [add_plain, hb]
            simpa using hj
          case c2 => intro u hu; simp only [List.mem_cons, List.not_mem_nil, or_false] at hu; rcases hu with rfl; rfl
          case c3 => unfold maxLen; omega
          case c4 => omega
          case c5 => have := HB.out.size; simp; omega
          intro v' w3 O3 G3 _
          have O4 : Aside0 (w3.ownsRow w.heap.size 2 1 v' (m + 1) (nums .i64 (farL s C (m + 1)))) := ⟨by rw [HQ.out, nums_append]; exact O3⟩
          have HL3 := Aside0.mk (own_other (own_alloc HL.out _) G3 (own_type_ne HL.out HO.out (by decide)))
          have HD3 := Aside0.mk (own_other (own_alloc HD.out _) G3 (own_type_ne HD.out HO.out (by decide)))
          have B3 := Aside0.mk (pw_below_grown (below_alloc HB.out _) _ (by have := HB.out.size; simp; omega) G3 (fun k hk => own_base HO.out k hk))
          clear O3 G3 HO HL HD HB
          go_wp2
          go_roundw
          case rel => exact ⟨m + 1, _, by omega, rfl, by go_num, O4, HL3, HD3, B3⟩
          case measure => simp [intOf]; omega
    · go_wp2
      go_ret
      have hm2 : m = P := by omega
      subst hm2
      refine ⟨_, rfl, ?_, HB.out⟩
      exact Kd.R_of_own (by rw [farL, List.length_map, List.length_range]; exact HO.out) (fun _ _ => trivial)
def impl_farness.f (l0_0 l1 : List Int) : Option (List Int) := if isSp l0_0 = true ∧ l1.all (isW l0_0) = true ∧ 1 ≤ l1.length ∧ l1.length ≤ 1048576 then some (farL l0_0 l1 (prd l0_0).toNat) else none
theorem impl_farness.calls (A0_0 : Option Addr) (c0_0 : Nat) (l0_0 : List Int) (A1 : Option Addr) (c1 : Nat) (l1 : List Int) (r : List Int) (w : World) (hr0_0 : Kd.C (Kd.int .i64) w A0_0 l0_0.length l0_0) (hc0_0 : l0_0.length ≤ c0_0) (hr1 : Kd.C (Kd.int .i64) w A1 l1.length l1) (hc1 : l1.length ≤ c1) (h : impl_farness.f l0_0 l1 = some r) :
    Calls Try.prog 91 #[.agg #[.slice A0_0 l0_0.length c0_0], .slice A1 l1.length c1] w fun e w' => ∃ v0_ : Value, e = .returned (v0_) ∧ Kd.R (Kd.int .i64) 2 w' w.heap.size (fun _ => True) v0_ r ∧ Below w.heap.size w w' := by
  unfold impl_farness.f at h
  split at h
  · rename_i hc
    obtain rfl := Option.some.inj h
    exact farness_calls A0_0 c0_0 l0_0 A1 c1 l1 w hr0_0 hc0_0 hr1 hc1 hc.1 hc.2.1 hc.2.2.2 hc.2.2.1
  · cases h
def mix (f g : Nat → Int) (P m : Nat) : List Int := (List.range P).map fun u => if u < m then f u else g u
theorem mix_length (f g : Nat → Int) (P m : Nat) : (mix f g P m).length = P := by simp [mix]
theorem mix_zero (f g : Nat → Int) (P : Nat) : mix f g P 0 = (List.range P).map g := by simp [mix]
theorem mix_all (f g : Nat → Int) (P : Nat) : mix f g P P = (List.range P).map f := by
  unfold mix
  apply List.map_congr_left
  intro u hu
  rw [if_pos (List.mem_range.1 hu)]
theorem mix_set (f g : Nat → Int) {P m : Nat} (h : m < P) : (mix f g P m).set m (f m) = mix f g P (m + 1) := by
  apply List.ext_getElem?
  intro k
  by_cases hk : k = m
  · subst hk
    rw [List.getElem?_set_self (by rw [mix_length]; exact h)]
    simp [mix, h]
  · rw [List.getElem?_set_ne (fun e => hk e.symm)]
    simp only [mix, List.getElem?_map]
    by_cases hp : k < P
    · simp only [List.getElem?_range hp, Option.map_some, Option.some.injEq]
      by_cases h1 : k < m
      · rw [if_pos h1, if_pos (by omega)]
      · rw [if_neg h1, if_neg (by omega)]
    · rw [List.getElem?_eq_none (by simp; omega)]
      rfl
theorem mix_skip (f g : Nat → Int) {P m : Nat} (h : m < P) (e : f m = g m) : mix f g P m = mix f g P (m + 1) := by
  unfold mix
  apply List.map_congr_left
  intro u hu
  by_cases h1 : u < m
  · rw [if_pos h1, if_pos (by omega)]
  · by_cases h2 : u = m
    · subst h2
      rw [if_neg h1, if_pos (by omega), e]
    · rw [if_neg h1, if_neg (by omega)]
theorem mix_rd (f g : Nat → Int) {P m : Nat} (h : m < P) : rd (mix f g P m) (m : Int) = g m := by
  simp [rd, mix, List.getD_eq_getElem?_getD, h]
def tm (s c : List Int) (r : Int) (n u : Nat) : Int := (((c.take n).countP fun w => decide (ham (dig8 s w) (dig8 s (u : Int)) ≤ r) : Nat) : Int)
theorem tm_nonneg (s c : List Int) (r : Int) (n u : Nat) : 0 ≤ tm s c r n u := by unfold tm; omega
theorem tm_le (s c : List Int) (r : Int) (n u : Nat) : tm s c r n u ≤ n := by
  unfold tm
  have h1 := List.countP_le_length (p := fun w => decide (ham (dig8 s w) (dig8 s (u : Int)) ≤ r)) (l := c.take n)
  have h2 : (c.take n).length ≤ n := List.length_take_le _ _
  omega
theorem tm_succ (s c : List Int) (r : Int) {n : Nat} (h : n < c.length) (u : Nat) : tm s c r (n + 1) u = tm s c r n u + if ham (dig8 s (rd c (n : Int))) (dig8 s (u : Int)) ≤ r then 1 else 0 := by
  unfold tm
  rw [take_rd8 h, List.countP_append]
  by_cases hh : ham (dig8 s (rd c (n : Int))) (dig8 s (u : Int)) ≤ r
  · simp [hh]
  · simp [hh]
theorem own_type_ne' {w : World} {b b' : Nat} {e e' : TypeId} {s s' n n' g : Nat} {v : Value} {len cap : Nat} {xs xs' : List Value} (h : w.ownsRow b e s v n xs) (h' : w.ownsRow b' e' s' (.slice (some ⟨g, 0, none⟩) len cap) n' xs') (hne : e ≠ e') : v.ownBlock = none ∨ v.ownBlock ≠ some g := own_type_ne h h' hne
def timesL (s c : List Int) (r : Int) : List Int := (List.range (prd s).toNat).map fun u => tm s c r c.length u
theorem code_rd {s c : List Int} (hc : c.all (isW s) = true) {n : Nat} (h : n < c.length) : 0 ≤ rd c (n : Int) ∧ rd c (n : Int) < prd s := by
  have : rd c (n : Int) = c[n] := by simp [rd, List.getD_eq_getElem?_getD, h]
  rw [this, ← isW_iff]
  exact List.all_eq_true.1 hc _ (List.getElem_mem h)
set_option maxHeartbeats 16000000 in
set_option maxRecDepth 100000 in
theorem times_calls (A : Option Addr) (c : Nat) (s : List Int) (A1 : Option Addr) (c1 : Nat) (C : List Int) (r : Int) (w : World) (hr : Kd.C (Kd.int .i64) w A s.length s) (hc : s.length ≤ c) (hr1 : Kd.C (Kd.int .i64) w A1 C.length C) (hc1 : C.length ≤ c1) (hs : isSp s = true) (hC : C.all (isW s) = true) (hCl : C.length ≤ 1048576) :
    Calls Try.prog 100 #[.agg #[.slice A s.length c], .slice A1 C.length c1, .int .i64 r] w
      fun e w' => ∃ v, e = .returned v ∧ Kd.R (Kd.int .i64) 2 w' w.heap.size (fun _ => True) v (timesL s C r) ∧ Below w.heap.size w w' := by
  have huS := Try.underlying26
  have huD := Try.underlying54
  have HR := Aside0.mk hr
  have HR1 := Aside0.mk hr1
  have HS := Aside0.mk hs
  have HC := Aside0.mk hC
  obtain ⟨kc, hcount⟩ := (Q.count_sp hs).rounds
  have HK := Aside0.mk hcount
  have p0 := isSp_prd1 hs
  have p1 := isSp_prd hs
  clear hr hr1 hs hC hcount
  obtain ⟨P, hP⟩ : ∃ P : Nat, prd s = (P : Int) := ⟨(prd s).toNat, by omega⟩
  have hP2 : (prd s).toNat = P := by omega
  have pP : P ≤ 1024 := by omega
  have pP0 : 1 ≤ P := by omega
  have HP := Aside0.mk hP
  have HP2 := Aside0.mk hP2
  have HT : Aside0 (timesL s C r = (List.range P).map fun u => tm s C r C.length u) := ⟨by unfold timesL; rw [hP2]⟩
  rw [hP] at HK
  clear hP hP2 p0 p1
  generalize timesL s C r = R at *
  go_enter Try.func100, Try.ntmps100
  have hcell : (w.alloc (.cells #[.slice A s.length c] 26)).cell? ⟨w.heap.size, 0, none⟩ = some (.slice A s.length c) := blk_cell (blk_new _ _) 0
  have hB : Below w.heap.size w (w.alloc (.cells #[.slice A s.length c] 26)) := (Below.refl _ _).alloc (Nat.le_refl _) _
  have hmk := print_make_int (P := Try.prog) 24 2 (.int .i64 0) 8 Try.underlying24 infoI rfl (by decide) (P : Int) (by omega) (by omega)
  rw [Int.toNat_natCast] at hmk
  go_upto_region 1 with (fail)
  go_cut [7, 8] (fun v7 v8 W => ∃ g cap g8, v7 = .slice (some ⟨g, 0, none⟩) P cap ∧ v8 = .slice (some ⟨g8, 0, none⟩) P P ∧ Aside0 (P ≤ cap) ∧ Aside0 (W.ownsRow w.heap.size 54 8 (.slice (some ⟨g, 0, none⟩) P cap) P (flat8 (all8 s P))) ∧ Aside0 (W.ownsRow w.heap.size 2 1 (.slice (some ⟨g8, 0, none⟩) P P) P (nums .i64 ((List.range P).map fun u => tm s C r 0 u))) ∧ Aside0 (Below w.heap.size w W))
  case first =>
    go_region_held3 (fun w' => w'.cell? ⟨w.heap.size, 0, none⟩ = some (.slice A s.length c) ∧ Below w.heap.size w w') (first | exact ⟨hcell, below_drew hB⟩ | exact keepS hb (by assumption) | (refine keepS ((Below.refl _ _).alloc (Nat.le_refl _) _) ?_; assumption))
      (first
        | (go_at_call 99; refine (allDigits_calls A c s _ ?k1 hc HS.out kc ?k2).mono ?_; (case k1 => exact Kd.C_below HR.out (by first | assumption | exact (by assumption : _ ∧ Below _ _ _).2)); (case k2 => rw [HP.out]; exact HK.out); rintro e w' ⟨v1, rfl, hO, hb⟩; have hz1 := hb.size)
        | (go_at_call 124; refine (impl_count.calls kc A c s P _ ?k1 hc HK.out).mono ?_; (case k1 => exact Kd.C_below HR.out (by first | assumption | exact (by assumption : _ ∧ Below _ _ _).2)); rintro e w' ⟨rfl, hb⟩; have hz2 := hb.size))
    all_goals go_wp2
    all_goals go_meet
    case rel =>
      rw [HP2.out] at hO
      obtain ⟨g, cap, rfl, hcap⟩ : ∃ g cap, v1 = .slice (some ⟨g, 0, none⟩) P cap ∧ P ≤ cap := by
        rcases hO.2 with ⟨_, h⟩ | ⟨g, cap, _, h, _, _, h2, _⟩
        · omega
        · exact ⟨g, cap, h, h2⟩
      have hBB := (by assumption : _ ∧ Below w.heap.size w (w'.alloc (.cells (madeCells #[.int .i64 0] P) 2))).2
      have hz : (List.range P).map (fun u => tm s C r 0 u) = List.replicate P 0 := by
        rw [List.eq_replicate_iff]
        refine ⟨by simp, fun b hb => ?_⟩
        simp only [List.mem_map] at hb
        obtain ⟨u, _, rfl⟩ := hb
        simp [tm]
      have hm := own_made' w' w.heap.size 2 .i64 P (by simp at hz1; omega) (by omega)
      rw [List.length_replicate, ← hz] at hm
      exact ⟨g, cap, w'.heap.size, rfl, rfl, ⟨hcap⟩, ⟨own_weaken (own_alloc (pw_own_below hO hb) _) (by first | (simp; done) | (simp; omega))⟩, ⟨hm⟩, ⟨hBB⟩⟩
  case rest =>
    obtain ⟨g, cap, g8, rfl, rfl, HCAP, HD, HO, HB⟩ := hcut
    clear hcell hB hmk
    have HO := Aside0.mk HO.out
    go_wp2_with fail
    go_loopw [20] (fun i W => ∃ (n : Nat), n ≤ C.length ∧ i = .int .i64 n ∧ Aside0 (W.ownsRow w.heap.size 54 8 (.slice (some ⟨g, 0, none⟩) P cap) P (flat8 (all8 s P))) ∧ Aside0 (W.ownsRow w.heap.size 2 1 (.slice (some ⟨g8, 0, none⟩) P P) P (nums .i64 ((List.range P).map fun u => tm s C r n u))) ∧ Aside0 (Below w.heap.size w W)) (fun i _ => C.length - (intOf i).toNat)
    case atStart => exact ⟨0, by omega, rfl, HD, HO, HB⟩
    case round =>
      clear HD HO HB
      obtain ⟨n, hn, rfl, HD, HO, HB⟩ := hrel
      obtain ⟨wo, rfl⟩ : ∃ wo : World, wo = wr := ⟨_, rfl⟩
      by_cases hlt : n < C.length
      · obtain ⟨ad1, e1, _⟩ := Kd.at_int HR1.out (n : Int) (by omega) (by omega)
        subst e1
        have hx := rd_cell HR1.out HB.out n hlt
        obtain ⟨c0, c1'⟩ := code_rd HC.out hlt
        rw [HP.out] at c1'
        obtain ⟨wn, hwn⟩ : ∃ wn : Nat, rd C (n : Int) = (wn : Int) := ⟨(rd C (n : Int)).toNat, by omega⟩
        rw [hwn] at hx c1'
        have hwP : wn < P := by omega
        have HW := Aside0.mk hwn
        have HTS : Aside0 (∀ u, tm s C r (n + 1) u = tm s C r n u + if ham (dig8 s (wn : Int)) (dig8 s (u : Int)) ≤ r then 1 else 0) := ⟨fun u => by rw [tm_succ s C r hlt u, hwn]⟩
        clear c0 c1' hwn
        obtain ⟨x0, x1, x2, x3, x4, x5, x6, x7, hxe⟩ := eight (dig8_length s (wn : Int))
        have HXE := Aside0.mk hxe
        clear hxe
        go_wp2_with fail
        go_loopw [26] (fun i W => ∃ (m : Nat), m ≤ P ∧ i = .int .i64 m ∧ Aside0 (W.ownsRow w.heap.size 54 8 (.slice (some ⟨g, 0, none⟩) P cap) P (flat8 (all8 s P))) ∧ Aside0 (W.ownsRow w.heap.size 2 1 (.slice (some ⟨g8, 0, none⟩) P P) P (nums .i64 (mix (tm s C r (n + 1)) (tm s C r n) P m))) ∧ Aside0 (Below w.heap.size w W)) (fun i _ => P - (intOf i).toNat)
        case atStart => exact ⟨0, by omega, rfl, HD, ⟨by rw [mix_zero]; exact HO.out⟩, HB⟩
        case round =>
          clear HD HO HB hx
          obtain ⟨m, hm, rfl, HD, HO, HB⟩ := hrel
          by_cases hmP : m < P
          · obtain ⟨y0, y1, y2, y3, y4, y5, y6, y7, hye⟩ := eight (dig8_length s (m : Int))
            obtain ⟨k0, k1, k2, k3, k4, k5, k6, k7⟩ := row8 HD.out hmP hye
            have HT1 := Aside0.mk (HTS.out m)
            rw [HXE.out, hye] at HT1
            have hMS := mix_set (tm s C r (n + 1)) (tm s C r n) hmP
            have hMR := mix_rd (tm s C r (n + 1)) (tm s C r n) hmP
            have hMK := fun e => mix_skip (tm s C r (n + 1)) (tm s C r n) hmP e
            have hv0 := tm_nonneg s C r n m
            have hv1 := tm_le s C r n m
            have HMS := Aside0.mk hMS
            have HMR := Aside0.mk hMR
            have HMK := Aside0.mk hMK
            clear hye hMS hMR hMK
            go_wp2_with fail
            have HD1 := Aside0.mk (own_alloc HD.out (.cells #[.int .u8 y0, .int .u8 y1, .int .u8 y2, .int .u8 y3, .int .u8 y4, .int .u8 y5, .int .u8 y6, .int .u8 y7] 54))
            have HO1 := Aside0.mk (own_alloc HO.out (.cells #[.int .u8 y0, .int .u8 y1, .int .u8 y2, .int .u8 y3, .int .u8 y4, .int .u8 y5, .int .u8 y6, .int .u8 y7] 54))
            have HB1 := Aside0.mk (below_alloc HB.out (.cells #[.int .u8 y0, .int .u8 y1, .int .u8 y2, .int .u8 y3, .int .u8 y4, .int .u8 y5, .int .u8 y6, .int .u8 y7] 54))
            have HY := blk_new wr (.cells #[.int .u8 y0, .int .u8 y1, .int .u8 y2, .int .u8 y3, .int .u8 y4, .int .u8 y5, .int .u8 y6, .int .u8 y7] 54)
            obtain ⟨f0, f1, f2, f3, f4, f5, f6, f7⟩ := row8 HD1.out hwP HXE.out
            clear k0 k1 k2 k3 k4 k5 k6 k7 HD HO HB
            generalize wr.alloc (.cells #[.int .u8 y0, .int .u8 y1, .int .u8 y2, .int .u8 y3, .int .u8 y4, .int .u8 y5, .int .u8 y6, .int .u8 y7] 54) = W1 at *
            generalize wr.heap.size = gy at *
            have h0 : W1.cell? ⟨gy, 0, none⟩ = some (.int .u8 y0) := blk_cell HY 0
            have h1 : W1.cell? ⟨gy, 1, none⟩ = some (.int .u8 y1) := blk_cell HY 1
            have h2 : W1.cell? ⟨gy, 2, none⟩ = some (.int .u8 y2) := blk_cell HY 2
            have h3 : W1.cell? ⟨gy, 3, none⟩ = some (.int .u8 y3) := blk_cell HY 3
            have h4 : W1.cell? ⟨gy, 4, none⟩ = some (.int .u8 y4) := blk_cell HY 4
            have h5 : W1.cell? ⟨gy, 5, none⟩ = some (.int .u8 y5) := blk_cell HY 5
            have h6 : W1.cell? ⟨gy, 6, none⟩ = some (.int .u8 y6) := blk_cell HY 6
            have h7 : W1.cell? ⟨gy, 7, none⟩ = some (.int .u8 y7) := blk_cell HY 7
            clear HY
            by_cases hh : ham [x0, x1, x2, x3, x4, x5, x6, x7] [y0, y1, y2, y3, y4, y5, y6, y7] ≤ r
            · have t1 : decide (ham [x0, x1, x2, x3, x4, x5, x6, x7] [y0, y1, y2, y3, y4, y5, y6, y7] ≤ r) = true := decide_eq_true hh
              have HT2 : Aside0 (tm s C r (n + 1) m = tm s C r n m + 1) := ⟨by rw [HT1.out, if_pos hh]⟩
              clear hh HT1
              go_region_held3 (fun w' => w'.cell? ⟨g, wn * 8, none⟩ = some (.int .u8 x0) ∧ w'.cell? ⟨g, wn * 8 + 1, none⟩ = some (.int .u8 x1) ∧ w'.cell? ⟨g, wn * 8 + 2, none⟩ = some (.int .u8 x2) ∧ w'.cell? ⟨g, wn * 8 + 3, none⟩ = some (.int .u8 x3) ∧ w'.cell? ⟨g, wn * 8 + 4, none⟩ = some (.int .u8 x4) ∧ w'.cell? ⟨g, wn * 8 + 5, none⟩ = some (.int .u8 x5) ∧ w'.cell? ⟨g, wn * 8 + 6, none⟩ = some (.int .u8 x6) ∧ w'.cell? ⟨g, wn * 8 + 7, none⟩ = some (.int .u8 x7) ∧ w'.cell? ⟨gy, 0, none⟩ = some (.int .u8 y0) ∧ w'.cell? ⟨gy, 1, none⟩ = some (.int .u8 y1) ∧ w'.cell? ⟨gy, 2, none⟩ = some (.int .u8 y2) ∧ w'.cell? ⟨gy, 3, none⟩ = some (.int .u8 y3) ∧ w'.cell? ⟨gy, 4, none⟩ = some (.int .u8 y4) ∧ w'.cell? ⟨gy, 5, none⟩ = some (.int .u8 y5) ∧ w'.cell? ⟨gy, 6, none⟩ = some (.int .u8 y6) ∧ w'.cell? ⟨gy, 7, none⟩ = some (.int .u8 y7) ∧ Below W1.heap.size W1 w') (first | exact ⟨f0, f1, f2, f3, f4, f5, f6, f7, h0, h1, h2, h3, h4, h5, h6, h7, below_drew (Below.refl _ _)⟩ | exact (And.imp (pw_cell_below hb) (And.imp (pw_cell_below hb) (And.imp (pw_cell_below hb) (And.imp (pw_cell_below hb) (And.imp (pw_cell_below hb) (And.imp (pw_cell_below hb) (And.imp (pw_cell_below hb) (And.imp (pw_cell_below hb) (And.imp (pw_cell_below hb) (And.imp (pw_cell_below hb) (And.imp (pw_cell_below hb) (And.imp (pw_cell_below hb) (And.imp (pw_cell_below hb) (And.imp (pw_cell_below hb) (And.imp (pw_cell_below hb) (And.imp (pw_cell_below hb) (fun hS => below_then hS hS.size hb))))))))))))))))) (by assumption))
                (first
                  | (go_at_call 75; refine (far_calls8 x0 x1 x2 x3 x4 x5 x6 x7 y0 y1 y2 y3 y4 y5 y6 y7 _).mono ?_; rintro e w' ⟨rfl, hb⟩))
              all_goals
                have hbb : Below W1.heap.size W1 w' := ⟨hb.os, hb.tape, hb.output, hb.size, hb.block⟩
                have HD2 := Aside0.mk (pw_own_below HD1.out hbb)
                have HO2 := Aside0.mk (pw_own_below HO1.out hbb)
                have HB2 := Aside0.mk (below_then HB1.out HB1.out.size hbb)
                obtain ⟨o1, o2⟩ := own_at HO2.out (m : Int) (by omega) (by omega)
                rw [Int.toNat_natCast, HMR.out] at o1
                rw [Int.toNat_natCast] at o2
                have hst := own_store HO2.out (m : Int) (tm s C r n m + 1)
                rw [Int.toNat_natCast, ← HT2.out, HMS.out, HT2.out] at hst
                have HST := Aside0.mk hst
                have HD3 := Aside0.mk (own_other HD2.out hst.2 (own_type_ne' HD2.out HO2.out (by decide)))
                have HB3 := Aside0.mk (pw_below_grown HB2.out _ HB2.out.size hst.2 (fun k hk => by injection hk with hk; subst hk; exact own_base HO2.out _ rfl))
                clear hst HMS HMR HMK HT2 hb
                have hHH := (by assumption : w'.cell? ⟨g, wn * 8, none⟩ = some (.int .u8 x0) ∧ _)
                generalize tm s C r n m = z at *
                go_wp2
                go_roundw
                case rel => exact ⟨m + 1, by omega, by go_num, HD3, ⟨HST.out.1⟩, HB3⟩
                case measure => simp [intOf]; omega
            · have t1 : decide (ham [x0, x1, x2, x3, x4, x5, x6, x7] [y0, y1, y2, y3, y4, y5, y6, y7] ≤ r) = false := decide_eq_false hh
              have HT2 : Aside0 (tm s C r (n + 1) m = tm s C r n m) := ⟨by rw [HT1.out, if_neg hh, Int.add_zero]⟩
              clear hh HT1
              go_region_held3 (fun w' => w'.cell? ⟨g, wn * 8, none⟩ = some (.int .u8 x0) ∧ w'.cell? ⟨g, wn * 8 + 1, none⟩ = some (.int .u8 x1) ∧ w'.cell? ⟨g, wn * 8 + 2, none⟩ = some (.int .u8 x2) ∧ w'.cell? ⟨g, wn * 8 + 3, none⟩ = some (.int .u8 x3) ∧ w'.cell? ⟨g, wn * 8 + 4, none⟩ = some (.int .u8 x4) ∧ w'.cell? ⟨g, wn * 8 + 5, none⟩ = some (.int .u8 x5) ∧ w'.cell? ⟨g, wn * 8 + 6, none⟩ = some (.int .u8 x6) ∧ w'.cell? ⟨g, wn * 8 + 7, none⟩ = some (.int .u8 x7) ∧ w'.cell? ⟨gy, 0, none⟩ = some (.int .u8 y0) ∧ w'.cell? ⟨gy, 1, none⟩ = some (.int .u8 y1) ∧ w'.cell? ⟨gy, 2, none⟩ = some (.int .u8 y2) ∧ w'.cell? ⟨gy, 3, none⟩ = some (.int .u8 y3) ∧ w'.cell? ⟨gy, 4, none⟩ = some (.int .u8 y4) ∧ w'.cell? ⟨gy, 5, none⟩ = some (.int .u8 y5) ∧ w'.cell? ⟨gy, 6, none⟩ = some (.int .u8 y6) ∧ w'.cell? ⟨gy, 7, none⟩ = some (.int .u8 y7) ∧ Below W1.heap.size W1 w') (first | exact ⟨f0, f1, f2, f3, f4, f5, f6, f7, h0, h1, h2, h3, h4, h5, h6, h7, below_drew (Below.refl _ _)⟩ | exact (And.imp (pw_cell_below hb) (And.imp (pw_cell_below hb) (And.imp (pw_cell_below hb) (And.imp (pw_cell_below hb) (And.imp (pw_cell_below hb) (And.imp (pw_cell_below hb) (And.imp (pw_cell_below hb) (And.imp (pw_cell_below hb) (And.imp (pw_cell_below hb) (And.imp (pw_cell_below hb) (And.imp (pw_cell_below hb) (And.imp (pw_cell_below hb) (And.imp (pw_cell_below hb) (And.imp (pw_cell_below hb) (And.imp (pw_cell_below hb) (And.imp (pw_cell_below hb) (fun hS => below_then hS hS.size hb))))))))))))))))) (by assumption))
                (first
                  | (go_at_call 75; refine (far_calls8 x0 x1 x2 x3 x4 x5 x6 x7 y0 y1 y2 y3 y4 y5 y6 y7 _).mono ?_; rintro e w' ⟨rfl, hb⟩))
              all_goals
                have hbb : Below W1.heap.size W1 w' := ⟨hb.os, hb.tape, hb.output, hb.size, hb.block⟩
                have HD2 := Aside0.mk (pw_own_below HD1.out hbb)
                have HO2 : Aside0 (w'.ownsRow w.heap.size 2 1 (.slice (some ⟨g8, 0, none⟩) P P) P (nums .i64 (mix (tm s C r (n + 1)) (tm s C r n) P (m + 1)))) := ⟨by rw [← HMK.out HT2.out]; exact pw_own_below HO1.out hbb⟩
                have HB2 := Aside0.mk (below_then HB1.out HB1.out.size hbb)
                clear HMS HMR HMK HT2 hb
                go_wp2
                go_roundw
                case rel => exact ⟨m + 1, by omega, by go_num, HD2, HO2, HB2⟩
                case measure => simp [intOf]; omega
          · have hmP2 : m = P := by omega
            subst hmP2
            have hma := mix_all (tm s C r (n + 1)) (tm s C r n) m
            rw [hma] at HO
            clear hma
            go_wp2
            go_roundw
            case rel => exact ⟨n + 1, by omega, by go_num, HD, HO, HB⟩
            case measure => simp [intOf]; omega
      · go_wp2
        go_ret
        have hn : n = C.length := by omega
        subst hn
        rw [HT.out]
        refine ⟨_, rfl, ?_, HB.out⟩
        exact Kd.R_of_own (by rw [List.length_map, List.length_range]; exact HO.out) (fun _ _ => trivial)
def impl_times.f (l0_0 l1 : List Int) (a2 : Int) : Option (List Int) := if isSp l0_0 = true ∧ l1.all (isW l0_0) = true ∧ l1.length ≤ 1048576 then some (timesL l0_0 l1 a2) else none
theorem impl_times.calls (A0_0 : Option Addr) (c0_0 : Nat) (l0_0 : List Int) (A1 : Option Addr) (c1 : Nat) (l1 : List Int) (a2 : Int) (r : List Int) (w : World) (hr0_0 : Kd.C (Kd.int .i64) w A0_0 l0_0.length l0_0) (hc0_0 : l0_0.length ≤ c0_0) (hr1 : Kd.C (Kd.int .i64) w A1 l1.length l1) (hc1 : l1.length ≤ c1) (h : impl_times.f l0_0 l1 a2 = some r) :
    Calls Try.prog 100 #[.agg #[.slice A0_0 l0_0.length c0_0], .slice A1 l1.length c1, .int .i64 a2] w fun e w' => ∃ v0_ : Value, e = .returned (v0_) ∧ Kd.R (Kd.int .i64) 2 w' w.heap.size (fun _ => True) v0_ r ∧ Below w.heap.size w w' := by
  unfold impl_times.f at h
  split at h
  · rename_i hc
    obtain rfl := Option.some.inj h
    exact times_calls A0_0 c0_0 l0_0 A1 c1 l1 a2 w hr0_0 hc0_0 hr1 hc1 hc.1 hc.2.1 hc.2.2
  · cases h
def needQ (s T : List Int) (x r : Int) : Nat → Nat → Bool
  | _, 0 => false
  | m, k + 1 => if rd T (m : Int) = 1 ∧ ham (dig8 s x) (dig8 s (m : Int)) ≤ r then true else needQ s T x r (m + 1) k
set_option maxHeartbeats 16000000 in
set_option maxRecDepth 100000 in
theorem needed_calls (s T : List Int) (P g cap b : Nat) (A1 : Option Addr) (c1 : Nat) (x r : Int) (w : World) (hD : w.ownsRow b 54 8 (.slice (some ⟨g, 0, none⟩) P cap) P (flat8 (all8 s P))) (hcap : P ≤ cap) (hr1 : Kd.C (Kd.int .i64) w A1 T.length T) (hc1 : T.length ≤ c1) (hT : T.length = P) (hP : P ≤ 1024) (h0 : 0 ≤ x) (h1 : x < P) :
    Calls Try.prog 101 #[.slice (some ⟨g, 0, none⟩) P cap, .slice A1 T.length c1, .int .i64 x, .int .i64 r] w
      fun e w' => e = .returned (.bool (needQ s T x r 0 P)) ∧ Below w.heap.size w w' := by
  have huD := Try.underlying54
  have HR1 := Aside0.mk hr1
  have HD := Aside0.mk hD
  obtain ⟨wn, rfl⟩ := Int.eq_ofNat_of_zero_le h0
  obtain ⟨x0, x1, x2, x3, x4, x5, x6, x7, hxe⟩ := eight (dig8_length s (wn : Int))
  have HXE := Aside0.mk hxe
  clear hr1 hD hxe
  go_enter Try.func101, Try.ntmps101
  go_wp2_with fail
  go_loopw [13] (fun i W => ∃ (m : Nat), m ≤ P ∧ i = .int .i64 m ∧ Aside0 (needQ s T (wn : Int) r 0 P = needQ s T (wn : Int) r m (P - m)) ∧ Aside0 (Below w.heap.size w W)) (fun i _ => P - (intOf i).toNat)
  case atStart => exact ⟨0, by omega, rfl, ⟨rfl⟩, ⟨Below.refl _ _⟩⟩
  case round =>
    obtain ⟨m, hm, rfl, HQ, HB⟩ := hrel
    by_cases hlt : m < P
    · obtain ⟨ad1, e1, _⟩ := Kd.at_int HR1.out (m : Int) (by omega) (by omega)
      subst e1
      have hx := rd_cell HR1.out HB.out m (by omega)
      have hBw := HB.out
      obtain ⟨y0, y1, y2, y3, y4, y5, y6, y7, hye⟩ := eight (dig8_length s (m : Int))
      have hDw := pw_own_below HD.out HB.out
      obtain ⟨k0, k1, k2, k3, k4, k5, k6, k7⟩ := row8 hDw hlt hye
      obtain ⟨f0, f1, f2, f3, f4, f5, f6, f7⟩ := row8 hDw (show wn < P by omega) HXE.out
      have HN : Aside0 (needQ s T (wn : Int) r m (P - m) = if rd T (m : Int) = 1 ∧ ham [x0, x1, x2, x3, x4, x5, x6, x7] [y0, y1, y2, y3, y4, y5, y6, y7] ≤ r then true else needQ s T (wn : Int) r (m + 1) (P - (m + 1))) := ⟨by
        rw [show P - m = (P - (m + 1)) + 1 by omega, needQ, HXE.out, hye]⟩
      clear hye hDw
      by_cases ht : rd T (m : Int) = 1
      · rw [ht] at hx HN
        by_cases hh : ham [x0, x1, x2, x3, x4, x5, x6, x7] [y0, y1, y2, y3, y4, y5, y6, y7] ≤ r
        · have t1 : decide (ham [x0, x1, x2, x3, x4, x5, x6, x7] [y0, y1, y2, y3, y4, y5, y6, y7] ≤ r) = true := decide_eq_true hh
          have HQ2 : Aside0 (needQ s T (wn : Int) r 0 P = true) := ⟨by rw [HQ.out, HN.out, if_pos ⟨rfl, hh⟩]⟩
          clear HN HQ hh
          go_wp2_with fail
          go_region_held3 (fun w' => w'.cell? ⟨g, wn * 8, none⟩ = some (.int .u8 x0) ∧ w'.cell? ⟨g, wn * 8 + 1, none⟩ = some (.int .u8 x1) ∧ w'.cell? ⟨g, wn * 8 + 2, none⟩ = some (.int .u8 x2) ∧ w'.cell? ⟨g, wn * 8 + 3, none⟩ = some (.int .u8 x3) ∧ w'.cell? ⟨g, wn * 8 + 4, none⟩ = some (.int .u8 x4) ∧ w'.cell? ⟨g, wn * 8 + 5, none⟩ = some (.int .u8 x5) ∧ w'.cell? ⟨g, wn * 8 + 6, none⟩ = some (.int .u8 x6) ∧ w'.cell? ⟨g, wn * 8 + 7, none⟩ = some (.int .u8 x7) ∧ w'.cell? ⟨g, m * 8, none⟩ = some (.int .u8 y0) ∧ w'.cell? ⟨g, m * 8 + 1, none⟩ = some (.int .u8 y1) ∧ w'.cell? ⟨g, m * 8 + 2, none⟩ = some (.int .u8 y2) ∧ w'.cell? ⟨g, m * 8 + 3, none⟩ = some (.int .u8 y3) ∧ w'.cell? ⟨g, m * 8 + 4, none⟩ = some (.int .u8 y4) ∧ w'.cell? ⟨g, m * 8 + 5, none⟩ = some (.int .u8 y5) ∧ w'.cell? ⟨g, m * 8 + 6, none⟩ = some (.int .u8 y6) ∧ w'.cell? ⟨g, m * 8 + 7, none⟩ = some (.int .u8 y7) ∧ Below w.heap.size w w') (first | exact ⟨f0, f1, f2, f3, f4, f5, f6, f7, k0, k1, k2, k3, k4, k5, k6, k7, below_drew hBw⟩ | exact (And.imp (pw_cell_below hb) (And.imp (pw_cell_below hb) (And.imp (pw_cell_below hb) (And.imp (pw_cell_below hb) (And.imp (pw_cell_below hb) (And.imp (pw_cell_below hb) (And.imp (pw_cell_below hb) (And.imp (pw_cell_below hb) (And.imp (pw_cell_below hb) (And.imp (pw_cell_below hb) (And.imp (pw_cell_below hb) (And.imp (pw_cell_below hb) (And.imp (pw_cell_below hb) (And.imp (pw_cell_below hb) (And.imp (pw_cell_below hb) (And.imp (pw_cell_below hb) (fun hS => below_then hS hS.size hb))))))))))))))))) (by assumption))
          (first
            | (go_at_call 75; refine (far_calls8 x0 x1 x2 x3 x4 x5 x6 x7 y0 y1 y2 y3 y4 y5 y6 y7 _).mono ?_; rintro e w' ⟨rfl, hb⟩))
          all_goals
            obtain ⟨_, _, _, _, _, _, _, _, _, _, _, _, _, _, _, _, hBB⟩ := (by assumption : World.cell? _ ⟨g, wn * 8, none⟩ = some (Value.int .u8 x0) ∧ _)
            go_wp2
            go_ret
            exact ⟨by rw [HQ2.out]; rfl, hBB⟩
        · have t1 : decide (ham [x0, x1, x2, x3, x4, x5, x6, x7] [y0, y1, y2, y3, y4, y5, y6, y7] ≤ r) = false := decide_eq_false hh
          have HQ2 : Aside0 (needQ s T (wn : Int) r 0 P = needQ s T (wn : Int) r (m + 1) (P - (m + 1))) := ⟨by rw [HQ.out, HN.out, if_neg (fun z => hh z.2)]⟩
          clear HN HQ hh
          go_wp2_with fail
          go_region_held3 (fun w' => w'.cell? ⟨g, wn * 8, none⟩ = some (.int .u8 x0) ∧ w'.cell? ⟨g, wn * 8 + 1, none⟩ = some (.int .u8 x1) ∧ w'.cell? ⟨g, wn * 8 + 2, none⟩ = some (.int .u8 x2) ∧ w'.cell? ⟨g, wn * 8 + 3, none⟩ = some (.int .u8 x3) ∧ w'.cell? ⟨g, wn * 8 + 4, none⟩ = some (.int .u8 x4) ∧ w'.cell? ⟨g, wn * 8 + 5, none⟩ = some (.int .u8 x5) ∧ w'.cell? ⟨g, wn * 8 + 6, none⟩ = some (.int .u8 x6) ∧ w'.cell? ⟨g, wn * 8 + 7, none⟩ = some (.int .u8 x7) ∧ w'.cell? ⟨g, m * 8, none⟩ = some (.int .u8 y0) ∧ w'.cell? ⟨g, m * 8 + 1, none⟩ = some (.int .u8 y1) ∧ w'.cell? ⟨g, m * 8 + 2, none⟩ = some (.int .u8 y2) ∧ w'.cell? ⟨g, m * 8 + 3, none⟩ = some (.int .u8 y3) ∧ w'.cell? ⟨g, m * 8 + 4, none⟩ = some (.int .u8 y4) ∧ w'.cell? ⟨g, m * 8 + 5, none⟩ = some (.int .u8 y5) ∧ w'.cell? ⟨g, m * 8 + 6, none⟩ = some (.int .u8 y6) ∧ w'.cell? ⟨g, m * 8 + 7, none⟩ = some (.int .u8 y7) ∧ Below w.heap.size w w') (first | exact ⟨f0, f1, f2, f3, f4, f5, f6, f7, k0, k1, k2, k3, k4, k5, k6, k7, below_drew hBw⟩ | exact (And.imp (pw_cell_below hb) (And.imp (pw_cell_below hb) (And.imp (pw_cell_below hb) (And.imp (pw_cell_below hb) (And.imp (pw_cell_below hb) (And.imp (pw_cell_below hb) (And.imp (pw_cell_below hb) (And.imp (pw_cell_below hb) (And.imp (pw_cell_below hb) (And.imp (pw_cell_below hb) (And.imp (pw_cell_below hb) (And.imp (pw_cell_below hb) (And.imp (pw_cell_below hb) (And.imp (pw_cell_below hb) (And.imp (pw_cell_below hb) (And.imp (pw_cell_below hb) (fun hS => below_then hS hS.size hb))))))))))))))))) (by assumption))
          (first
            | (go_at_call 75; refine (far_calls8 x0 x1 x2 x3 x4 x5 x6 x7 y0 y1 y2 y3 y4 y5 y6 y7 _).mono ?_; rintro e w' ⟨rfl, hb⟩))
          all_goals
            obtain ⟨_, _, _, _, _, _, _, _, _, _, _, _, _, _, _, _, hBB⟩ := (by assumption : World.cell? _ ⟨g, wn * 8, none⟩ = some (Value.int .u8 x0) ∧ _)
            have hBB := Aside0.mk hBB
            go_wp2
            go_simp
            refine ⟨⟨_, _, _, _, ⟨m + 1, by omega, by go_num, HQ2, by first | exact hBB | exact ⟨trivial⟩⟩, rfl, rfl, rfl, rfl⟩, ?_⟩
            simp [intOf]
            omega
      · have HQ2 : Aside0 (needQ s T (wn : Int) r 0 P = needQ s T (wn : Int) r (m + 1) (P - (m + 1))) := ⟨by rw [HQ.out, HN.out, if_neg (fun z => ht z.1)]⟩
        have t0 : (rd T (m : Int) == 1) = false := by simpa using ht
        have t2 : decide (rd T (m : Int) = 1) = false := decide_eq_false ht
        clear HN HQ k0 k1 k2 k3 k4 k5 k6 k7 f0 f1 f2 f3 f4 f5 f6 f7
        generalize rd T (m : Int) = q at *
        go_wp2_with fail
        go_quiet (fail)
        go_wp2
        go_roundw
        case rel => exact ⟨m + 1, by omega, by go_num, HQ2, ⟨pw_below_drewN hBw _⟩⟩
        case measure => simp [intOf]; omega
    · go_wp2
      go_ret
      have hm2 : m = P := by omega
      subst hm2
      refine ⟨?_, HB.out⟩
      rw [HQ.out, Nat.sub_self]
      rfl
end Go.Proofs.Ytlfipjdjmpdblaa.P
set_option linter.unusedVariables false
set_option linter.unusedSimpArgs false
namespace Go.Proofs.Ytlfipjdjmpdblaa.Q
open Go.RowKit Go.Proofs.Ytlfipjdjmpdblaa.P Go.Proofs.YtlfipjdjmpdblaaW.PrintWords CC
theorem ordL_of {R l : List Int} (hR : R.Pairwise (· < ·)) (hm : ∀ y, y ∈ R ↔ y ∈ l) : R = ordL l := asc_ext hR (ordL_pw l) (fun y => by rw [hm, ordL_mem])
theorem ordL_put (L : List Int) (x : Int) : ordL (ordL L ++ [x]) = ordL (L ++ [x]) := ordL_of (ordL_pw _) (fun y => by rw [ordL_mem, List.mem_append, List.mem_append, ordL_mem])
theorem ordL_asc {l : List Int} (h : l.Pairwise (· < ·)) : ordL l = l := (ordL_of h (fun _ => Iff.rfl)).symm
theorem asc_pw : ∀ {l : List Int}, asc l = true → l.Pairwise (· < ·)
  | [], _ => List.Pairwise.nil
  | [a], _ => by simp
  | a :: b :: t, h => by
    simp only [asc, Bool.and_eq_true, decide_eq_true_eq] at h
    have ih := asc_pw h.2
    rw [List.pairwise_cons]
    refine ⟨fun y hy => ?_, ih⟩
    rcases List.mem_cons.1 hy with rfl | hy
    · exact h.1
    · have := (List.pairwise_cons.1 ih).1 y hy
      omega
theorem l01Own_eq (l : List Int) (hl : l.length ≤ 1048576) : spec_l01Own.f l = some l := by
  unfold spec_l01Own.f
  simp only [Option.bind_some, List.length_nil, List.nil_append]
  rw [if_pos (by omega)]
theorem mem_take_drop {l : List Int} (n : Nat) (y : Int) : y ∈ l.take n ∨ y ∈ l.drop n ↔ y ∈ l := by
  rw [← List.mem_append, List.take_append_drop]
theorem put_pw {l : List Int} (h : l.Pairwise (· < ·)) {x : Int} {n : Nat} (h1 : ∀ y ∈ l.take n, y < x) (h2 : ∀ y ∈ l.drop n, x < y) : (l.take n ++ [x] ++ l.drop n).Pairwise (· < ·) := by
  rw [← List.take_append_drop n l, List.pairwise_append] at h
  rw [List.append_assoc, List.pairwise_append]
  refine ⟨h.1, ?_, fun a ha b hb => ?_⟩
  · rw [List.singleton_append, List.pairwise_cons]
    exact ⟨h2, h.2.1⟩
  · rcases List.mem_append.1 hb with hb | hb
    · rw [List.mem_singleton] at hb
      subst hb
      exact h1 a ha
    · exact h.2.2 a ha b hb
theorem put_eq {l : List Int} (h : l.Pairwise (· < ·)) {x : Int} {n : Nat} (h1 : ∀ y ∈ l.take n, y < x) (h2 : ∀ y ∈ l.drop n, x < y) : l.take n ++ [x] ++ l.drop n = ordL (l ++ [x]) :=
  ordL_of (put_pw h h1 h2) (fun y => by
    simp only [List.mem_append]
    have := mem_take_drop (l := l) n y
    constructor
    · rintro ((h | h) | h)
      · exact .inl (this.1 (.inl h))
      · exact .inr h
      · exact .inl (this.1 (.inr h))
    · rintro (h | h)
      · rcases this.2 h with h | h
        · exact .inl (.inl h)
        · exact .inr h
      · exact .inl (.inr h))
theorem l01Put_l {l : List Int} (h : l.Pairwise (· < ·)) (hl : l.length ≤ 1048576) (x : Int) : ∀ n, n ≤ l.length → (∀ y ∈ l.drop n, x < y) → Ev (fun k => spec_l01Put.l0 k l x (n : Int)) (ordL (l ++ [x]))
  | 0, hn, hd => by
    refine Ev.step (fun k => by simp only [spec_l01Put.l0]; exact rfl) ?_
    refine Ev.iff_neg (by omega) (Ev.iff_pos (by omega) (Ev.iff_pos (by omega) ?_))
    refine Ev.bindc (l01Own_eq _ (by simp)) ?_
    refine Ev.iff_pos (by simp) ?_
    refine Ev.bindc rfl (Ev.bindc rfl ?_)
    refine Ev.iff_pos (by simp; omega) ?_
    have := put_eq h (x := x) (n := 0) (by simp) hd
    rw [← this]
    exact Ev.now _
  | n + 1, hn, hd => by
    have e1 : wrap64 (((n + 1 : Nat) : Int) - 1) = (n : Int) := by rw [wrap_id (by omega) (by omega)]; omega
    have hdc := drop_cons l (show n < l.length by omega)
    have htk := take_rd8 (d := l) (show n < l.length by omega)
    refine Ev.step (fun k => by simp only [spec_l01Put.l0]; exact rfl) ?_
    rw [e1]
    refine Ev.iff_pos (by omega) (Ev.iff_pos (by omega) (Ev.iff_pos (by omega) ?_))
    by_cases h1 : rd l (n : Int) > x
    · refine Ev.iff_pos h1 ?_
      refine l01Put_l h hl x n (by omega) (fun y hy => ?_)
      rw [hdc] at hy
      rcases List.mem_cons.1 hy with rfl | hy
      · exact h1
      · exact hd y hy
    · refine Ev.iff_neg h1 ?_
      by_cases h2 : rd l (n : Int) = x
      · refine Ev.iff_pos h2 ?_
        have hm : x ∈ l := by
          rw [← mem_take_drop n, hdc, h2]
          simp
        have : ordL (l ++ [x]) = l := (ordL_of h (fun y => by
          rw [List.mem_append, List.mem_singleton]
          constructor
          · exact .inl
          · rintro (h | rfl)
            · exact h
            · exact hm)).symm
        rw [this]
        exact Ev.now _
      · refine Ev.iff_neg h2 (Ev.iff_pos (by omega) (Ev.iff_pos (by omega) ?_))
        have htl : (l.take (n + 1)).length ≤ n + 1 := List.length_take_le _ _
        rw [Int.toNat_natCast]
        refine Ev.bindc (l01Own_eq _ (by omega)) ?_
        refine Ev.iff_pos (by omega) ?_
        refine Ev.bindc rfl (Ev.bindc rfl ?_)
        refine Ev.iff_pos (by rw [List.length_append, List.length_drop, List.length_singleton]; omega) ?_
        have hp : ∀ y ∈ l.take (n + 1), y < x := fun y hy => by
          have hpw := h
          rw [← List.take_append_drop (n + 1) l, List.pairwise_append, htk, List.pairwise_append] at hpw
          rw [htk, List.mem_append, List.mem_singleton] at hy
          rcases hy with hy | rfl
          · have := hpw.1.2.2 y hy (rd l (n : Int)) (by simp)
            omega
          · omega
        rw [← put_eq h hp hd]
        exact Ev.now _
theorem l01Put_ev {l : List Int} (h : l.Pairwise (· < ·)) (hl : l.length ≤ 1048576) (x : Int) : Ev (fun k => spec_l01Put.f k l x) (ordL (l ++ [x])) := by
  unfold spec_l01Put.f
  exact l01Put_l h hl x l.length (Nat.le_refl _) (by simp)
theorem likeInts_l {l : List Int} (hl : l.length ≤ 1048576) : ∀ (m n : Nat), n + m = l.length → Ev (fun k => laws_likeInts.l0 k l l (n : Int)) true
  | 0, n, hm => by
    refine Ev.step (fun k => by simp only [laws_likeInts.l0]; exact rfl) ?_
    exact Ev.iff_neg (by omega) (Ev.now _)
  | m + 1, n, hm => by
    have ih := likeInts_l hl m (n + 1) (by omega)
    refine Ev.step (fun k => by simp only [laws_likeInts.l0]; exact rfl) ?_
    refine Ev.iff_pos (by omega) (Ev.iff_pos (by omega) (Ev.iff_pos (by omega) (Ev.iff_pos (by first | rfl | trivial) ?_)))
    rw [wrap_nat (by unfold maxLen; omega)]
    exact ih
theorem likeInts_same {l : List Int} (hl : l.length ≤ 1048576) : Ev (fun k => laws_likeInts.f k l l) true := by
  unfold laws_likeInts.f
  exact Ev.iff_pos rfl (likeInts_l hl l.length 0 (by omega))
theorem hasInt_l {l : List Int} (hl : l.length ≤ 1048576) (x : Int) : ∀ (m n : Nat), n + m = l.length → Ev (fun k => laws_hasInt.l0 k l x (n : Int)) (decide (x ∈ l.drop n))
  | 0, n, hm => by
    refine Ev.step (fun k => by simp only [laws_hasInt.l0]; exact rfl) ?_
    refine Ev.iff_neg (by omega) ?_
    rw [drop_all (by omega)]
    simpa using Ev.now _
  | m + 1, n, hm => by
    have ih := hasInt_l hl x m (n + 1) (by omega)
    refine Ev.step (fun k => by simp only [laws_hasInt.l0]; exact rfl) ?_
    refine Ev.iff_pos (by omega) (Ev.iff_pos (by omega) ?_)
    rw [drop_cons l (by omega)]
    by_cases h : rd l (n : Int) = x
    · refine Ev.iff_pos h ?_
      simpa [h] using Ev.now _
    · refine Ev.iff_neg h ?_
      rw [wrap_nat (by unfold maxLen; omega)]
      have h2 : ¬ x = rd l (n : Int) := fun z => h z.symm
      simpa [h2] using ih
theorem hasInt_ev {l : List Int} (hl : l.length ≤ 1048576) (x : Int) : Ev (fun k => laws_hasInt.f k l x) (decide (x ∈ l)) := by
  unfold laws_hasInt.f
  exact hasInt_l hl x l.length 0 (by omega)
theorem bytes_in {l : List Int} (h : ∀ x ∈ l, (Lit.int .u8 x).wf = true) : ∀ x ∈ l, 0 ≤ x ∧ x ≤ 255 := fun x hx => by
  have := h x hx
  have e1 : IntKind.u8.min = 0 := by decide
  have e2 : IntKind.u8.max = 255 := by decide
  simp [Lit.wf, e1, e2] at this
  omega
theorem prev_nat {n : Nat} (h : n < maxLen) : wrap64 (((n + 1 : Nat) : Int) - 1) = (n : Int) := by
  unfold maxLen at h
  unfold wrap64
  omega
theorem l01Code_l {s c : List Int} (hs : isSp s = true) (hc : c.length ≤ 1048576) : ∀ (m n : Nat), n + 1 + m = c.length →
    Ev (fun k => spec_l01Code.l0 k c ((n + 1 : Nat) : Int) s) ((c.drop (n + 1)).all (isW s) && asc (c.drop n))
  | 0, n, hm => by
    rw [drop_cons c (show n < c.length by omega), drop_all (s := c) (n := n + 1) (by omega)]
    refine Ev.step (f := fun k => some true) (fun k => ?_) (by simpa [asc] using Ev.now _)
    simp only [spec_l01Code.l0]
    rw [if_neg (by omega)]
  | m + 1, n, hm => by
    have hn : n < c.length := by omega
    have hn2 : n + 1 < c.length := by omega
    rw [drop_cons c hn, drop_cons c hn2, List.all_cons]
    refine Ev.step (fun k => by simp only [spec_l01Code.l0]; exact rfl) ?_
    refine Ev.iff_pos (by omega) (Ev.iff_pos (by omega) (Ev.bind (l01N_sp hs) (Ev.bindc (isW_in hs _) ?_)))
    cases h : isW s (rd c ((n + 1 : Nat) : Int)) with
    | false => simpa using Ev.now _
    | true =>
      rw [asc, Bool.true_and]
      refine Ev.iff_pos rfl (Ev.iff_pos (by omega) ?_)
      rw [prev_nat (by unfold maxLen; omega)]
      refine Ev.iff_pos (by omega) (Ev.iff_pos (by omega) ?_)
      by_cases hlt : rd c (n : Int) < rd c ((n + 1 : Nat) : Int)
      · refine Ev.iff_neg (by omega) ?_
        rw [wrap_nat (by unfold maxLen; omega)]
        have := l01Code_l hs hc m (n + 1) (by omega)
        rw [drop_cons c hn2] at this
        rw [decide_eq_true hlt, Bool.true_and]
        exact this
      · refine Ev.iff_pos (by omega) ?_
        rw [decide_eq_false hlt, Bool.false_and, Bool.and_false]
        exact Ev.now _
theorem l01Code_ev {s c : List Int} (hs : isSp s = true) (hc : c.length ≤ 1048576) : Ev (fun k => spec_l01Code.f k s c) (isC s c) := by
  unfold spec_l01Code.f isC
  cases c with
  | nil =>
    refine Ev.step (f := fun k => some true) (fun k => ?_) (Ev.now _)
    simp only [spec_l01Code.l0]
    rw [if_neg (by simp)]
  | cons a t =>
    refine Ev.step (fun k => by simp only [spec_l01Code.l0]; exact rfl) ?_
    refine Ev.iff_pos (by simp only [List.length_cons]; omega) (Ev.iff_pos (by omega) (Ev.bind (l01N_sp hs) (Ev.bindc (isW_in hs _) ?_)))
    have e : rd (a :: t) 0 = a := by simp [rd]
    rw [e, List.all_cons]
    cases h : isW s a with
    | false => simpa using Ev.now _
    | true =>
      refine Ev.iff_pos rfl (Ev.iff_neg (by omega) ?_)
      have := l01Code_l hs hc t.length 0 (by simp only [List.length_cons]; omega)
      rw [show wrap64 (0 + 1) = ((0 + 1 : Nat) : Int) from by simp [wrap64], Bool.true_and]
      simpa using this
theorem isCode_l {c : List Int} (hc : c.length ≤ 1048576) : ∀ (m n : Nat), n + 1 + m = c.length →
    Ev (fun k => impl_isCode.l0 k c ((n + 1 : Nat) : Int)) (asc (c.drop n))
  | 0, n, hm => by
    rw [drop_cons c (show n < c.length by omega), drop_all (s := c) (n := n + 1) (by omega)]
    refine Ev.step (f := fun k => some true) (fun k => ?_) (by simpa [asc] using Ev.now _)
    simp only [impl_isCode.l0]
    rw [if_neg (by omega)]
  | m + 1, n, hm => by
    have hn : n < c.length := by omega
    have hn2 : n + 1 < c.length := by omega
    rw [drop_cons c hn, drop_cons c hn2]
    refine Ev.step (fun k => by simp only [impl_isCode.l0]; exact rfl) ?_
    refine Ev.iff_pos (by omega) (Ev.iff_pos (by omega) ?_)
    rw [prev_nat (by unfold maxLen; omega)]
    refine Ev.iff_pos (by omega) (Ev.iff_pos (by omega) ?_)
    rw [asc]
    by_cases hlt : rd c (n : Int) < rd c ((n + 1 : Nat) : Int)
    · refine Ev.iff_neg (by omega) ?_
      rw [wrap_nat (by unfold maxLen; omega)]
      have := isCode_l hc m (n + 1) (by omega)
      rw [drop_cons c hn2] at this
      rw [decide_eq_true hlt, Bool.true_and]
      exact this
    · refine Ev.iff_pos (by omega) ?_
      rw [decide_eq_false hlt, Bool.false_and]
      exact Ev.now _
theorem isCode_ev {s c : List Int} (hs : isSp s = true) (hc : c.length ≤ 1048576) : Ev (fun k => impl_isCode.f k s c) (isC s c) := by
  unfold impl_isCode.f
  refine Ev.bind (count_sp hs) ?_
  by_cases hlen : (c.length : Int) > prd s
  · have : isC s c = false := by
      cases h : isC s c with
      | false => rfl
      | true =>
        have := isC_length hs h
        omega
    rw [this]
    refine Ev.iff_pos hlen ?_
    refine Ev.step (f := fun k => some false) (fun k => ?_) (Ev.now _)
    simp [impl_isCode.j0]
  · refine Ev.iff_neg hlen (Ev.bind (areWords_ev hs hc) ?_)
    unfold isC
    cases h : c.all (isW s) with
    | false =>
      refine Ev.step (f := fun k => some false) (fun k => ?_) (Ev.now _)
      simp [impl_isCode.j0]
    | true =>
      refine Ev.step (f := fun k => impl_isCode.l0 k c 1) (fun k => ?_) ?_
      · simp [impl_isCode.j0]
      · rw [Bool.true_and]
        cases c with
        | nil =>
          refine Ev.step (f := fun k => some true) (fun k => ?_) (Ev.now _)
          simp [impl_isCode.l0]
        | cons a t =>
          have := isCode_l hc t.length 0 (by simp only [List.length_cons]; omega)
          simpa using this
theorem l01Distance_l {s : List Int} (hs : s.all sizeOk = true) (hl : s.length ≤ 8) : ∀ (n : Nat) (u w acc : Int), n ≤ s.length → 0 ≤ u → u ≤ 1024 → 0 ≤ w → w ≤ 1024 → 0 ≤ acc → acc + n ≤ 100 →
    Ev (fun k => spec_l01Distance.l0 k u w acc ((n : Int) - 1) s) (acc + ham (dgr (s.take n).reverse u) (dgr (s.take n).reverse w))
  | 0, u, w, acc, _, _, _, _, _, _, _ => by
    refine Ev.step (f := fun k => some acc) (fun k => ?_) (by simpa [dgr, ham] using Ev.now _)
    simp only [spec_l01Distance.l0]
    rw [if_neg (by omega)]
  | n + 1, u, w, acc, hn, u0, u1, w0, w1, a0, a1 => by
    have hq := all_rd hs (show n < s.length by omega)
    obtain ⟨b0, b1, b2, b3⟩ := div_bounds u0 u1 hq
    obtain ⟨d0, d1, d2, d3⟩ := div_bounds w0 w1 hq
    have e : ((n + 1 : Nat) : Int) - 1 = (n : Int) := by omega
    rw [e]
    refine Ev.step (fun k => by simp only [spec_l01Distance.l0]; exact rfl) ?_
    refine Ev.iff_pos (by omega) (Ev.iff_pos (by omega) (Ev.iff_pos (by omega) (Ev.iff_neg (by omega) ?_)))
    rw [b2, b3, d2, d3, pred_nat n (by omega), take_rd s (by omega), List.reverse_append]
    simp only [List.reverse_cons, List.reverse_nil, List.nil_append, List.singleton_append, dgr, ham]
    by_cases h : u % rd s (n : Int) = w % rd s (n : Int)
    · refine Ev.iff_pos h ?_
      rw [if_pos h]
      have := l01Distance_l hs hl n (u / rd s (n : Int)) (w / rd s (n : Int)) acc (by omega) b0 b1 d0 d1 a0 (by omega)
      simpa using this
    · refine Ev.iff_neg h ?_
      rw [if_neg h, wrap_id (x := acc + 1) (by omega) (by omega), ← Int.add_assoc]
      exact l01Distance_l hs hl n (u / rd s (n : Int)) (w / rd s (n : Int)) (acc + 1) (by omega) b0 b1 d0 d1 (by omega) (by omega)
theorem l01Distance_ev {s : List Int} (hs : isSp s = true) {u w : Int} (hu : isW s u = true) (hw : isW s w = true) : Ev (fun k => spec_l01Distance.f k s u w) (dist s u w) := by
  have hl := isSp_len hs
  obtain ⟨u0, u1⟩ := isW_b hs hu
  obtain ⟨w0, w1⟩ := isW_b hs hw
  unfold spec_l01Distance.f
  have e : wrap64 ((s.length : Int) - 1) = (s.length : Int) - 1 := wrap_id (by omega) (by omega)
  rw [e]
  have := l01Distance_l (isSp_all hs) hl s.length u w 0 (Nat.le_refl _) u0 u1 w0 w1 (by omega) (by omega)
  rw [List.take_length, Int.zero_add] at this
  unfold dist dg
  rw [ham_reverse _ _ (by rw [dgr_length, dgr_length])]
  exact this
end Go.Proofs.Ytlfipjdjmpdblaa.Q
namespace Go.Proofs.Ytlfipjdjmpdblaa.P
open Go.RowKit Go.Proofs.YtlfipjdjmpdblaaW.PrintWords Go.Proofs.YtlfipjdjmpdblaaW.PrintLast Go.Proofs.YtlfipjdjmpdblaaW.PrintMore
attribute [local go_sem] max2_int min2_int max_two min_two max_three min_three max_four min_four
set_option linter.unusedVariables false
set_option linter.unusedSimpArgs false

def impl_radius.f (l0_0 : List Int) (l1 : List Int) : Option (Int) := (impl_farness.f l0_0 l1).bind fun t102 => ((slices_Max_int64_int64.f t102).bind fun t105 => (some t105))
set_option maxHeartbeats 8000000 in
set_option maxRecDepth 100000 in
theorem impl_radius.calls (A0_0 : Option Addr) (c0_0 : Nat) (l0_0 : List Int) (A1 : Option Addr) (c1 : Nat) (l1 : List Int) (r : Int) (w : World) (hr0_0 : Kd.C (Kd.int .i64) w A0_0 l0_0.length l0_0) (hc0_0 : l0_0.length ≤ c0_0) (hr1 : Kd.C (Kd.int .i64) w A1 l1.length l1) (hc1 : l1.length ≤ c1) (h : impl_radius.f l0_0 l1 = some r) :
  Calls Try.prog 96 #[.agg #[.slice A0_0 l0_0.length c0_0], .slice A1 l1.length c1] w fun e w' => e = .returned (.int .i64 r) ∧ Below w.heap.size w w' := by
 have hu26 := Try.underlying26
 have HR0_0 := Aside0.mk hr0_0
 have HC0_0 := Aside0.mk hc0_0
 clear hr0_0 hc0_0
 have HR1 := Aside0.mk hr1
 have HC1 := Aside0.mk hc1
 clear hr1 hc1
 have HB := Aside0.mk (Below.refl w.heap.size w)
 have H : ((impl_farness.f l0_0 l1).bind fun t102 => ((slices_Max_int64_int64.f t102).bind fun t105 => (some t105))) = some r := h
 clear h
 replace H := Option.bind_eq_some_iff.mp H
 obtain ⟨t102, A30, H⟩ := H
 replace H : ((slices_Max_int64_int64.f t102).bind fun t105 => (some t105)) = some r := H
 have A3 := Aside0.mk A30
 clear A30
 replace H := Option.bind_eq_some_iff.mp H
 obtain ⟨t105, A40, H⟩ := H
 replace H : (some t105) = some r := H
 have A4 := Aside0.mk A40
 clear A40
 obtain rfl := Option.some.inj H
 go_enter Try.func96, Try.ntmps96
 go_wp2_with (first | ((with_reducible refine gate_dst (N := 2) rfl ?_); refine bx_ (N := 2) (cs := #[.slice A0_0 l0_0.length c0_0]) (t := 26) rfl rfl ?_; intro gb101 hg w5 hbox hb; have n0_ := b1_ HB hb; have n1_ := Aside0.mk (hbox); have n2_ := ge_ hg HB; have n3_ := ge_ hg HB; clear HB; have HB := n0_; have BK101 := n1_; have GW101 := n2_; have GE101 := n3_; clear n0_ n1_ n2_ n3_ hb hbox hg; have hcz6_0 := hz_ BK101; have hfz6_0 := blk_frozen BK101.out 0) | ((with_reducible refine gate_callee (f := 91) rfl ?_); refine gl_ (some 7) rfl rfl Try.func91 #[.agg #[.slice A0_0 l0_0.length c0_0], .slice A1 l1.length c1] rfl ?_; (with_reducible refine (impl_farness.calls _ _ l0_0 _ _ l1 t102 _ ?side1 ?side2 ?side3 ?side4 A3.out).mono ?_); (case side1 => exact c2_ HR0_0 HB); (case side2 => exact HC0_0.out); (case side3 => exact c2_ HR1 HB); (case side4 => exact HC1.out); rintro e w7 ⟨v103, rfl, ho0, hb⟩; refine ⟨_, rfl, ?_⟩; have HO104 := Aside0.mk (Kd.R_lower ho0 (below_size (gb_ HB.out))); replace BK101 := a2_ BK101 hb; replace HB := b1_ HB hb; (try clear hb); (try clear hb2); (try clear hk); (try clear hi); (try clear ho0); obtain ⟨Ao8, co8, eo8⟩ := Kd.R_slice HO104.out; subst eo8) | ((with_reducible refine gate_callee (f := 94) rfl ?_); refine gl_ (some 8) rfl rfl Try.func94 #[.slice Ao8 t102.length co8] rfl ?_; (with_reducible refine (slices_Max_int64_int64.calls _ _ t102 t105 _ ?side1 ?side2 A4.out).mono ?_); (case side1 => exact c1_ HO104); (case side2 => exact (Kd.R_reads' HO104.out).2.1); rintro e w9 ⟨rfl, hb⟩; refine ⟨_, rfl, ?_⟩; replace HO104 := a1_ HO104 hb; replace BK101 := a2_ BK101 hb; replace HB := b1_ HB hb; (try clear hb); (try clear hb2); (try clear hk); (try clear hi)))
 go_ret
 exact ⟨t5_, gb_ HB.out⟩
end Go.Proofs.Ytlfipjdjmpdblaa.P
set_option linter.unusedVariables false
set_option linter.unusedSimpArgs false
namespace Go.Proofs.Ytlfipjdjmpdblaa.P
open Go.RowKit Go.Proofs.YtlfipjdjmpdblaaW.PrintWords Go.Proofs.YtlfipjdjmpdblaaW.PrintLast Go.Proofs.YtlfipjdjmpdblaaW.PrintMore CC
set_option maxHeartbeats 1000000 in
set_option maxRecDepth 100000 in
theorem neededW_closure (s T : List Int) (P g cap b ga gb gr : Nat) (A1 : Option Addr) (c1 : Nat) (x r : Int) (w : World) (hD : w.ownsRow b 54 8 (.slice (some ⟨g, 0, none⟩) P cap) P (flat8 (all8 s P))) (hcap : P ≤ cap) (hr1 : Kd.C (Kd.int .i64) w A1 T.length T) (hc1 : T.length ≤ c1) (hT : T.length = P) (hP : P ≤ 1024) (h0 : 0 ≤ x) (h1 : x < P)
    (ka : w.cell? ⟨ga, 0, none⟩ = some (.slice (some ⟨g, 0, none⟩) P cap)) (kb : w.cell? ⟨gb, 0, none⟩ = some (.slice A1 T.length c1)) (kr : w.cell? ⟨gr, 0, none⟩ = some (.int .i64 r)) :
    Calls Try.prog 108 #[.int .i64 x, .pointer (some ⟨ga, 0, none⟩), .pointer (some ⟨gb, 0, none⟩), .pointer (some ⟨gr, 0, none⟩)] w
      fun e w' => e = .returned (.bool (!needQ s T x r 0 P)) ∧ Below w.heap.size w w' := by
  have HC := Aside0.mk hr1
  have HD := Aside0.mk hD
  clear hr1 hD
  go_enter Try.func108, Try.ntmps108
  go_wp2_with fail
  have hN := needed_calls s T P g cap b A1 c1 x r w HD.out hcap HC.out hc1 hT hP h0 h1
  rw [hT] at hN
  refine hN.mono ?_
  clear hN
  rintro e w2 ⟨rfl, hb⟩
  have HB := Aside0.mk hb
  clear hb
  cases hq : needQ s T x r 0 P with
  | false =>
    go_wp2
    go_ret
    exact ⟨by rw [hq]; rfl, HB.out⟩
  | true =>
    go_wp2
    go_ret
    exact ⟨by rw [hq]; rfl, HB.out⟩
end Go.Proofs.Ytlfipjdjmpdblaa.P
namespace Go.Proofs.Ytlfipjdjmpdblaa.P
open Go.RowKit Go.Proofs.YtlfipjdjmpdblaaW.PrintWords Go.Proofs.YtlfipjdjmpdblaaW.PrintLast Go.Proofs.YtlfipjdjmpdblaaW.PrintMore
attribute [local go_sem] max2_int min2_int max_two min_two max_three min_three max_four min_four
set_option linter.unusedVariables false
set_option linter.unusedSimpArgs false
def impl_UncoveredWords.l0 : Nat → List Int → List Int → Int → Int → Option (List Int × Int)
  | 0, _, _, _, _ => none
  | k + 1, x9, x23, x24, x25 => if x25 < x24 then (if 0 ≤ x25 then (if x25 < (x23.length : Int) then (if (rd x23 x25) = 0 then (if x9.length < 17592186044416 then (impl_UncoveredWords.l0 k (x9 ++ [x25]) x23 x24 (wrap64 (x25 + 1))) else (none)) else (impl_UncoveredWords.l0 k x9 x23 x24 (wrap64 (x25 + 1)))) else (none)) else (none)) else (some (x9, 0))
def impl_UncoveredWords.f (k : Nat) (l0_0 : List Int) (l1 : List Int) (a2 : Int) : Option (List Int × Int) := (impl_coverCode.f k l0_0 l1 a2).bind fun t102 => (if t102 = 0 then ((impl_times.f l0_0 l1 a2).bind fun t106 => (impl_UncoveredWords.l0 k (([] : List Int)) t106 (t106.length : Int) 0)) else (some (([] : List Int), t102)))
set_option maxHeartbeats 8000000 in
set_option maxRecDepth 100000 in
theorem impl_UncoveredWords.calls (k : Nat) (A0_0 : Option Addr) (c0_0 : Nat) (l0_0 : List Int) (A1 : Option Addr) (c1 : Nat) (l1 : List Int) (a2 : Int) (r1 : List Int) (r2 : Int) (w : World) (hr0_0 : Kd.C (Kd.int .i64) w A0_0 l0_0.length l0_0) (hc0_0 : l0_0.length ≤ c0_0) (hr1 : Kd.C (Kd.int .i64) w A1 l1.length l1) (hc1 : l1.length ≤ c1) (h : impl_UncoveredWords.f k l0_0 l1 a2 = some (r1, r2)) :
  Calls Try.prog 47 #[.agg #[.slice A0_0 l0_0.length c0_0], .slice A1 l1.length c1, .int .i64 a2] w fun e w' => ∃ v0_ : Value, e = .returned (.tuple #[v0_, .int .i64 r2]) ∧ Kd.R (Kd.int .i64) 2 w' w.heap.size (fun _ => True) v0_ r1 ∧ Below w.heap.size w w' := by
 have hu26 := Try.underlying26
 have HR0_0 := Aside0.mk hr0_0
 have HC0_0 := Aside0.mk hc0_0
 clear hr0_0 hc0_0
 have HR1 := Aside0.mk hr1
 have HC1 := Aside0.mk hc1
 clear hr1 hc1
 have HB := Aside0.mk (Below.refl w.heap.size w)
 have H : ((impl_coverCode.f k l0_0 l1 a2).bind fun t102 => (if t102 = 0 then ((impl_times.f l0_0 l1 a2).bind fun t106 => (impl_UncoveredWords.l0 k (([] : List Int)) t106 (t106.length : Int) 0)) else (some (([] : List Int), t102)))) = some (r1, r2) := h
 clear h
 replace H := Option.bind_eq_some_iff.mp H
 obtain ⟨t102, A40, H⟩ := H
 replace H : (if t102 = 0 then ((impl_times.f l0_0 l1 a2).bind fun t106 => (impl_UncoveredWords.l0 k (([] : List Int)) t106 (t106.length : Int) 0)) else (some (([] : List Int), t102))) = some (r1, r2) := H
 have A4 := Aside0.mk A40
 clear A40
 by_cases c5 : t102 = 0
 rotate_left
 ·rw [if_neg c5] at H
  have c5b0 : (t102 == 0) = false := beq_eq_false_iff_ne.mpr c5
  have c5b1 : (t102 != 0) = true := bne_iff_ne.mpr c5
  simp only [Option.some.injEq, Prod.mk.injEq] at H
  obtain ⟨rfl, rfl⟩ := H
  go_enter Try.func47, Try.ntmps47
  go_wp2_with (first | ((with_reducible refine gate_dst (N := 3) rfl ?_); refine bx_ (N := 3) (cs := #[.slice A0_0 l0_0.length c0_0]) (t := 26) rfl rfl ?_; intro gb101 hg w21 hbox hb; have n0_ := b1_ HB hb; have n1_ := Aside0.mk (hbox); have n2_ := ge_ hg HB; have n3_ := ge_ hg HB; clear HB; have HB := n0_; have BK101 := n1_; have GW101 := n2_; have GE101 := n3_; clear n0_ n1_ n2_ n3_ hb hbox hg; have hcz22_0 := hz_ BK101; have hfz22_0 := blk_frozen BK101.out 0) | ((with_reducible refine gate_callee (f := 98) rfl ?_); refine gl_ (some 15) rfl rfl Try.func98 #[.agg #[.slice A0_0 l0_0.length c0_0], .slice A1 l1.length c1, .int .i64 a2] rfl ?_; (with_reducible refine (impl_coverCode.calls k _ _ l0_0 _ _ l1 a2 t102 _ ?side1 ?side2 ?side3 ?side4 A4.out).mono ?_); (case side1 => exact c2_ HR0_0 HB); (case side2 => exact HC0_0.out); (case side3 => exact c2_ HR1 HB); (case side4 => exact HC1.out); rintro e w23 ⟨rfl, hb⟩; refine ⟨_, rfl, ?_⟩; replace BK101 := a2_ BK101 hb; replace HB := b1_ HB hb; (try clear hb); (try clear hb2); (try clear hk); (try clear hi)))
  go_ret2
  exact ⟨_, t5_, by first | exact Kd.R_nil _ _ _ _ _ | exact Kd.N_nil _ _ _ _ _ | exact Kd.V_nil _ _ _ _ _ | exact Kd.Q_nil _ _ _ _ _ | exact Kd.S_nil _ _ _ _ _, gb_ HB.out⟩

 rw [if_pos c5] at H
 have c5b0 : (t102 == 0) = true := beq_iff_eq.mpr c5
 have c5b1 : (t102 != 0) = false := bne_eq_false_iff_eq.mpr c5
 clear c5
 obtain ⟨y103, hy103⟩ : ∃ y_ : List Int, y_ = (([] : List Int)) := ⟨_, rfl⟩
 replace H : ((impl_times.f l0_0 l1 a2).bind fun t106 => (impl_UncoveredWords.l0 k y103 t106 (t106.length : Int) 0)) = some (r1, r2) := y_ H
 have Ny103 := Aside0.mk hy103
 clear hy103
 replace H := Option.bind_eq_some_iff.mp H
 obtain ⟨t106, A60, H⟩ := H
 replace H : (impl_UncoveredWords.l0 k y103 t106 (t106.length : Int) 0) = some (r1, r2) := H
 have A6 := Aside0.mk A60
 clear A60
 have H' := Aside0.mk H
 clear H
 go_enter Try.func47, Try.ntmps47
 go_wp2_with (first | ((with_reducible refine gate_dst (N := 3) rfl ?_); refine bx_ (N := 3) (cs := #[.slice A0_0 l0_0.length c0_0]) (t := 26) rfl rfl ?_; intro gb101 hg w7 hbox hb; have n0_ := b1_ HB hb; have n1_ := Aside0.mk (hbox); have n2_ := ge_ hg HB; have n3_ := ge_ hg HB; clear HB; have HB := n0_; have BK101 := n1_; have GW101 := n2_; have GE101 := n3_; clear n0_ n1_ n2_ n3_ hb hbox hg; have hcz8_0 := hz_ BK101; have hfz8_0 := blk_frozen BK101.out 0) | ((with_reducible refine gate_callee (f := 98) rfl ?_); refine gl_ (some 15) rfl rfl Try.func98 #[.agg #[.slice A0_0 l0_0.length c0_0], .slice A1 l1.length c1, .int .i64 a2] rfl ?_; (with_reducible refine (impl_coverCode.calls k _ _ l0_0 _ _ l1 a2 t102 _ ?side1 ?side2 ?side3 ?side4 A4.out).mono ?_); (case side1 => exact c2_ HR0_0 HB); (case side2 => exact HC0_0.out); (case side3 => exact c2_ HR1 HB); (case side4 => exact HC1.out); rintro e w9 ⟨rfl, hb⟩; refine ⟨_, rfl, ?_⟩; replace BK101 := a2_ BK101 hb; replace HB := b1_ HB hb; (try clear hb); (try clear hb2); (try clear hk); (try clear hi)) | ((with_reducible refine gate_dst (N := 19) rfl ?_); refine Kd.R_lit (Kd.int .i64) _ 2 ?hg (N := 19) ?hd (xs := ([] : List Int)) (inner := []) (ok := fun _ => True) (okp := fun _ => True) ?hr ?hp (fun _ hk => hk) trivial (Below.refl _ _) (Nat.le_refl _) (by simp) ?_; (case hd => rfl); (case hg => rfl); (case hr => exact t3_); (case hp => exact (Reps.none _ _)); intro v104 w10 ho11 hb hg_ hnew_; clear hg_ hnew_; (first | rw [← Ny103.out] at ho11 | (simp only [Int.reduceToNat] at ho11; rw [← Ny103.out] at ho11)); have n0_ := Aside0.mk (Kd.R_lower ho11 (below_size (gb_ HB.out))); have n1_ := a2_ BK101 hb; have n2_ := b1_ HB hb; clear BK101 HB; have HO105 := n0_; have BK101 := n1_; have HB := n2_; clear n0_ n1_ n2_ hb ho11; have hcz12_0 := hz_ BK101; have hfz12_0 := blk_frozen BK101.out 0) | ((with_reducible refine gate_callee (f := 100) rfl ?_); refine gl_ (some 23) rfl rfl Try.func100 #[.agg #[.slice A0_0 l0_0.length c0_0], .slice A1 l1.length c1, .int .i64 a2] rfl ?_; (with_reducible refine (impl_times.calls _ _ l0_0 _ _ l1 a2 t106 _ ?side1 ?side2 ?side3 ?side4 A6.out).mono ?_); (case side1 => exact c2_ HR0_0 HB); (case side2 => exact HC0_0.out); (case side3 => exact c2_ HR1 HB); (case side4 => exact HC1.out); rintro e w13 ⟨v107, rfl, ho0, hb⟩; refine ⟨_, rfl, ?_⟩; have HO108 := Aside0.mk (Kd.R_lower (Kd.R_new' ho0 (Kd.R_lt (rb_ HO105.out))) (below_size (gb_ HB.out))); replace HO105 := a5_ HO105 ho0 hb; replace BK101 := a2_ BK101 hb; replace HB := b1_ HB hb; (try clear hb); (try clear hb2); (try clear hk); (try clear hi); (try clear ho0); obtain ⟨Ao14, co14, eo14⟩ := Kd.R_slice HO108.out; subst eo14))
 go_loopg [9, 25] k (fun kq v9 v25 w' => ∃ (x9_1 : List Int) (x25_1 : Int), v25 = .int .i64 x25_1 ∧ Aside0 (impl_UncoveredWords.l0 kq x9_1 t106 (t106.length : Int) x25_1 = some (r1, r2)) ∧ Aside0 (kq ≤ k) ∧ Aside0 (Kd.R (Kd.int .i64) 2 w' w.heap.size (fun k_ => OB_ k_ (.slice Ao14 t106.length co14)) v9 x9_1) ∧ Aside0 (Kd.R (Kd.int .i64) 2 w' w.heap.size (fun k_ => OB_ k_ v9) (.slice Ao14 t106.length co14) t106) ∧ Aside0 (w'.heap[gb101]? = some (.cells #[(.slice A0_0 l0_0.length c0_0)] 26 (0, 0))) ∧ Aside0 (Below w.heap.size w w'))
 case atStart => exact ⟨(y103), (0), t2_, H', ⟨Nat.le_refl _⟩, ⟨by (with_reducible repeat (first | apply Kd.R_alloc | apply Kd.R_drewN | apply Kd.R_drew)); exact Kd.R_mono HO105.out (fun _ hk => hk.2)⟩, ⟨by (with_reducible repeat (first | apply Kd.R_alloc | apply Kd.R_drewN | apply Kd.R_drew)); exact Kd.R_mono HO108.out (fun _ hk => hk.2)⟩, ⟨bb_ BK101.out⟩, ⟨gb_ HB.out⟩⟩
 clear H'
 try clear c1
 try clear p2
 try clear c4
 try clear c5
 try clear c5b0
 try clear c5b1
 try clear c9
 try clear c10
 try clear hcz12_0
 try clear hcz8_0
 try clear hfz12_0
 try clear hfz8_0
 obtain ⟨x9_1, x25_1, rfl, HA, HK1, HO_9, HO_23, BK101, HB⟩ := hrel
 obtain _ | k1 := gk
 ·exact absurd HA.out (by simp [impl_UncoveredWords.l0])
 have H := HA.out
 clear HA
 simp only [impl_UncoveredWords.l0] at H
 by_cases c15 : x25_1 < (t106.length : Int)
 rotate_left
 ·rw [if_neg c15] at H
  have c15b0 : decide (x25_1 < (t106.length : Int)) = false := decide_eq_false c15
  clear c15
  simp only [Option.some.injEq, Prod.mk.injEq] at H
  obtain ⟨rfl, rfl⟩ := H
  go_wp2
  go_ret2
  exact ⟨_, t5_, by (with_reducible repeat (first | apply Kd.R_alloc | apply Kd.R_drewN | apply Kd.R_drew)); exact Kd.R_mono HO_9.out (fun _ hk => trivial), gb_ HB.out⟩
 rw [if_pos c15] at H
 have c15b0 : decide (x25_1 < (t106.length : Int)) = true := decide_eq_true c15
 clear c15
 by_cases c16 : 0 ≤ x25_1
 rotate_left
 ·rw [if_neg c16] at H
  exact absurd H (by simp)
 rw [if_pos c16] at H
 have c16b0 : decide (0 ≤ x25_1) = true := decide_eq_true c16
 clear c16
 by_cases c17 : x25_1 < (t106.length : Int)
 rotate_left
 ·rw [if_neg c17] at H
  exact absurd H (by simp)
 rw [if_pos c17] at H
 have c17b0 : decide (x25_1 < (t106.length : Int)) = true := decide_eq_true c17
 clear c17
 by_cases c18 : (rd t106 x25_1) = 0
 rotate_left
 ·rw [if_neg c18] at H
  have c18b0 : ((rd t106 x25_1) == 0) = false := beq_eq_false_iff_ne.mpr c18
  have c18b1 : ((rd t106 x25_1) != 0) = true := bne_iff_ne.mpr c18
  have H' := Aside0.mk H
  clear H
  have p109 : 0 ≤ (x25_1 : Int) := of_decide_eq_true t6_
  have q109 : x25_1 < (t106.length : Int) := of_decide_eq_true t6_
  obtain ⟨ad109, e109, hx109_0⟩ := Kd.at_int (Kd.R_reads' HO_23.out).2.2 x25_1 p109 q109
  cases e109
  replace p109 := eq_true p109
  replace q109 := eq_true q109
  go_wp2
  go_roundg k1
  case measure => have := HK1.out; omega
  case rel => exact ⟨(x9_1), (wrap64 (x25_1 + 1)), t2_, H', ⟨by have := HK1.out; omega⟩, ⟨rb_ HO_9.out⟩, ⟨rb_ HO_23.out⟩, ⟨bb_ BK101.out⟩, ⟨gb_ HB.out⟩⟩
 rw [if_pos c18] at H
 have c18b0 : ((rd t106 x25_1) == 0) = true := beq_iff_eq.mpr c18
 have c18b1 : ((rd t106 x25_1) != 0) = false := bne_eq_false_iff_eq.mpr c18
 clear c18
 by_cases c19 : x9_1.length < 17592186044416
 rotate_left
 ·rw [if_neg c19] at H
  exact absurd H (by simp)
 rw [if_pos c19] at H
 have LMc19 := Aside0.mk c19
 clear c19
 obtain ⟨y110, hy110⟩ : ∃ y_ : List Int, y_ = (x9_1 ++ [x25_1]) := ⟨_, rfl⟩
 replace H : (impl_UncoveredWords.l0 k1 y110 t106 (t106.length : Int) (wrap64 (x25_1 + 1))) = some (r1, r2) := y_ H
 have Ny110 := Aside0.mk hy110
 clear hy110
 have H' := Aside0.mk H
 clear H
 have p109 : 0 ≤ (x25_1 : Int) := of_decide_eq_true t6_
 have q109 : x25_1 < (t106.length : Int) := of_decide_eq_true t6_
 obtain ⟨ad109, e109, hx109_0⟩ := Kd.at_int (Kd.R_reads' HO_23.out).2.2 x25_1 p109 q109
 cases e109
 replace p109 := eq_true p109
 replace q109 := eq_true q109
 go_wp2_with (first | ((with_reducible refine gate_builtin (b := .append) (xs := #[.tmp 32, .tmp 34]) rfl ?_); at_builtin; refine Kd.R_append (Kd.int .i64) (w0 := w) w.heap.size rfl (.tmp 32) (.tmp 34) 24 2 (.int .i64 0) 8 rfl Try.underlying24 info2 rfl (by decide) (by omega) u9 x9_1 x25_1 [.int .i64 x25_1] (fun k_ => OB_ k_ (.slice (some ad109) t106.length co14)) (fun _ => False) rfl rfl ?aP (fun _ hk => hk.elim) ?aF ?aO ?aB ?aS ?aL ?_; (case aP => exact rfl); (case aB => exact (gb_ HB.out)); (case aF => exact (fun k_ hk => Kd.fresh' (Kd.R_lt (rb_ HO_23.out)) k_ hk)); (case aO => exact (rb_ HO_9.out)); (case aS => exact (below_size (gb_ HB.out))); (case aL => have := LMc19.out; omega); intro v111 w20 ho hb hg hat; rw [← Ny110.out] at ho; have n0_ := Aside0.mk (Kd.R_after (ok := (fun _ => True)) (rb_ (Kd.R_mono HO_23.out (fun _ hk => ⟨trivial, hk⟩))) hg hat); have n1_ := Aside0.mk (blk_grown (g := gb101) (o := .cells #[.slice A0_0 l0_0.length c0_0] 26 (0, 0)) (bb_ BK101.out) hg (Kd.R_ne HO_9.out BK101.out (by decide))); have n2_ := Aside0.mk (hb); have n3_ := Aside0.mk (ho); clear HO_23 BK101 HB HO_9; have HO_23 := n0_; have BK101 := n1_; have HB := n2_; have HO112 := n3_; clear n0_ n1_ n2_ n3_ ho hb hg hat))
 go_roundg k1
 case measure => have := HK1.out; omega
 case rel => exact ⟨(y110), (wrap64 (x25_1 + 1)), t2_, H', ⟨by have := HK1.out; omega⟩, ⟨rb_ HO112.out⟩, ⟨by (with_reducible repeat (first | apply Kd.R_alloc | apply Kd.R_drewN | apply Kd.R_drew)); exact Kd.R_mono HO_23.out (fun _ hk => hk.2)⟩, ⟨bb_ BK101.out⟩, ⟨gb_ HB.out⟩⟩
def impl_covers.f (k : Nat) (l0_0 : List Int) (l1 : List Int) (a2 : Int) : Option (Bool) := (impl_times.f l0_0 l1 a2).bind fun t102 => ((slices_Contains_int64_int64.f k t102 0).bind fun t105 => (some (!t105)))
set_option maxHeartbeats 8000000 in
set_option maxRecDepth 100000 in
theorem impl_covers.calls (k : Nat) (A0_0 : Option Addr) (c0_0 : Nat) (l0_0 : List Int) (A1 : Option Addr) (c1 : Nat) (l1 : List Int) (a2 : Int) (r : Bool) (w : World) (hr0_0 : Kd.C (Kd.int .i64) w A0_0 l0_0.length l0_0) (hc0_0 : l0_0.length ≤ c0_0) (hr1 : Kd.C (Kd.int .i64) w A1 l1.length l1) (hc1 : l1.length ≤ c1) (h : impl_covers.f k l0_0 l1 a2 = some r) :
  Calls Try.prog 109 #[.agg #[.slice A0_0 l0_0.length c0_0], .slice A1 l1.length c1, .int .i64 a2] w fun e w' => e = .returned (.bool r) ∧ Below w.heap.size w w' := by
 have hu26 := Try.underlying26
 have HR0_0 := Aside0.mk hr0_0
 have HC0_0 := Aside0.mk hc0_0
 clear hr0_0 hc0_0
 have HR1 := Aside0.mk hr1
 have HC1 := Aside0.mk hc1
 clear hr1 hc1
 have HB := Aside0.mk (Below.refl w.heap.size w)
 have H : ((impl_times.f l0_0 l1 a2).bind fun t102 => ((slices_Contains_int64_int64.f k t102 0).bind fun t105 => (some (!t105)))) = some r := h
 clear h
 replace H := Option.bind_eq_some_iff.mp H
 obtain ⟨t102, A40, H⟩ := H
 replace H : ((slices_Contains_int64_int64.f k t102 0).bind fun t105 => (some (!t105))) = some r := H
 have A4 := Aside0.mk A40
 clear A40
 replace H := Option.bind_eq_some_iff.mp H
 obtain ⟨t105, A50, H⟩ := H
 replace H : (some (!t105)) = some r := H
 have A5 := Aside0.mk A50
 clear A50
 obtain rfl := Option.some.inj H
 go_enter Try.func109, Try.ntmps109
 go_wp2_with (first | ((with_reducible refine gate_dst (N := 3) rfl ?_); refine bx_ (N := 3) (cs := #[.slice A0_0 l0_0.length c0_0]) (t := 26) rfl rfl ?_; intro gb101 hg w6 hbox hb; have n0_ := b1_ HB hb; have n1_ := Aside0.mk (hbox); have n2_ := ge_ hg HB; have n3_ := ge_ hg HB; clear HB; have HB := n0_; have BK101 := n1_; have GW101 := n2_; have GE101 := n3_; clear n0_ n1_ n2_ n3_ hb hbox hg; have hcz7_0 := hz_ BK101; have hfz7_0 := blk_frozen BK101.out 0) | ((with_reducible refine gate_callee (f := 100) rfl ?_); refine gl_ (some 10) rfl rfl Try.func100 #[.agg #[.slice A0_0 l0_0.length c0_0], .slice A1 l1.length c1, .int .i64 a2] rfl ?_; (with_reducible refine (impl_times.calls _ _ l0_0 _ _ l1 a2 t102 _ ?side1 ?side2 ?side3 ?side4 A4.out).mono ?_); (case side1 => exact c2_ HR0_0 HB); (case side2 => exact HC0_0.out); (case side3 => exact c2_ HR1 HB); (case side4 => exact HC1.out); rintro e w8 ⟨v103, rfl, ho0, hb⟩; refine ⟨_, rfl, ?_⟩; have HO104 := Aside0.mk (Kd.R_lower ho0 (below_size (gb_ HB.out))); replace BK101 := a2_ BK101 hb; replace HB := b1_ HB hb; (try clear hb); (try clear hb2); (try clear hk); (try clear hi); (try clear ho0); obtain ⟨Ao9, co9, eo9⟩ := Kd.R_slice HO104.out; subst eo9) | ((with_reducible refine gate_callee (f := 126) rfl ?_); refine gl_ (some 11) rfl rfl Try.func126 #[.slice Ao9 t102.length co9, .int .i64 0] rfl ?_; (with_reducible refine (slices_Contains_int64_int64.calls k _ _ t102 0 t105 _ ?side1 ?side2 A5.out).mono ?_); (case side1 => exact c1_ HO104); (case side2 => exact (Kd.R_reads' HO104.out).2.1); rintro e w' ⟨rfl, ⟨nd, rfl⟩⟩; refine ⟨_, rfl, ?_⟩))
 go_ret
 exact ⟨t5_, gb_ HB.out⟩
end Go.Proofs.Ytlfipjdjmpdblaa.P
set_option linter.unusedVariables false
set_option linter.unusedSimpArgs false
namespace Go.Proofs.Ytlfipjdjmpdblaa.Q
open Go.RowKit Go.Proofs.Ytlfipjdjmpdblaa.P Go.Proofs.YtlfipjdjmpdblaaW.PrintWords CC
def rCode (s c ws : List Int) : Int := if rWords s ws = 0 then if isC s c then 0 else 2 else rWords s ws
theorem rCode_zero {s c ws : List Int} (h : rCode s c ws = 0) : isSp s = true ∧ isC s c = true ∧ ∀ x ∈ ws, isW s x = true := by
  unfold rCode at h
  split at h
  · rename_i hw
    obtain ⟨h1, h2⟩ := rWords_zero hw
    split at h
    · rename_i hc
      exact ⟨h1, hc, h2⟩
    · cases h
  · rename_i hw
    exact absurd h hw
theorem rWords_nil (s : List Int) : rWords s [] = if isSp s then 0 else 1 := by
  unfold rWords
  by_cases h : isSp s = true <;> simp [h]
theorem isC_len {s c : List Int} (hs : isSp s = true) (h : isC s c = true) : c.length ≤ 1024 := by
  have := isC_length hs h
  have := isSp_prd hs
  omega
theorem isC_words {s c : List Int} (h : isC s c = true) : ∀ x ∈ c, isW s x = true := by
  simp only [isC, Bool.and_eq_true, List.all_eq_true] at h
  exact h.1
theorem isC_rd {s c : List Int} (h : isC s c = true) {n : Nat} (hn : n < c.length) : isW s (rd c (n : Int)) = true := by
  have : rd c (n : Int) = c[n] := by simp [rd, List.getD_eq_getElem?_getD, hn]
  rw [this]
  exact isC_words h _ (List.getElem_mem hn)
theorem codeCode_ev (s : List Int) {c ws : List Int} (hc : c.length ≤ 1048576) (hw : ws.length ≤ 1048576) : Ev (fun k => impl_codeCode.f k s c ws) (rCode s c ws) := by
  unfold impl_codeCode.f rCode
  refine Ev.bind (wordCode_ev s hw) ?_
  by_cases h : rWords s ws = 0
  · obtain ⟨hs, _⟩ := rWords_zero h
    simp only [if_pos h]
    refine Ev.bind (isCode_ev hs hc) ?_
    cases isC s c with
    | true => exact Ev.iff_pos rfl (Ev.now _)
    | false => exact Ev.iff_neg (by simp) (Ev.now _)
  · simp only [if_neg h]
    exact Ev.now _
theorem l01Given_ev (s : List Int) {c : List Int} (hc : c.length ≤ 1048576) : Ev (fun k => spec_l01Given.f k s c) (rCode s c []) := by
  unfold spec_l01Given.f rCode
  rw [rWords_nil]
  refine Ev.bind (l01Is_ev s) ?_
  by_cases hs : isSp s = true
  · simp only [hs, if_true]
    refine Ev.bind (l01Code_ev hs hc) ?_
    cases isC s c with
    | true => exact Ev.iff_pos rfl (Ev.now _)
    | false => exact Ev.iff_neg (by simp) (Ev.now _)
  · simp only [hs]
    exact Ev.now _
def selL (p : Int → Bool) (n : Nat) : List Int := ((List.range n).filter fun (i : Nat) => p (i : Int)).map fun (i : Nat) => (i : Int)
theorem selL_succ (p : Int → Bool) (n : Nat) : selL p (n + 1) = selL p n ++ if p (n : Int) then [(n : Int)] else [] := by
  unfold selL
  rw [List.range_succ, List.filter_append, List.map_append]
  congr 1
  by_cases h : p (n : Int) = true <;> simp [h]
theorem selL_len (p : Int → Bool) (n : Nat) : (selL p n).length ≤ n := by
  unfold selL
  have := List.length_filter_le (fun (i : Nat) => p (i : Int)) (List.range n)
  simpa using this
theorem selL_congr {p q : Int → Bool} {n : Nat} (h : ∀ i : Nat, i < n → p (i : Int) = q (i : Int)) : selL p n = selL q n := by
  unfold selL
  congr 1
  apply List.filter_congr
  intro i hi
  exact h i (List.mem_range.1 hi)
theorem mem_selL {p : Int → Bool} {n : Nat} {x : Int} : x ∈ selL p n ↔ 0 ≤ x ∧ x < n ∧ p x = true := by
  unfold selL
  simp only [List.mem_map, List.mem_filter, List.mem_range]
  constructor
  · rintro ⟨i, ⟨h1, h2⟩, rfl⟩
    exact ⟨by omega, by omega, h2⟩
  · rintro ⟨h1, h2, h3⟩
    obtain ⟨m, rfl⟩ := Int.eq_ofNat_of_zero_le h1
    exact ⟨m, ⟨by omega, h3⟩, rfl⟩
def NW (s : List Int) : Nat := (prd s).toNat
theorem NW_eq {s : List Int} (hs : isSp s = true) : ((NW s : Nat) : Int) = prd s := by
  have := isSp_prd1 hs
  unfold NW
  omega
theorem NW_le {s : List Int} (hs : isSp s = true) : NW s ≤ 1024 := by
  have := isSp_prd hs
  unfold NW
  omega
theorem isW_nat {s : List Int} (hs : isSp s = true) {n : Nat} (h : n < NW s) : isW s (n : Int) = true := by
  rw [isW_iff]
  have := NW_eq hs
  omega
end Go.Proofs.Ytlfipjdjmpdblaa.Q
namespace Go.Proofs.Ytlfipjdjmpdblaa.P
open Go.RowKit Go.Proofs.YtlfipjdjmpdblaaW.PrintWords Go.Proofs.YtlfipjdjmpdblaaW.PrintLast Go.Proofs.YtlfipjdjmpdblaaW.PrintMore
attribute [local go_sem] max2_int min2_int max_two min_two max_three min_three max_four min_four
set_option linter.unusedVariables false
set_option linter.unusedSimpArgs false
def impl_RadiusOf.f (k : Nat) (l0_0 : List Int) (l1 : List Int) : Option (Int × Int) := (impl_someCode.f k l0_0 l1 ([] : List Int)).bind fun t102 => (if t102 = 0 then ((impl_radius.f l0_0 l1).bind fun t103 => (some (t103, 0))) else (some (0, t102)))
set_option maxHeartbeats 8000000 in
set_option maxRecDepth 100000 in
theorem impl_RadiusOf.calls (k : Nat) (A0_0 : Option Addr) (c0_0 : Nat) (l0_0 : List Int) (A1 : Option Addr) (c1 : Nat) (l1 : List Int) (r1 : Int) (r2 : Int) (w : World) (hr0_0 : Kd.C (Kd.int .i64) w A0_0 l0_0.length l0_0) (hc0_0 : l0_0.length ≤ c0_0) (hr1 : Kd.C (Kd.int .i64) w A1 l1.length l1) (hc1 : l1.length ≤ c1) (h : impl_RadiusOf.f k l0_0 l1 = some (r1, r2)) :
  Calls Try.prog 43 #[.agg #[.slice A0_0 l0_0.length c0_0], .slice A1 l1.length c1] w fun e w' => e = .returned (.tuple #[.int .i64 r1, .int .i64 r2]) ∧ Below w.heap.size w w' := by
 have hu26 := Try.underlying26
 have HR0_0 := Aside0.mk hr0_0
 have HC0_0 := Aside0.mk hc0_0
 clear hr0_0 hc0_0
 have HR1 := Aside0.mk hr1
 have HC1 := Aside0.mk hc1
 clear hr1 hc1
 have HB := Aside0.mk (Below.refl w.heap.size w)
 have H : ((impl_someCode.f k l0_0 l1 ([] : List Int)).bind fun t102 => (if t102 = 0 then ((impl_radius.f l0_0 l1).bind fun t103 => (some (t103, 0))) else (some (0, t102)))) = some (r1, r2) := h
 clear h
 replace H := Option.bind_eq_some_iff.mp H
 obtain ⟨t102, A30, H⟩ := H
 replace H : (if t102 = 0 then ((impl_radius.f l0_0 l1).bind fun t103 => (some (t103, 0))) else (some (0, t102))) = some (r1, r2) := H
 have A3 := Aside0.mk A30
 clear A30
 by_cases c4 : t102 = 0
 rotate_left
 ·rw [if_neg c4] at H
  have c4b0 : (t102 == 0) = false := beq_eq_false_iff_ne.mpr c4
  have c4b1 : (t102 != 0) = true := bne_iff_ne.mpr c4
  simp only [Option.some.injEq, Prod.mk.injEq] at H
  obtain ⟨rfl, rfl⟩ := H
  go_enter Try.func43, Try.ntmps43
  go_wp2_with (first | ((with_reducible refine gate_dst (N := 2) rfl ?_); refine bx_ (N := 2) (cs := #[.slice A0_0 l0_0.length c0_0]) (t := 26) rfl rfl ?_; intro gb101 hg w11 hbox hb; have n0_ := b1_ HB hb; have n1_ := Aside0.mk (hbox); have n2_ := ge_ hg HB; have n3_ := ge_ hg HB; clear HB; have HB := n0_; have BK101 := n1_; have GW101 := n2_; have GE101 := n3_; clear n0_ n1_ n2_ n3_ hb hbox hg; have hcz12_0 := hz_ BK101; have hfz12_0 := blk_frozen BK101.out 0) | ((with_reducible refine gate_callee (f := 90) rfl ?_); refine gl_ (some 9) rfl rfl Try.func90 #[.agg #[.slice A0_0 l0_0.length c0_0], .slice A1 l1.length c1, .slice none 0 0] rfl ?_; (refine (impl_someCode.calls k _ _ l0_0 _ _ l1 _ _ ([] : List Int) t102 _ ?side1 ?side2 ?side3 ?side4 ?side5 ?side6 A3.out).mono ?_); (case side1 => exact c2_ HR0_0 HB); (case side2 => exact HC0_0.out); (case side3 => exact c2_ HR1 HB); (case side4 => exact HC1.out); (case side5 => exact Kd.C_nil _ _); (case side6 => exact Nat.le_refl _); rintro e w13 ⟨rfl, hb⟩; refine ⟨_, rfl, ?_⟩; replace BK101 := a2_ BK101 hb; replace HB := b1_ HB hb; (try clear hb); (try clear hb2); (try clear hk); (try clear hi)))
  go_ret2
  exact ⟨t5_, gb_ HB.out⟩

 rw [if_pos c4] at H
 have c4b0 : (t102 == 0) = true := beq_iff_eq.mpr c4
 have c4b1 : (t102 != 0) = false := bne_eq_false_iff_eq.mpr c4
 clear c4
 replace H := Option.bind_eq_some_iff.mp H
 obtain ⟨t103, A50, H⟩ := H
 replace H : (some (t103, 0)) = some (r1, r2) := H
 have A5 := Aside0.mk A50
 clear A50
 simp only [Option.some.injEq, Prod.mk.injEq] at H
 obtain ⟨rfl, rfl⟩ := H
 go_enter Try.func43, Try.ntmps43
 go_wp2_with (first | ((with_reducible refine gate_dst (N := 2) rfl ?_); refine bx_ (N := 2) (cs := #[.slice A0_0 l0_0.length c0_0]) (t := 26) rfl rfl ?_; intro gb101 hg w6 hbox hb; have n0_ := b1_ HB hb; have n1_ := Aside0.mk (hbox); have n2_ := ge_ hg HB; have n3_ := ge_ hg HB; clear HB; have HB := n0_; have BK101 := n1_; have GW101 := n2_; have GE101 := n3_; clear n0_ n1_ n2_ n3_ hb hbox hg; have hcz7_0 := hz_ BK101; have hfz7_0 := blk_frozen BK101.out 0) | ((with_reducible refine gate_callee (f := 90) rfl ?_); refine gl_ (some 9) rfl rfl Try.func90 #[.agg #[.slice A0_0 l0_0.length c0_0], .slice A1 l1.length c1, .slice none 0 0] rfl ?_; (refine (impl_someCode.calls k _ _ l0_0 _ _ l1 _ _ ([] : List Int) t102 _ ?side1 ?side2 ?side3 ?side4 ?side5 ?side6 A3.out).mono ?_); (case side1 => exact c2_ HR0_0 HB); (case side2 => exact HC0_0.out); (case side3 => exact c2_ HR1 HB); (case side4 => exact HC1.out); (case side5 => exact Kd.C_nil _ _); (case side6 => exact Nat.le_refl _); rintro e w8 ⟨rfl, hb⟩; refine ⟨_, rfl, ?_⟩; replace BK101 := a2_ BK101 hb; replace HB := b1_ HB hb; (try clear hb); (try clear hb2); (try clear hk); (try clear hi); have hcz9_0 := hz_ BK101; have hfz9_0 := blk_frozen BK101.out 0) | ((with_reducible refine gate_callee (f := 96) rfl ?_); refine gl_ (some 15) rfl rfl Try.func96 #[.agg #[.slice A0_0 l0_0.length c0_0], .slice A1 l1.length c1] rfl ?_; (with_reducible refine (impl_radius.calls _ _ l0_0 _ _ l1 t103 _ ?side1 ?side2 ?side3 ?side4 A5.out).mono ?_); (case side1 => exact c2_ HR0_0 HB); (case side2 => exact HC0_0.out); (case side3 => exact c2_ HR1 HB); (case side4 => exact HC1.out); rintro e w10 ⟨rfl, hb⟩; refine ⟨_, rfl, ?_⟩; replace BK101 := a2_ BK101 hb; replace HB := b1_ HB hb; (try clear hb); (try clear hb2); (try clear hk); (try clear hi)))
 go_ret2
 exact ⟨t5_, gb_ HB.out⟩
def impl_CoversSpace.f (k : Nat) (l0_0 : List Int) (l1 : List Int) (a2 : Int) : Option (Bool × Int) := (impl_coverCode.f k l0_0 l1 a2).bind fun t102 => (if t102 = 0 then ((impl_covers.f k l0_0 l1 a2).bind fun t103 => (some (t103, 0))) else (some (false, t102)))
set_option maxHeartbeats 8000000 in
set_option maxRecDepth 100000 in
theorem impl_CoversSpace.calls (k : Nat) (A0_0 : Option Addr) (c0_0 : Nat) (l0_0 : List Int) (A1 : Option Addr) (c1 : Nat) (l1 : List Int) (a2 : Int) (r1 : Bool) (r2 : Int) (w : World) (hr0_0 : Kd.C (Kd.int .i64) w A0_0 l0_0.length l0_0) (hc0_0 : l0_0.length ≤ c0_0) (hr1 : Kd.C (Kd.int .i64) w A1 l1.length l1) (hc1 : l1.length ≤ c1) (h : impl_CoversSpace.f k l0_0 l1 a2 = some (r1, r2)) :
  Calls Try.prog 51 #[.agg #[.slice A0_0 l0_0.length c0_0], .slice A1 l1.length c1, .int .i64 a2] w fun e w' => e = .returned (.tuple #[.bool r1, .int .i64 r2]) ∧ Below w.heap.size w w' := by
 have hu26 := Try.underlying26
 have HR0_0 := Aside0.mk hr0_0
 have HC0_0 := Aside0.mk hc0_0
 clear hr0_0 hc0_0
 have HR1 := Aside0.mk hr1
 have HC1 := Aside0.mk hc1
 clear hr1 hc1
 have HB := Aside0.mk (Below.refl w.heap.size w)
 have H : ((impl_coverCode.f k l0_0 l1 a2).bind fun t102 => (if t102 = 0 then ((impl_covers.f k l0_0 l1 a2).bind fun t103 => (some (t103, 0))) else (some (false, t102)))) = some (r1, r2) := h
 clear h
 replace H := Option.bind_eq_some_iff.mp H
 obtain ⟨t102, A40, H⟩ := H
 replace H : (if t102 = 0 then ((impl_covers.f k l0_0 l1 a2).bind fun t103 => (some (t103, 0))) else (some (false, t102))) = some (r1, r2) := H
 have A4 := Aside0.mk A40
 clear A40
 by_cases c5 : t102 = 0
 rotate_left
 ·rw [if_neg c5] at H
  have c5b0 : (t102 == 0) = false := beq_eq_false_iff_ne.mpr c5
  have c5b1 : (t102 != 0) = true := bne_iff_ne.mpr c5
  simp only [Option.some.injEq, Prod.mk.injEq] at H
  obtain ⟨rfl, rfl⟩ := H
  go_enter Try.func51, Try.ntmps51
  go_wp2_with (first | ((with_reducible refine gate_dst (N := 3) rfl ?_); refine bx_ (N := 3) (cs := #[.slice A0_0 l0_0.length c0_0]) (t := 26) rfl rfl ?_; intro gb101 hg w12 hbox hb; have n0_ := b1_ HB hb; have n1_ := Aside0.mk (hbox); have n2_ := ge_ hg HB; have n3_ := ge_ hg HB; clear HB; have HB := n0_; have BK101 := n1_; have GW101 := n2_; have GE101 := n3_; clear n0_ n1_ n2_ n3_ hb hbox hg; have hcz13_0 := hz_ BK101; have hfz13_0 := blk_frozen BK101.out 0) | ((with_reducible refine gate_callee (f := 98) rfl ?_); refine gl_ (some 12) rfl rfl Try.func98 #[.agg #[.slice A0_0 l0_0.length c0_0], .slice A1 l1.length c1, .int .i64 a2] rfl ?_; (with_reducible refine (impl_coverCode.calls k _ _ l0_0 _ _ l1 a2 t102 _ ?side1 ?side2 ?side3 ?side4 A4.out).mono ?_); (case side1 => exact c2_ HR0_0 HB); (case side2 => exact HC0_0.out); (case side3 => exact c2_ HR1 HB); (case side4 => exact HC1.out); rintro e w14 ⟨rfl, hb⟩; refine ⟨_, rfl, ?_⟩; replace BK101 := a2_ BK101 hb; replace HB := b1_ HB hb; (try clear hb); (try clear hb2); (try clear hk); (try clear hi)))
  go_ret2
  exact ⟨t5_, gb_ HB.out⟩

 rw [if_pos c5] at H
 have c5b0 : (t102 == 0) = true := beq_iff_eq.mpr c5
 have c5b1 : (t102 != 0) = false := bne_eq_false_iff_eq.mpr c5
 clear c5
 replace H := Option.bind_eq_some_iff.mp H
 obtain ⟨t103, A60, H⟩ := H
 replace H : (some (t103, 0)) = some (r1, r2) := H
 have A6 := Aside0.mk A60
 clear A60
 simp only [Option.some.injEq, Prod.mk.injEq] at H
 obtain ⟨rfl, rfl⟩ := H
 go_enter Try.func51, Try.ntmps51
 go_wp2_with (first | ((with_reducible refine gate_dst (N := 3) rfl ?_); refine bx_ (N := 3) (cs := #[.slice A0_0 l0_0.length c0_0]) (t := 26) rfl rfl ?_; intro gb101 hg w7 hbox hb; have n0_ := b1_ HB hb; have n1_ := Aside0.mk (hbox); have n2_ := ge_ hg HB; have n3_ := ge_ hg HB; clear HB; have HB := n0_; have BK101 := n1_; have GW101 := n2_; have GE101 := n3_; clear n0_ n1_ n2_ n3_ hb hbox hg; have hcz8_0 := hz_ BK101; have hfz8_0 := blk_frozen BK101.out 0) | ((with_reducible refine gate_callee (f := 98) rfl ?_); refine gl_ (some 12) rfl rfl Try.func98 #[.agg #[.slice A0_0 l0_0.length c0_0], .slice A1 l1.length c1, .int .i64 a2] rfl ?_; (with_reducible refine (impl_coverCode.calls k _ _ l0_0 _ _ l1 a2 t102 _ ?side1 ?side2 ?side3 ?side4 A4.out).mono ?_); (case side1 => exact c2_ HR0_0 HB); (case side2 => exact HC0_0.out); (case side3 => exact c2_ HR1 HB); (case side4 => exact HC1.out); rintro e w9 ⟨rfl, hb⟩; refine ⟨_, rfl, ?_⟩; replace BK101 := a2_ BK101 hb; replace HB := b1_ HB hb; (try clear hb); (try clear hb2); (try clear hk); (try clear hi); have hcz10_0 := hz_ BK101; have hfz10_0 := blk_frozen BK101.out 0) | ((with_reducible refine gate_callee (f := 109) rfl ?_); refine gl_ (some 19) rfl rfl Try.func109 #[.agg #[.slice A0_0 l0_0.length c0_0], .slice A1 l1.length c1, .int .i64 a2] rfl ?_; (with_reducible refine (impl_covers.calls k _ _ l0_0 _ _ l1 a2 t103 _ ?side1 ?side2 ?side3 ?side4 A6.out).mono ?_); (case side1 => exact c2_ HR0_0 HB); (case side2 => exact HC0_0.out); (case side3 => exact c2_ HR1 HB); (case side4 => exact HC1.out); rintro e w11 ⟨rfl, hb⟩; refine ⟨_, rfl, ?_⟩; replace BK101 := a2_ BK101 hb; replace HB := b1_ HB hb; (try clear hb); (try clear hb2); (try clear hk); (try clear hi)))
 go_ret2
 exact ⟨t5_, gb_ HB.out⟩
end Go.Proofs.Ytlfipjdjmpdblaa.P
set_option linter.unusedVariables false
set_option linter.unusedSimpArgs false
namespace Go.Proofs.Ytlfipjdjmpdblaa.Q
open Go.RowKit Go.Proofs.Ytlfipjdjmpdblaa.P Go.Proofs.YtlfipjdjmpdblaaW.PrintWords CC
theorem l01Digits_l {s : List Int} (hs : s.all sizeOk = true) (hl : s.length ≤ 8) : ∀ (n : Nat) (u : Int) (ar : List Int), n ≤ s.length → ar.length = s.length → 0 ≤ u → u ≤ 1024 →
    Ev (fun k => spec_l01Digits.l0 k u ar ((n : Int) - 1) s) (dloop s n u ar)
  | 0, u, ar, _, _, _, _ => by
    refine Ev.step (f := fun k => some ar) (fun k => ?_) (Ev.now _)
    simp only [spec_l01Digits.l0]
    rw [if_neg (by omega)]
  | n + 1, u, ar, hn, ha, u0, u1 => by
    have hq := all_rd hs (show n < s.length by omega)
    obtain ⟨b0, b1, b2, b3⟩ := div_bounds u0 u1 hq
    have e : ((n + 1 : Nat) : Int) - 1 = (n : Int) := by omega
    rw [e]
    refine Ev.step (fun k => by simp only [spec_l01Digits.l0]; exact rfl) ?_
    refine Ev.iff_pos (by omega) (Ev.iff_pos (by omega) (Ev.iff_pos (by omega) (Ev.iff_neg (by omega) (Ev.iff_pos (by omega) ?_))))
    rw [b2, b3, pred_nat n (by omega), Int.toNat_natCast]
    exact l01Digits_l hs hl n _ _ (by omega) (by simpa using ha) b0 b1
theorem l01Digits_ev {s : List Int} (hs : isSp s = true) {w : Int} (hw : isW s w = true) : Ev (fun k => spec_l01Digits.f k s w) (dg s w) := by
  have hl := isSp_len hs
  obtain ⟨w0, w1⟩ := isW_b hs hw
  unfold spec_l01Digits.f
  refine Ev.iff_pos (by omega) (Ev.iff_pos (by omega) ?_)
  have e : wrap64 ((s.length : Int) - 1) = (s.length : Int) - 1 := wrap_id (by omega) (by omega)
  rw [e]
  have := l01Digits_l (isSp_all hs) hl s.length w (List.replicate ((s.length : Int)).toNat 0) (Nat.le_refl _) (by simp) w0 w1
  rw [dloop_eq s s.length w _ (Nat.le_refl _) (by simp)] at this
  simpa [dg] using this
def mdL (s : List Int) (w : Int) : Int → List Int → Int
  | a, [] => a
  | a, x :: l => mdL s w (mn a (dist s x w)) l
theorem mdL_le (s : List Int) (w : Int) : ∀ (l : List Int) (a : Int), mdL s w a l ≤ a
  | [], a => Int.le_refl a
  | x :: l, a => by
    have := mdL_le s w l (mn a (dist s x w))
    have h : mn a (dist s x w) ≤ a := by
      unfold mn
      split <;> omega
    simp only [mdL]
    omega
theorem l02To_l {s c : List Int} (hs : isSp s = true) (hc : isC s c = true) {w : Int} (hw : isW s w = true) : ∀ (m n : Nat) (a : Int), n + m = c.length →
    Ev (fun k => spec_l02To.l0 k c w a (n : Int) s) (mdL s w a (c.drop n))
  | 0, n, a, hm => by
    refine Ev.step (fun k => by simp only [spec_l02To.l0]; exact rfl) ?_
    refine Ev.iff_neg (by omega) ?_
    rw [drop_all (by omega)]
    exact Ev.now _
  | m + 1, n, a, hm => by
    have hn : n < c.length := by omega
    have hl := isC_len hs hc
    refine Ev.step (fun k => by simp only [spec_l02To.l0]; exact rfl) ?_
    refine Ev.iff_pos (by omega) ?_
    refine Ev.iff_pos (by omega) ?_
    refine Ev.bind (l01Distance_ev hs (isC_rd hc hn) hw) ?_
    rw [wrap_nat (by unfold maxLen; omega), drop_cons c hn, mdL]
    exact l02To_l hs hc hw m (n + 1) _ (by omega)
theorem dist_8 {s : List Int} (hs : isSp s = true) (u w : Int) : dist s u w ≤ 8 := by
  have := dist_le s u w
  have := isSp_len hs
  omega
theorem l02To_ev {s c : List Int} (hs : isSp s = true) (hc : isC s c = true) {w : Int} (hw : isW s w = true) (hp : 0 < c.length) {b : Int} (hb : 8 ≤ b) : Ev (fun k => spec_l02To.f k s c w) (mdL s w b c) := by
  unfold spec_l02To.f
  refine Ev.iff_pos (by omega) ?_
  have h0 := l01Distance_ev hs (isC_rd hc hp) hw
  refine Ev.bind (a := dist s (rd c 0) w) (by simpa using h0) ?_
  have := l02To_l hs hc hw (c.length - 1) 1 (dist s (rd c 0) w) (by omega)
  have e : mdL s w b c = mdL s w (dist s (rd c 0) w) (c.drop 1) := by
    have h1 := drop_cons c hp
    rw [List.drop_zero] at h1
    rw [show mdL s w b c = mdL s w b (rd c ((0 : Nat) : Int) :: c.drop (0 + 1)) from congrArg _ h1, mdL]
    have h2 := dist_8 hs (rd c 0) w
    have : mn b (dist s (rd c 0) w) = dist s (rd c 0) w := by
      unfold mn
      split <;> omega
    rw [show ((0 : Nat) : Int) = 0 from rfl, this]
  rw [e]
  exact this
def rCover (s c : List Int) (r : Int) : Int := if rCode s c [] = 0 then if 0 ≤ r ∧ r ≤ 8 then 0 else 2 else rCode s c []
theorem rCover_zero {s c : List Int} {r : Int} (h : rCover s c r = 0) : isSp s = true ∧ isC s c = true ∧ 0 ≤ r ∧ r ≤ 8 := by
  unfold rCover at h
  split at h
  · rename_i hw
    obtain ⟨h1, h2, _⟩ := rCode_zero hw
    split at h
    · rename_i hr
      exact ⟨h1, h2, hr⟩
    · cases h
  · rename_i hw
    exact absurd h hw
theorem isRadius_eq' (r : Int) : impl_isRadius.f r = some (decide (0 ≤ r ∧ r ≤ 8)) := by
  unfold impl_isRadius.f
  by_cases h : r ≥ 0
  · rw [if_pos h]
    simp
    omega
  · rw [if_neg h]
    simp
    omega
theorem l02Code_ev (s : List Int) {c : List Int} (hc : c.length ≤ 1048576) (r : Int) : Ev (fun k => spec_l02Code.f k s c r) (rCover s c r) := by
  unfold spec_l02Code.f rCover
  refine Ev.bind (l01Given_ev s hc) ?_
  by_cases h : rCode s c [] = 0
  · simp only [if_pos h]
    refine Ev.bindc (l01In_eq _ _ _) ?_
    by_cases hr : 0 ≤ r ∧ r ≤ 8
    · rw [if_pos hr]
      refine Ev.iff_pos (by simp; omega) ?_
      rw [h]
      exact Ev.now _
    · rw [if_neg hr]
      exact Ev.iff_neg (by simp; omega) (Ev.now _)
  · simp only [if_neg h]
    exact Ev.now _
theorem coverCode_ev (s : List Int) {c : List Int} (hc : c.length ≤ 1048576) (r : Int) : Ev (fun k => impl_coverCode.f k s c r) (rCover s c r) := by
  unfold impl_coverCode.f rCover
  refine Ev.bind (codeCode_ev s hc (by simp)) ?_
  by_cases h : rCode s c [] = 0
  · simp only [if_pos h]
    refine Ev.bindc (isRadius_eq' r) ?_
    by_cases hr : 0 ≤ r ∧ r ≤ 8
    · rw [if_pos hr]
      exact Ev.iff_pos (by simp; omega) (Ev.now _)
    · rw [if_neg hr]
      exact Ev.iff_neg (by simp; omega) (Ev.now _)
  · simp only [if_neg h]
    exact Ev.now _
def ballL (s : List Int) (w r : Int) : List Int := selL (fun u => decide (dist s w u ≤ r)) (NW s)
theorem ballL_len {s : List Int} (hs : isSp s = true) (w r : Int) : (ballL s w r).length ≤ 1024 := by
  have := selL_len (fun u => decide (dist s w u ≤ r)) (NW s)
  have := NW_le hs
  unfold ballL
  omega
theorem l01Ball_l {s : List Int} (hs : isSp s = true) {w : Int} (hw : isW s w = true) (r : Int) : ∀ (m n : Nat), n + m = NW s →
    Ev (fun k => spec_l01Ball.l0 k w r (selL (fun u => decide (dist s w u ≤ r)) n) (n : Int) s) (ballL s w r)
  | 0, n, hm => by
    have hN := NW_eq hs
    obtain rfl : n = NW s := by omega
    refine Ev.step (fun k => by simp only [spec_l01Ball.l0]; exact rfl) ?_
    refine Ev.bind (l01N_sp hs) ?_
    refine Ev.iff_neg (by omega) ?_
    exact Ev.now _
  | m + 1, n, hm => by
    have hN := NW_eq hs
    have hle := NW_le hs
    have hlen := selL_len (fun u => decide (dist s w u ≤ r)) n
    have ih := l01Ball_l hs hw r m (n + 1) (by omega)
    rw [selL_succ] at ih
    refine Ev.step (fun k => by simp only [spec_l01Ball.l0]; exact rfl) ?_
    refine Ev.bind (l01N_sp hs) ?_
    refine Ev.iff_pos (by omega) ?_
    refine Ev.bind (l01Distance_ev hs (isW_nat hs (show n < NW s by omega)) hw) ?_
    rw [dist_comm, wrap_nat (by unfold maxLen; omega)]
    by_cases h : dist s w (n : Int) ≤ r
    · rw [decide_eq_true h, if_pos rfl] at ih
      exact Ev.iff_pos h (Ev.iff_pos (by omega) ih)
    · rw [decide_eq_false h, if_neg (by simp), List.append_nil] at ih
      exact Ev.iff_neg h ih
theorem l01Ball_ev {s : List Int} (hs : isSp s = true) {w : Int} (hw : isW s w = true) (r : Int) : Ev (fun k => spec_l01Ball.f k s w r) (ballL s w r) := by
  unfold spec_l01Ball.f
  simpa [selL] using l01Ball_l hs hw r (NW s) 0 (by omega)
def rSome (s c ws : List Int) : Int := if rCode s c ws = 0 then if c.length = 0 then 5 else 0 else rCode s c ws
theorem rSome_zero {s c ws : List Int} (h : rSome s c ws = 0) : isSp s = true ∧ isC s c = true ∧ (∀ x ∈ ws, isW s x = true) ∧ 0 < c.length := by
  unfold rSome at h
  split at h
  · rename_i hw
    obtain ⟨h1, h2, h3⟩ := rCode_zero hw
    split at h
    · cases h
    · exact ⟨h1, h2, h3, by omega⟩
  · rename_i hw
    exact absurd h hw
theorem someCode_ev (s : List Int) {c ws : List Int} (hc : c.length ≤ 1048576) (hw : ws.length ≤ 1048576) : Ev (fun k => impl_someCode.f k s c ws) (rSome s c ws) := by
  unfold impl_someCode.f rSome
  refine Ev.bind (codeCode_ev s hc hw) ?_
  by_cases h : rCode s c ws = 0
  · simp only [if_pos h]
    by_cases h2 : c.length = 0
    · rw [if_pos h2]
      exact Ev.iff_pos (by omega) (Ev.now _)
    · rw [if_neg h2]
      exact Ev.iff_neg (by omega) (Ev.now _)
  · simp only [if_neg h]
    exact Ev.now _
theorem l02Full_ev (s : List Int) {c : List Int} (hc : c.length ≤ 1048576) : Ev (fun k => spec_l02Full.f k s c) (rSome s c []) := by
  unfold spec_l02Full.f rSome
  refine Ev.bind (l01Given_ev s hc) ?_
  by_cases h : rCode s c [] = 0
  · simp only [if_pos h]
    by_cases h2 : c.length = 0
    · rw [if_pos h2]
      exact Ev.iff_pos (by omega) (Ev.now _)
    · rw [if_neg h2]
      refine Ev.iff_neg (by omega) ?_
      rw [h]
      exact Ev.now _
  · simp only [if_neg h]
    exact Ev.now _
def farW (s c : List Int) : List Int := (List.range (NW s)).map fun (u : Nat) => mdL s (u : Int) 8 c
theorem farW_length (s c : List Int) : (farW s c).length = NW s := by simp [farW]
theorem farW_rd (s c : List Int) {n : Nat} (h : n < NW s) : rd (farW s c) (n : Int) = mdL s (n : Int) 8 c := by
  simp [rd, farW, List.getD_eq_getElem?_getD, h]
theorem fold_mdL {s : List Int} (hl : s.length ≤ 8) (u : Int) : ∀ (c : List Int) (a : Int), c.foldl (fun a x => mn a (ham (dig8 s u) (dig8 s x))) a = mdL s u a c
  | [], a => rfl
  | x :: c, a => by
    rw [List.foldl_cons, mdL, fold_mdL hl u c, ham_dig8 hl, dist_comm]
theorem farness_eq {s c : List Int} (hs : isSp s = true) (hc : isC s c = true) (hp : 0 < c.length) : impl_farness.f s c = some (farW s c) := by
  unfold impl_farness.f
  have hl := isC_len hs hc
  rw [if_pos ⟨hs, by rw [List.all_eq_true]; exact isC_words hc, hp, by omega⟩]
  congr 1
  unfold farL farW NW
  apply List.map_congr_left
  intro u _
  unfold fq
  rw [List.take_length, fold_mdL (isSp_len hs)]
theorem NW_pos {s : List Int} (hs : isSp s = true) : 0 < NW s := by
  have := NW_eq hs
  have := isSp_prd1 hs
  omega
def cov (s c : List Int) (r u : Int) : Int := ((c.countP fun w => decide (dist s w u ≤ r) : Nat) : Int)
def covL (s c : List Int) (r : Int) : List Int := (List.range (NW s)).map fun (u : Nat) => cov s c r (u : Int)
theorem cov_nonneg (s c : List Int) (r u : Int) : 0 ≤ cov s c r u := by unfold cov; omega
theorem cov_le (s c : List Int) (r u : Int) : cov s c r u ≤ c.length := by
  unfold cov
  have := List.countP_le_length (p := fun w => decide (dist s w u ≤ r)) (l := c)
  omega
theorem covL_length (s c : List Int) (r : Int) : (covL s c r).length = NW s := by simp [covL]
theorem covL_mem {s c : List Int} {r t : Int} (h : t ∈ covL s c r) : 0 ≤ t ∧ t ≤ c.length := by
  simp only [covL, List.mem_map] at h
  obtain ⟨u, _, rfl⟩ := h
  exact ⟨cov_nonneg _ _ _ _, cov_le _ _ _ _⟩
theorem covL_rd (s c : List Int) (r : Int) {n : Nat} (h : n < NW s) : rd (covL s c r) (n : Int) = cov s c r (n : Int) := by
  simp [rd, covL, List.getD_eq_getElem?_getD, h]
theorem times_eq {s c : List Int} (hs : isSp s = true) (hc : isC s c = true) (r : Int) : impl_times.f s c r = some (covL s c r) := by
  unfold impl_times.f
  have hl := isC_len hs hc
  rw [if_pos ⟨hs, by rw [List.all_eq_true]; exact isC_words hc, by omega⟩]
  congr 1
  unfold timesL covL NW
  apply List.map_congr_left
  intro u _
  unfold tm cov
  rw [List.take_length]
  simp only [ham_dig8 (isSp_len hs)]
def incL (L : List Int) (x : Int) : List Int := L.set x.toNat (rd L x + 1)
theorem incL_gen (f : Nat → Int) (P : Nat) {x : Nat} (h : x < P) : incL ((List.range P).map f) (x : Int) = (List.range P).map fun u => f u + if u = x then 1 else 0 := by
  unfold incL
  rw [Int.toNat_natCast]
  apply List.ext_getElem?
  intro k
  by_cases hk : k = x
  · subst hk
    rw [List.getElem?_set_self (by simpa using h)]
    simp [rd, List.getD_eq_getElem?_getD, h]
  · rw [List.getElem?_set_ne (fun e => hk e.symm)]
    simp only [List.getElem?_map]
    by_cases hp : k < P
    · simp [hp, hk]
    · rw [List.getElem?_eq_none (by simp; omega)]
      rfl
theorem incL_fold (P : Nat) (p : Int → Bool) : ∀ (n : Nat) (f : Nat → Int), n ≤ P → (selL p n).foldl incL ((List.range P).map f) = (List.range P).map fun u => f u + if u < n ∧ p (u : Int) = true then 1 else 0
  | 0, f, _ => by simp [selL]
  | n + 1, f, h => by
    rw [selL_succ, List.foldl_append, incL_fold P p n f (by omega)]
    by_cases hp : p (n : Int) = true
    · rw [if_pos hp]
      simp only [List.foldl_cons, List.foldl_nil]
      rw [incL_gen _ P (show n < P by omega)]
      apply List.map_congr_left
      intro u _
      by_cases hu : u = n
      · subst hu
        simp [hp]
      · by_cases hu2 : u < n
        · have : u < n + 1 := by omega
          simp [hu, hu2, this]
        · have : ¬ u < n + 1 := by omega
          simp [hu, hu2, this]
    · rw [if_neg hp, List.foldl_nil]
      apply List.map_congr_left
      intro u _
      by_cases hu : u = n
      · subst hu
        simp [hp]
      · by_cases hu2 : u < n
        · have : u < n + 1 := by omega
          simp [hu2, this]
        · have : ¬ u < n + 1 := by omega
          simp [hu2, this]
theorem incL_length (L : List Int) (x : Int) : (incL L x).length = L.length := by simp [incL]
theorem cov_succ (s c : List Int) (r : Int) {n : Nat} (h : n < c.length) (u : Int) : cov s (c.take (n + 1)) r u = cov s (c.take n) r u + if dist s (rd c (n : Int)) u ≤ r then 1 else 0 := by
  unfold cov
  rw [take_rd8 h, List.countP_append]
  by_cases hh : dist s (rd c (n : Int)) u ≤ r
  · simp [hh]
  · simp [hh]
def small (L : List Int) (b : Int) : Prop := ∀ t ∈ L, 0 ≤ t ∧ t ≤ b
theorem small_rd {L : List Int} {b : Int} (h : small L b) {x : Int} (h0 : 0 ≤ x) (h1 : x < L.length) : 0 ≤ rd L x ∧ rd L x ≤ b := by
  obtain ⟨n, rfl⟩ := Int.eq_ofNat_of_zero_le h0
  have hn : n < L.length := by omega
  have : rd L (n : Int) = L[n] := by simp [rd, List.getD_eq_getElem?_getD, hn]
  rw [this]
  exact h _ (List.getElem_mem hn)
theorem small_inc {L : List Int} {b : Int} (h : small L b) {x : Int} (h0 : 0 ≤ x) (h1 : x < L.length) : small (incL L x) (b + 1) := by
  intro t ht
  have hr := small_rd h h0 h1
  rcases List.mem_or_eq_of_mem_set ht with h' | rfl
  · have := h t h'
    omega
  · omega
theorem l02Times_in {s c : List Int} (hc : c.length ≤ 1024) (r : Int) (n : Nat) (B : List Int) (hB : ∀ x ∈ B, 0 ≤ x ∧ x < NW s) (hBl : B.length ≤ 1024) (R : List Int) :
    ∀ (m k0 : Nat) (L : List Int), k0 + m = B.length → L.length = NW s → small L ((n : Int) * 1024 + k0) → n ≤ 1024 →
      Ev (fun k => spec_l02Times.l0 k c r ((B.drop k0).foldl incL L) (((n + 1 : Nat)) : Int) s) R → Ev (fun k => spec_l02Times.l1 k c r L (n : Int) B (k0 : Int) s) R
  | 0, k0, L, hm, hL, hsm, hn, hev => by
    refine Ev.step (fun k => by simp only [spec_l02Times.l1]; exact rfl) ?_
    refine Ev.iff_neg (by omega) ?_
    rw [wrap_nat (by unfold maxLen; omega)]
    rw [drop_all (by omega)] at hev
    exact hev
  | m + 1, k0, L, hm, hL, hsm, hn, hev => by
    have hk : k0 < B.length := by omega
    have hx : 0 ≤ rd B (k0 : Int) ∧ rd B (k0 : Int) < NW s := by
      have : rd B (k0 : Int) = B[k0] := by simp [rd, List.getD_eq_getElem?_getD, hk]
      rw [this]
      exact hB _ (List.getElem_mem hk)
    have hr := small_rd hsm hx.1 (by rw [hL]; exact hx.2)
    refine Ev.step (fun k => by simp only [spec_l02Times.l1]; exact rfl) ?_
    refine Ev.iff_pos (by omega) (Ev.iff_pos (by omega) (Ev.iff_pos hx.1 (Ev.iff_pos (by rw [hL]; exact hx.2) ?_)))
    rw [wrap_nat (by unfold maxLen; omega), wrap_id (x := rd L (rd B (k0 : Int)) + 1) (by omega) (by omega)]
    refine l02Times_in hc r n B hB hBl R m (k0 + 1) (incL L (rd B (k0 : Int))) (by omega) (by rw [incL_length]; exact hL) ?_ hn ?_
    · have := small_inc hsm hx.1 (by rw [hL]; exact hx.2)
      have e : (n : Int) * 1024 + ((k0 + 1 : Nat) : Int) = (n : Int) * 1024 + k0 + 1 := by omega
      rw [e]
      exact this
    · rw [drop_cons B hk, List.foldl_cons] at hev
      exact hev
theorem l02Times_l {s c : List Int} (hs : isSp s = true) (hc : isC s c = true) (r : Int) : ∀ (m n : Nat), n + m = c.length →
    Ev (fun k => spec_l02Times.l0 k c r (covL s (c.take n) r) (n : Int) s) (covL s c r)
  | 0, n, hm => by
    refine Ev.step (fun k => by simp only [spec_l02Times.l0]; exact rfl) ?_
    refine Ev.iff_neg (by omega) ?_
    rw [List.take_of_length_le (by omega)]
    exact Ev.now _
  | m + 1, n, hm => by
    have hn : n < c.length := by omega
    have hl := isC_len hs hc
    refine Ev.step (fun k => by simp only [spec_l02Times.l0]; exact rfl) ?_
    refine Ev.iff_pos (by omega) (Ev.iff_pos (by omega) ?_)
    refine Ev.bind (l01Ball_ev hs (isC_rd hc hn) r) ?_
    have hN := NW_le hs
    refine l02Times_in hl r n (ballL s (rd c (n : Int)) r) (fun x hx => ?_) (ballL_len hs _ _) _ (ballL s (rd c (n : Int)) r).length 0 (covL s (c.take n) r) (by omega) (covL_length _ _ _) (fun t ht => ?_) (by omega) ?_
    · have := mem_selL.1 hx
      exact ⟨this.1, this.2.1⟩
    · have h1 := covL_mem ht
      have h2 : (c.take n).length ≤ n := List.length_take_le _ _
      refine ⟨h1.1, ?_⟩
      have : (n : Int) ≤ (n : Int) * 1024 := by omega
      omega
    · have := l02Times_l hs hc r m (n + 1) (by omega)
      have e : (ballL s (rd c (n : Int)) r).foldl incL (covL s (c.take n) r) = covL s (c.take (n + 1)) r := by
        unfold ballL covL
        rw [incL_fold (NW s) _ (NW s) _ (Nat.le_refl _)]
        apply List.map_congr_left
        intro u hu
        rw [cov_succ s c r hn]
        congr 1
        have hu' := List.mem_range.1 hu
        by_cases hh : dist s (rd c (n : Int)) (u : Int) ≤ r <;> simp [hh, hu']
      rw [List.drop_zero, e]
      exact this
theorem l02Times_ev {s c : List Int} (hs : isSp s = true) (hc : isC s c = true) (r : Int) : Ev (fun k => spec_l02Times.f k s c r) (covL s c r) := by
  unfold spec_l02Times.f
  have hN := NW_eq hs
  have hN2 := NW_le hs
  refine Ev.bind (l01N_sp hs) ?_
  refine Ev.iff_pos (by omega) (Ev.iff_pos (by omega) ?_)
  have := l02Times_l hs hc r c.length 0 (by omega)
  have e : covL s (c.take 0) r = List.replicate (prd s).toNat 0 := by
    unfold covL cov NW
    rw [List.eq_replicate_iff]
    simp
  rw [e] at this
  exact this
end Go.Proofs.Ytlfipjdjmpdblaa.Q
set_option linter.unusedVariables false
set_option linter.unusedSimpArgs false
namespace Go.Proofs.Ytlfipjdjmpdblaa.P
open Go.RowKit Go.Proofs.YtlfipjdjmpdblaaW.PrintWords Go.Proofs.YtlfipjdjmpdblaaW.PrintLast Go.Proofs.YtlfipjdjmpdblaaW.PrintMore CC
def decL (s T : List Int) (x r : Int) : List Int := (List.range T.length).map fun (u : Nat) => if ham (dig8 s x) (dig8 s (u : Int)) ≤ r then rd T (u : Int) - 1 else rd T (u : Int)
def decF (s T : List Int) (x r : Int) (u : Nat) : Int := if ham (dig8 s x) (dig8 s (u : Int)) ≤ r then rd T (u : Int) - 1 else rd T (u : Int)
theorem range_rd (T : List Int) {P : Nat} (h : T.length = P) : ((List.range P).map fun (u : Nat) => rd T (u : Int)) = T := by
  subst h
  apply List.ext_getElem
  · simp
  · intro i h1 h2
    simp [rd, List.getD_eq_getElem?_getD, h2]
def leanQ (s C : List Int) (r : Int) (T0 : List Int) : Nat → List Int × List Int
  | 0 => ([], T0)
  | n + 1 => if needQ s (leanQ s C r T0 n).2 (rd C (n : Int)) r 0 (prd s).toNat = true then ((leanQ s C r T0 n).1 ++ [rd C (n : Int)], (leanQ s C r T0 n).2) else ((leanQ s C r T0 n).1, decL s (leanQ s C r T0 n).2 (rd C (n : Int)) r)
theorem decL_length (s T : List Int) (x r : Int) : (decL s T x r).length = T.length := by simp [decL]
theorem leanQ_length (s C : List Int) (r : Int) (T0 : List Int) : ∀ n, (leanQ s C r T0 n).2.length = T0.length
  | 0 => rfl
  | n + 1 => by
    rw [leanQ]
    split
    · exact leanQ_length s C r T0 n
    · show (decL s _ _ _).length = T0.length
      rw [decL_length]
      exact leanQ_length s C r T0 n
theorem leanQ_out (s C : List Int) (r : Int) (T0 : List Int) : ∀ n, (leanQ s C r T0 n).1.length ≤ n
  | 0 => Nat.le_refl 0
  | n + 1 => by
    have := leanQ_out s C r T0 n
    rw [leanQ]
    split
    · show (_ ++ [_]).length ≤ n + 1
      rw [List.length_append, List.length_singleton]
      omega
    · show (leanQ s C r T0 n).1.length ≤ n + 1
      omega
theorem rd_map_range (f : Nat → Int) (P u : Nat) : rd ((List.range P).map f) (u : Int) = if u < P then f u else 0 := by
  by_cases h : u < P
  · simp [rd, List.getD_eq_getElem?_getD, h]
  · simp [rd, List.getD_eq_getElem?_getD, h]
theorem leanQ_bd (s C : List Int) (r : Int) (T0 : List Int) (h0 : ∀ u : Nat, 0 ≤ rd T0 (u : Int) ∧ rd T0 (u : Int) ≤ 1048576) : ∀ (n u : Nat), -(n : Int) ≤ rd (leanQ s C r T0 n).2 (u : Int) ∧ rd (leanQ s C r T0 n).2 (u : Int) ≤ 1048576
  | 0, u => by have := h0 u; simpa [leanQ] using this
  | n + 1, u => by
    have := leanQ_bd s C r T0 h0 n u
    rw [leanQ]
    split
    · show -((n + 1 : Nat) : Int) ≤ rd (leanQ s C r T0 n).2 (u : Int) ∧ rd (leanQ s C r T0 n).2 (u : Int) ≤ 1048576
      omega
    · show -((n + 1 : Nat) : Int) ≤ rd (decL s (leanQ s C r T0 n).2 (rd C (n : Int)) r) (u : Int) ∧ rd (decL s (leanQ s C r T0 n).2 (rd C (n : Int)) r) (u : Int) ≤ 1048576
      unfold decL
      rw [rd_map_range]
      split
      · split <;> omega
      · omega
theorem timesL_bd (s C : List Int) (r : Int) (hC : C.length ≤ 1048576) (u : Nat) : 0 ≤ rd (timesL s C r) (u : Int) ∧ rd (timesL s C r) (u : Int) ≤ 1048576 := by
  unfold timesL
  rw [rd_map_range]
  have h1 := tm_nonneg s C r C.length u
  have h2 := tm_le s C r C.length u
  split <;> omega
def leanR (s C : List Int) (r : Int) : List Int × Int := if Q.rCover s C r = 0 then ((leanQ s C r (timesL s C r) C.length).1, 0) else ([], Q.rCover s C r)
set_option maxHeartbeats 16000000 in
set_option maxRecDepth 100000 in
theorem lean_calls (A : Option Addr) (c : Nat) (s : List Int) (A1 : Option Addr) (c1 : Nat) (C : List Int) (r : Int) (w : World) (hr : Kd.C (Kd.int .i64) w A s.length s) (hc : s.length ≤ c) (hr1 : Kd.C (Kd.int .i64) w A1 C.length C) (hc1 : C.length ≤ c1) (hCl : C.length ≤ 1048576) :
    Calls Try.prog 45 #[.agg #[.slice A s.length c], .slice A1 C.length c1, .int .i64 r] w
      fun e w' => ∃ v, e = .returned (.tuple #[v, .int .i64 (leanR s C r).2]) ∧ Kd.R (Kd.int .i64) 2 w' w.heap.size (fun _ => True) v (leanR s C r).1 ∧ Below w.heap.size w w' := by
  have huS := Try.underlying26
  have huD := Try.underlying54
  have HR := Aside0.mk hr
  have HR1 := Aside0.mk hr1
  obtain ⟨kb, hbc⟩ := (Q.coverCode_ev s (c := C) hCl r).rounds
  have HBC := Aside0.mk hbc
  clear hr hr1 hbc
  go_enter Try.func45, Try.ntmps45
  have hcell : (w.alloc (.cells #[.slice A s.length c] 26)).heap[w.heap.size]? = some (.cells #[.slice A s.length c] 26 (0, 0)) := blk_new _ _
  have hB : Below w.heap.size w (w.alloc (.cells #[.slice A s.length c] 26)) := (Below.refl _ _).alloc (Nat.le_refl _) _
  have hcz : (w.alloc (.cells #[.slice A s.length c] 26)).cell? ⟨w.heap.size, 0, none⟩ = some (.slice A s.length c) := blk_cell hcell 0
  go_wp2_with fail
  refine (impl_coverCode.calls kb A c s A1 c1 C r (Q.rCover s C r) _ (Kd.C_below HR.out hB) hc (Kd.C_below HR1.out hB) hc1 HBC.out).mono ?_
  rintro e w0 ⟨rfl, hb⟩
  have K1 := Aside0.mk (blk_below hcell hb)
  have B1 := Aside0.mk (below_then hB hB.size hb)
  clear hcell hB hb hcz
  by_cases hz : Q.rCover s C r = 0
  · have HZ : Aside0 (leanR s C r = ((leanQ s C r (timesL s C r) C.length).1, 0)) := ⟨by unfold leanR; rw [if_pos hz]⟩
    obtain ⟨hs, hC, _⟩ := Q.rCover_zero hz
    have HS := Aside0.mk hs
    have hC2 : C.all (isW s) = true := by rw [List.all_eq_true]; exact Q.isC_words hC
    have HC := Aside0.mk hC2
    have hCl2 := Q.isC_len hs hC
    obtain ⟨kc, hcount⟩ := (Q.count_sp hs).rounds
    have HK := Aside0.mk hcount
    rw [hz]
    clear hs hC hC2 hz HBC hcount
    have hcz : w0.cell? ⟨w.heap.size, 0, none⟩ = some (.slice A s.length c) := blk_cell K1.out 0
    have hB1 : Below w.heap.size w w0 := B1.out
    have p0 := isSp_prd1 HS.out
    have p1 := isSp_prd HS.out
    obtain ⟨P, hP⟩ : ∃ P : Nat, prd s = (P : Int) := ⟨(prd s).toNat, by omega⟩
    have hP2 : (prd s).toNat = P := by omega
    have pP : P ≤ 1024 := by omega
    have pP0 : 1 ≤ P := by omega
    have HP := Aside0.mk hP
    have HP2 := Aside0.mk hP2
    have HTL : Aside0 ((timesL s C r).length = P) := ⟨by simp [timesL, hP2]⟩
    clear hP hP2 p0 p1
    go_upto_region 4 with (fail)
    go_cut [9, 10, 11] (fun v9 v10 v11 W => ∃ g cap, v9 = .slice (some ⟨g, 0, none⟩) P cap ∧ Aside0 (P ≤ cap) ∧ Aside0 (W.ownsRow w.heap.size 54 8 (.slice (some ⟨g, 0, none⟩) P cap) P (flat8 (all8 s P))) ∧ Aside0 (Kd.R (Kd.int .i64) 2 W w.heap.size (fun _ => True) v10 (timesL s C r)) ∧ (∃ vo, vo = v11 ∧ Aside0 (Kd.R (Kd.int .i64) 2 W w.heap.size (fun k => some k ≠ v10.ownBlock) vo ([] : List Int))) ∧ Aside0 (Below w.heap.size w W))
    case first =>
      go_region_held3 (fun w' => w'.cell? ⟨w.heap.size, 0, none⟩ = some (.slice A s.length c) ∧ Below w.heap.size w w') (first | exact ⟨hcz, below_drew hB1⟩ | exact ⟨blk_cell (blk_drew (blk_alloc K1.out _)) 0, below_drew (below_alloc hB1 _)⟩ | exact keepS hb (by assumption) | (refine keepS ((Below.refl _ _).alloc (Nat.le_refl _) _) ?_; assumption))
        (first
          | (go_at_call 99; refine (allDigits_calls A c s _ ?k1 hc HS.out kc ?k2).mono ?_; (case k1 => exact Kd.C_below HR.out (by first | assumption | exact (by assumption : _ ∧ Below _ _ _).2)); (case k2 => exact HK.out); rintro e w' ⟨v1, rfl, hD, hb⟩; have hz1 := hb.size; obtain ⟨wd, hwd⟩ : ∃ wd : World, wd = w' := ⟨_, rfl⟩; have hbd := hb)
          | (go_at_call 100; refine (times_calls A c s A1 c1 C r _ ?k1 hc ?k2 hc1 HS.out HC.out hCl).mono ?_; (case k1 => exact Kd.C_below HR.out (by first | assumption | exact (by assumption : _ ∧ Below _ _ _).2)); (case k2 => exact Kd.C_below HR1.out (by first | assumption | exact (by assumption : _ ∧ Below _ _ _).2)); rintro e w' ⟨v2, rfl, hT, hb⟩; have hz2 := hb.size; obtain ⟨wt, hwt⟩ : ∃ wt : World, wt = w' := ⟨_, rfl⟩; have hbt := hb))
      all_goals go_wp2
      all_goals go_meet
      all_goals
        subst hwd
        clear hwt
        rw [HP2.out] at hD
        obtain ⟨g, cap, rfl, hcap⟩ : ∃ g cap, v1 = .slice (some ⟨g, 0, none⟩) P cap ∧ P ≤ cap := by
          rcases hD.2 with ⟨_, h⟩ | ⟨g, cap, _, h, _, _, h2, _⟩
          · omega
          · exact ⟨g, cap, h, h2⟩
        have hz0 := hB1.size
        have hz3 : w0.heap.size ≤ wd.heap.size := by first | simpa using hz1 | (have := hz1; simp at this; omega)
        have hz4 : wd.heap.size ≤ w'.heap.size := by first | simpa using hz2 | (have := hz2; simp at this; omega)
        have hTl := Kd.R_lt hT
        have hTb := fun k hk => own_base (Kd.own_of_R hT) k hk
        first
          | exact ⟨g, cap, rfl, ⟨hcap⟩, ⟨own_weaken (own_alloc (pw_own_below hD hbt) _) (by simp; omega)⟩, ⟨Kd.R_alloc (Kd.R_lower hT (by omega)) _⟩, ⟨_, rfl, ⟨Kd.R_of_own ((show (w'.alloc (.cells #[] 2)).ownsRow w.heap.size 2 1 (.slice (some ⟨w'.heap.size, 0, none⟩) 0 0) 0 (nums .i64 []) from ⟨rfl, .inr ⟨w'.heap.size, 0, #[], rfl, by omega, blk_new w' (.cells #[] 2), by omega, by unfold maxLen; omega, rfl, rfl⟩⟩)) (fun k hk he => by have h1 := hTl k he.symm; simp [Value.ownBlock] at hk; omega)⟩⟩, ⟨(by assumption : _ ∧ Below w.heap.size w _).2⟩⟩
          | exact ⟨g, cap, rfl, ⟨hcap⟩, ⟨own_weaken (pw_own_below (own_alloc hD _) hbt) (by simp; omega)⟩, ⟨Kd.R_lower hT (by simp; omega)⟩, ⟨_, rfl, ⟨Kd.R_of_own (pw_own_below (show (wd.alloc (.cells #[] 2)).ownsRow w.heap.size 2 1 (.slice (some ⟨wd.heap.size, 0, none⟩) 0 0) 0 (nums .i64 []) from ⟨rfl, .inr ⟨wd.heap.size, 0, #[], rfl, by omega, blk_new wd (.cells #[] 2), by omega, by unfold maxLen; omega, rfl, rfl⟩⟩) hbt) (fun k hk he => by have h1 := hTb k he.symm; simp [Value.ownBlock] at hk h1; first | omega | (have h2 := hz1; simp at h2; omega))⟩⟩, ⟨(by assumption : _ ∧ Below w.heap.size w _).2⟩⟩
          | exact ⟨g, cap, rfl, ⟨hcap⟩, ⟨own_weaken (pw_own_below hD hbt) (by simp; omega)⟩, ⟨Kd.R_lower hT (by omega)⟩, ⟨_, rfl, ⟨Kd.R_of_own (pw_own_below (pw_own_below (show (w0.alloc (.cells #[] 2)).drew.ownsRow w.heap.size 2 1 (.slice (some ⟨w0.heap.size, 0, none⟩) 0 0) 0 (nums .i64 []) from ⟨rfl, .inr ⟨w0.heap.size, 0, #[], rfl, by omega, blk_drew (blk_new w0 (.cells #[] 2)), by omega, by unfold maxLen; omega, rfl, rfl⟩⟩) hbd) hbt) (fun k hk he => by have h1 := hTb k he.symm; simp [Value.ownBlock] at hk h1; first | omega | (have h2 := hz1; simp at h2; omega))⟩⟩, ⟨(by assumption : _ ∧ Below w.heap.size w _).2⟩⟩
    case rest =>
      obtain ⟨g, cap, rfl, HCAP, HD, HT0, ⟨vo, rfl, HO0⟩, HB⟩ := hcut
      obtain ⟨g8, cap8, e8, hb8, hl8, _⟩ := Kd.R_form HT0.out (by rw [HTL.out]; omega)
      subst e8
      have HT1 := Aside0.mk (Kd.own_of_R HT0.out)
      rw [HTL.out] at HT1
      have hcap := HCAP.out
      rw [HTL.out]
      go_wp2_with fail
      go_loopw [11, 31] (fun v i W => ∃ (n : Nat) (vo : Value), n ≤ C.length ∧ vo = v ∧ i = .int .i64 n ∧ Aside0 (W.ownsRow w.heap.size 54 8 (.slice (some ⟨g, 0, none⟩) P cap) P (flat8 (all8 s P))) ∧ Aside0 (W.ownsRow w.heap.size 2 1 (.slice (some ⟨g8, 0, none⟩) P cap8) P (nums .i64 (leanQ s C r (timesL s C r) n).2)) ∧ Aside0 (Kd.R (Kd.int .i64) 2 W w.heap.size (fun k => some k ≠ some g8) vo (leanQ s C r (timesL s C r) n).1) ∧ Aside0 (Below w.heap.size w W)) (fun _ i _ => C.length - (intOf i).toNat)
      case atStart => exact ⟨0, _, by omega, rfl, rfl, HD, HT1, ⟨HO0.out⟩, HB⟩
      case round =>
        clear HD HT1 HO0 HB
        obtain ⟨n, vo, hn, rfl, rfl, HD, HT, HO, HB⟩ := hrel
        have hQl : (leanQ s C r (timesL s C r) n).2.length = P := by rw [leanQ_length]; exact HTL.out
        have hQo := leanQ_out s C r (timesL s C r) n
        have HQS : Aside0 (leanQ s C r (timesL s C r) (n + 1) = if needQ s (leanQ s C r (timesL s C r) n).2 (rd C (n : Int)) r 0 P = true then ((leanQ s C r (timesL s C r) n).1 ++ [rd C (n : Int)], (leanQ s C r (timesL s C r) n).2) else ((leanQ s C r (timesL s C r) n).1, decL s (leanQ s C r (timesL s C r) n).2 (rd C (n : Int)) r)) := ⟨by rw [leanQ, HP2.out]⟩
        by_cases hlt : n < C.length
        · obtain ⟨ad1, e1, _⟩ := Kd.at_int HR1.out (n : Int) (by omega) (by omega)
          subst e1
          have hx := rd_cell HR1.out HB.out n hlt
          obtain ⟨c0, c1'⟩ := code_rd HC.out hlt
          rw [HP.out] at c1'
          have HTB := Aside0.mk (leanQ_bd s C r _ (timesL_bd s C r hCl) n)
          generalize rd C (n : Int) = x at *
          generalize (leanQ s C r (timesL s C r) n).2 = T at *
          generalize (leanQ s C r (timesL s C r) n).1 = O at *
          go_wp2_with fail
          have hTR : Kd.R (Kd.int .i64) 2 wr w.heap.size (fun _ => True) (.slice (some ⟨g8, 0, none⟩) P cap8) T := Kd.R_of_own (by rw [hQl]; exact HT.out) (fun _ _ => trivial)
          have hTC := Kd.R_reads' hTR
          have hN := needed_calls s T P g cap w.heap.size (some ⟨g8, 0, none⟩) cap8 x r wr HD.out hcap hTC.2.2 (by rw [hQl]; exact hTC.2.1) hQl pP c0 c1'
          rw [hQl] at hN
          refine hN.mono ?_
          rintro e w2 ⟨rfl, hb⟩
          have HD2 := Aside0.mk (pw_own_below HD.out hb)
          have HT2 := Aside0.mk (pw_own_below HT.out hb)
          have HO2 := Aside0.mk (Kd.R_below HO.out hb)
          have HB2 := Aside0.mk (below_then HB.out HB.out.size hb)
          clear hN hTR hTC HD HT HO HB hb hx
          by_cases hnd : needQ s T x r 0 P = true
          · have HQ2 : Aside0 (leanQ s C r (timesL s C r) (n + 1) = (O ++ [x], T)) := ⟨by rw [HQS.out, if_pos hnd]⟩
            rw [hnd]
            clear HQS hnd
            have hTR2 : Kd.R (Kd.int .i64) 2 w2 w.heap.size (fun _ => True) (.slice (some ⟨g8, 0, none⟩) P cap8) T := Kd.R_of_own (by rw [hQl]; exact HT2.out) (fun _ _ => trivial)
            have HF := Aside0.mk (Kd.fresh' (Kd.R_lt hTR2))
            clear hTR2
            go_wp2_with ((with_reducible refine gate_builtin (b := .append) (xs := #[.tmp 40, .tmp 42]) rfl ?_); at_builtin; refine Kd.R_append (Kd.int .i64) (w0 := w) w.heap.size rfl (.tmp 40) (.tmp 42) 24 2 (.int .i64 0) 8 rfl Try.underlying24 infoI rfl (by decide) (by omega) vo O x [.int .i64 x] (fun k_ => some k_ ≠ some g8) (fun _ => False) rfl rfl ?aP (fun _ hk => hk.elim) ?aF ?aO ?aB ?aS ?aL ?_)
            case aP => exact rfl
            case aF => exact HF.out
            case aO => exact HO2.out
            case aB => exact HB2.out
            case aS => exact HB2.out.size
            case aL => omega
            intro v1 w3 ho hb3 hg hat
            have HT3 := Aside0.mk (own_other HT2.out hg (.inr (fun e => HO2.out.1 g8 e.symm rfl)))
            have HD3 := Aside0.mk (own_other HD2.out hg (own_type_ne HD2.out (Kd.own_of_R HO2.out) (by decide)))
            have HO3 := Aside0.mk ho
            have HB3 := Aside0.mk hb3
            clear ho hb3 hg hat HT2 HD2 HO2 HB2 HF
            go_wp2
            go_roundw
            case rel => exact ⟨n + 1, v1, by omega, rfl, by go_num, HD3, ⟨by rw [HQ2.out]; exact HT3.out⟩, ⟨by rw [HQ2.out]; exact Kd.R_mono HO3.out (fun k hk => by simpa using hk)⟩, HB3⟩
            case measure => simp [intOf]; omega
          · have HQ2 : Aside0 (leanQ s C r (timesL s C r) (n + 1) = (O, decL s T x r)) := ⟨by rw [HQS.out, if_neg hnd]⟩
            rw [Bool.not_eq_true] at hnd
            rw [hnd]
            clear HQS hnd
            go_wp2_with fail
            obtain ⟨wn, hwn⟩ : ∃ wn : Nat, x = (wn : Int) := ⟨x.toNat, by omega⟩
            subst hwn
            have hwP : wn < P := by omega
            obtain ⟨x0, x1, x2, x3, x4, x5, x6, x7, hxe⟩ := eight (dig8_length s (wn : Int))
            have HXE := Aside0.mk hxe
            have HDL : Aside0 (decL s T (wn : Int) r = (List.range P).map fun (u : Nat) => decF s T (wn : Int) r u) := ⟨by unfold decL; rw [hQl]; rfl⟩
            have hT0 := range_rd T hQl
            clear hxe
            go_loopw [46] (fun i W => ∃ (m : Nat), m ≤ P ∧ i = .int .i64 m ∧ Aside0 (W.ownsRow w.heap.size 54 8 (.slice (some ⟨g, 0, none⟩) P cap) P (flat8 (all8 s P))) ∧ Aside0 (W.ownsRow w.heap.size 2 1 (.slice (some ⟨g8, 0, none⟩) P cap8) P (nums .i64 (mix (decF s T (wn : Int) r) (fun u => rd T (u : Int)) P m))) ∧ Aside0 (Kd.R (Kd.int .i64) 2 W w.heap.size (fun k => some k ≠ some g8) vo O) ∧ Aside0 (Below w.heap.size w W)) (fun i _ => P - (intOf i).toNat)
            case atStart => exact ⟨0, by omega, rfl, HD2, ⟨by rw [mix_zero, hT0]; exact HT2.out⟩, HO2, HB2⟩
            case round =>
              clear HD2 HT2 HO2 HB2 hT0
              obtain ⟨m, hm, rfl, HD, HT, HO, HB⟩ := hrel
              by_cases hmP : m < P
              · obtain ⟨y0, y1, y2, y3, y4, y5, y6, y7, hye⟩ := eight (dig8_length s (m : Int))
                obtain ⟨k0, k1, k2, k3, k4, k5, k6, k7⟩ := row8 HD.out hmP hye
                obtain ⟨f0, f1, f2, f3, f4, f5, f6, f7⟩ := row8 HD.out hwP HXE.out
                have HF : Aside0 (decF s T (wn : Int) r m = if ham [x0, x1, x2, x3, x4, x5, x6, x7] [y0, y1, y2, y3, y4, y5, y6, y7] ≤ r then rd T (m : Int) - 1 else rd T (m : Int)) := ⟨by unfold decF; rw [HXE.out, hye]⟩
                have HMS := Aside0.mk (mix_set (decF s T (wn : Int) r) (fun u => rd T (u : Int)) hmP)
                have HMR : Aside0 (rd (mix (decF s T (wn : Int) r) (fun u => rd T (u : Int)) P m) (m : Int) = rd T (m : Int)) := ⟨mix_rd (decF s T (wn : Int) r) (fun u => rd T (u : Int)) hmP⟩
                have HMK := Aside0.mk (fun (e : decF s T (wn : Int) r m = rd T (m : Int)) => mix_skip (decF s T (wn : Int) r) (fun u => rd T (u : Int)) hmP e)
                have hv := HTB.out m
                clear hye
                by_cases hh : ham [x0, x1, x2, x3, x4, x5, x6, x7] [y0, y1, y2, y3, y4, y5, y6, y7] ≤ r
                · have t1 : decide (ham [x0, x1, x2, x3, x4, x5, x6, x7] [y0, y1, y2, y3, y4, y5, y6, y7] ≤ r) = true := decide_eq_true hh
                  have HF2 : Aside0 (decF s T (wn : Int) r m = rd T (m : Int) - 1) := ⟨by rw [HF.out, if_pos hh]⟩
                  clear hh HF HMK
                  go_wp2_with fail
                  go_region_held3 (fun w' => w'.cell? ⟨g, wn * 8, none⟩ = some (.int .u8 x0) ∧ w'.cell? ⟨g, wn * 8 + 1, none⟩ = some (.int .u8 x1) ∧ w'.cell? ⟨g, wn * 8 + 2, none⟩ = some (.int .u8 x2) ∧ w'.cell? ⟨g, wn * 8 + 3, none⟩ = some (.int .u8 x3) ∧ w'.cell? ⟨g, wn * 8 + 4, none⟩ = some (.int .u8 x4) ∧ w'.cell? ⟨g, wn * 8 + 5, none⟩ = some (.int .u8 x5) ∧ w'.cell? ⟨g, wn * 8 + 6, none⟩ = some (.int .u8 x6) ∧ w'.cell? ⟨g, wn * 8 + 7, none⟩ = some (.int .u8 x7) ∧ w'.cell? ⟨g, m * 8, none⟩ = some (.int .u8 y0) ∧ w'.cell? ⟨g, m * 8 + 1, none⟩ = some (.int .u8 y1) ∧ w'.cell? ⟨g, m * 8 + 2, none⟩ = some (.int .u8 y2) ∧ w'.cell? ⟨g, m * 8 + 3, none⟩ = some (.int .u8 y3) ∧ w'.cell? ⟨g, m * 8 + 4, none⟩ = some (.int .u8 y4) ∧ w'.cell? ⟨g, m * 8 + 5, none⟩ = some (.int .u8 y5) ∧ w'.cell? ⟨g, m * 8 + 6, none⟩ = some (.int .u8 y6) ∧ w'.cell? ⟨g, m * 8 + 7, none⟩ = some (.int .u8 y7) ∧ Below wr.heap.size wr w') (first | exact ⟨f0, f1, f2, f3, f4, f5, f6, f7, k0, k1, k2, k3, k4, k5, k6, k7, below_drew (Below.refl _ _)⟩ | exact (And.imp (pw_cell_below hb) (And.imp (pw_cell_below hb) (And.imp (pw_cell_below hb) (And.imp (pw_cell_below hb) (And.imp (pw_cell_below hb) (And.imp (pw_cell_below hb) (And.imp (pw_cell_below hb) (And.imp (pw_cell_below hb) (And.imp (pw_cell_below hb) (And.imp (pw_cell_below hb) (And.imp (pw_cell_below hb) (And.imp (pw_cell_below hb) (And.imp (pw_cell_below hb) (And.imp (pw_cell_below hb) (And.imp (pw_cell_below hb) (And.imp (pw_cell_below hb) (fun hS => below_then hS hS.size hb))))))))))))))))) (by assumption))
                    (first
                      | (go_at_call 75; refine (far_calls8 x0 x1 x2 x3 x4 x5 x6 x7 y0 y1 y2 y3 y4 y5 y6 y7 _).mono ?_; rintro e w' ⟨rfl, hb⟩))
                  all_goals
                    obtain ⟨_, _, _, _, _, _, _, _, _, _, _, _, _, _, _, _, hBB⟩ := (by assumption : World.cell? _ ⟨g, wn * 8, none⟩ = some (Value.int .u8 x0) ∧ _)
                    have HD2 := Aside0.mk (pw_own_below HD.out hBB)
                    have HT2 := Aside0.mk (pw_own_below HT.out hBB)
                    have HO2 := Aside0.mk (Kd.R_below HO.out hBB)
                    have HB2 := Aside0.mk (below_then HB.out HB.out.size hBB)
                    obtain ⟨o1, o2⟩ := own_at HT2.out (m : Int) (by omega) (by omega)
                    rw [Int.toNat_natCast, HMR.out] at o1
                    rw [Int.toNat_natCast] at o2
                    have hst := own_store HT2.out (m : Int) (rd T (m : Int) - 1)
                    rw [Int.toNat_natCast, ← HF2.out, HMS.out, HF2.out] at hst
                    have HST := Aside0.mk hst
                    have HD3 := Aside0.mk (own_other HD2.out hst.2 (own_type_ne' HD2.out HT2.out (by decide)))
                    have HO3 := Aside0.mk (Kd.R_grown HO2.out hst.2 (fun k hk => hk))
                    have HB3 := Aside0.mk (pw_below_grown HB2.out _ HB2.out.size hst.2 (fun k hk => by injection hk with hk; subst hk; exact own_base HT2.out _ rfl))
                    clear hst HMS HMR HF2 hb
                    generalize rd T (m : Int) = z at *
                    go_wp2
                    go_roundw
                    case rel => exact ⟨m + 1, by omega, by go_num, HD3, ⟨HST.out.1⟩, HO3, HB3⟩
                    case measure => simp [intOf]; omega
                · have t1 : decide (ham [x0, x1, x2, x3, x4, x5, x6, x7] [y0, y1, y2, y3, y4, y5, y6, y7] ≤ r) = false := decide_eq_false hh
                  have HF2 : Aside0 (decF s T (wn : Int) r m = rd T (m : Int)) := ⟨by rw [HF.out, if_neg hh]⟩
                  clear hh HF
                  go_wp2_with fail
                  go_region_held3 (fun w' => w'.cell? ⟨g, wn * 8, none⟩ = some (.int .u8 x0) ∧ w'.cell? ⟨g, wn * 8 + 1, none⟩ = some (.int .u8 x1) ∧ w'.cell? ⟨g, wn * 8 + 2, none⟩ = some (.int .u8 x2) ∧ w'.cell? ⟨g, wn * 8 + 3, none⟩ = some (.int .u8 x3) ∧ w'.cell? ⟨g, wn * 8 + 4, none⟩ = some (.int .u8 x4) ∧ w'.cell? ⟨g, wn * 8 + 5, none⟩ = some (.int .u8 x5) ∧ w'.cell? ⟨g, wn * 8 + 6, none⟩ = some (.int .u8 x6) ∧ w'.cell? ⟨g, wn * 8 + 7, none⟩ = some (.int .u8 x7) ∧ w'.cell? ⟨g, m * 8, none⟩ = some (.int .u8 y0) ∧ w'.cell? ⟨g, m * 8 + 1, none⟩ = some (.int .u8 y1) ∧ w'.cell? ⟨g, m * 8 + 2, none⟩ = some (.int .u8 y2) ∧ w'.cell? ⟨g, m * 8 + 3, none⟩ = some (.int .u8 y3) ∧ w'.cell? ⟨g, m * 8 + 4, none⟩ = some (.int .u8 y4) ∧ w'.cell? ⟨g, m * 8 + 5, none⟩ = some (.int .u8 y5) ∧ w'.cell? ⟨g, m * 8 + 6, none⟩ = some (.int .u8 y6) ∧ w'.cell? ⟨g, m * 8 + 7, none⟩ = some (.int .u8 y7) ∧ Below wr.heap.size wr w') (first | exact ⟨f0, f1, f2, f3, f4, f5, f6, f7, k0, k1, k2, k3, k4, k5, k6, k7, below_drew (Below.refl _ _)⟩ | exact (And.imp (pw_cell_below hb) (And.imp (pw_cell_below hb) (And.imp (pw_cell_below hb) (And.imp (pw_cell_below hb) (And.imp (pw_cell_below hb) (And.imp (pw_cell_below hb) (And.imp (pw_cell_below hb) (And.imp (pw_cell_below hb) (And.imp (pw_cell_below hb) (And.imp (pw_cell_below hb) (And.imp (pw_cell_below hb) (And.imp (pw_cell_below hb) (And.imp (pw_cell_below hb) (And.imp (pw_cell_below hb) (And.imp (pw_cell_below hb) (And.imp (pw_cell_below hb) (fun hS => below_then hS hS.size hb))))))))))))))))) (by assumption))
                    (first
                      | (go_at_call 75; refine (far_calls8 x0 x1 x2 x3 x4 x5 x6 x7 y0 y1 y2 y3 y4 y5 y6 y7 _).mono ?_; rintro e w' ⟨rfl, hb⟩))
                  all_goals
                    obtain ⟨_, _, _, _, _, _, _, _, _, _, _, _, _, _, _, _, hBB⟩ := (by assumption : World.cell? _ ⟨g, wn * 8, none⟩ = some (Value.int .u8 x0) ∧ _)
                    have HD2 := Aside0.mk (pw_own_below HD.out hBB)
                    have HT2 : Aside0 (World.ownsRow _ w.heap.size 2 1 (.slice (some ⟨g8, 0, none⟩) P cap8) P (nums .i64 (mix (decF s T (wn : Int) r) (fun u => rd T (u : Int)) P (m + 1)))) := ⟨by rw [← HMK.out HF2.out]; exact pw_own_below HT.out hBB⟩
                    have HO2 := Aside0.mk (Kd.R_below HO.out hBB)
                    have HB2 := Aside0.mk (below_then HB.out HB.out.size hBB)
                    clear HMS HMR HMK HF2 hb
                    go_wp2
                    go_roundw
                    case rel => exact ⟨m + 1, by omega, by go_num, HD2, HT2, HO2, HB2⟩
                    case measure => simp [intOf]; omega
              · have hmP2 : m = P := by omega
                subst hmP2
                have hma := mix_all (decF s T (wn : Int) r) (fun u => rd T (u : Int)) m
                rw [hma] at HT
                clear hma
                go_wp2
                go_roundw
                case rel => exact ⟨n + 1, _, by omega, rfl, by go_num, HD, ⟨by rw [HQ2.out, HDL.out]; exact HT.out⟩, ⟨by rw [HQ2.out]; exact HO.out⟩, HB⟩
                case measure => simp [intOf]; omega
        · go_wp2
          go_ret2
          have hn2 : n = C.length := by omega
          subst hn2
          rw [HZ.out]
          exact ⟨_, rfl, Kd.R_mono HO.out (fun _ _ => trivial), HB.out⟩
  · have HZ : Aside0 (leanR s C r = ([], Q.rCover s C r)) := ⟨by unfold leanR; rw [if_neg hz]⟩
    clear HBC
    generalize Q.rCover s C r = z at *
    go_wp2
    go_ret2
    rw [HZ.out]
    exact ⟨_, rfl, Kd.R_nil _ _ _ _ _, B1.out⟩
def impl_LeanCode.f (l0_0 l1 : List Int) (a2 : Int) : Option (List Int × Int) := if l1.length ≤ 1048576 then some (leanR l0_0 l1 a2) else none
theorem impl_LeanCode.calls (A0_0 : Option Addr) (c0_0 : Nat) (l0_0 : List Int) (A1 : Option Addr) (c1 : Nat) (l1 : List Int) (a2 : Int) (r1 : List Int) (r2 : Int) (w : World) (hr0_0 : Kd.C (Kd.int .i64) w A0_0 l0_0.length l0_0) (hc0_0 : l0_0.length ≤ c0_0) (hr1 : Kd.C (Kd.int .i64) w A1 l1.length l1) (hc1 : l1.length ≤ c1) (h : impl_LeanCode.f l0_0 l1 a2 = some (r1, r2)) :
    Calls Try.prog 45 #[.agg #[.slice A0_0 l0_0.length c0_0], .slice A1 l1.length c1, .int .i64 a2] w fun e w' => ∃ v0_ : Value, e = .returned (.tuple #[v0_, .int .i64 r2]) ∧ Kd.R (Kd.int .i64) 2 w' w.heap.size (fun _ => True) v0_ r1 ∧ Below w.heap.size w w' := by
  unfold impl_LeanCode.f at h
  split at h
  · rename_i hc
    have he := Option.some.inj h
    obtain ⟨rfl, rfl⟩ : r1 = (leanR l0_0 l1 a2).1 ∧ r2 = (leanR l0_0 l1 a2).2 := by rw [he]; exact ⟨rfl, rfl⟩
    exact lean_calls A0_0 c0_0 l0_0 A1 c1 l1 a2 w hr0_0 hc0_0 hr1 hc1 hc
  · cases h
end Go.Proofs.Ytlfipjdjmpdblaa.P
set_option linter.unusedVariables false
set_option linter.unusedSimpArgs false
namespace Go.Proofs.Ytlfipjdjmpdblaa.Q
open Go.RowKit Go.Proofs.Ytlfipjdjmpdblaa.P Go.Proofs.YtlfipjdjmpdblaaW.PrintWords CC
def Wc : List Int → Nat → Int
  | [], 0 => 1
  | [], _ + 1 => 0
  | _ :: rs, 0 => Wc rs 0
  | q :: rs, k + 1 => Wc rs (k + 1) + Wc rs k * (q - 1)
theorem Wc_bound : ∀ (rs : List Int) (k : Nat), rs.all sizeOk = true → 0 ≤ Wc rs k ∧ Wc rs k ≤ 4 ^ rs.length
  | [], 0, _ => by simp [Wc]
  | [], k + 1, _ => by simp [Wc]
  | q :: rs, 0, h => by
    simp only [List.all_cons, Bool.and_eq_true] at h
    have := Wc_bound rs 0 h.2
    simp only [Wc, List.length_cons, Int.pow_succ]
    omega
  | q :: rs, k + 1, h => by
    simp only [List.all_cons, Bool.and_eq_true] at h
    have h1 := Wc_bound rs (k + 1) h.2
    have h2 := Wc_bound rs k h.2
    simp only [Wc, List.length_cons, Int.pow_succ]
    rcases (sizeOk_iff q).1 h.1 with rfl | rfl | rfl <;> omega
theorem Wc_far : ∀ (rs : List Int) (k : Nat), rs.length < k → Wc rs k = 0
  | [], 0, h => by simp at h
  | [], k + 1, _ => rfl
  | q :: rs, 0, h => by simp at h
  | q :: rs, k + 1, h => by
    simp only [List.length_cons] at h
    rw [Wc, Wc_far rs (k + 1) (by omega), Wc_far rs k (by omega)]
    omega
def wt (rs : List Int) (u : Int) : Int := ham (dgr rs 0) (dgr rs u)
theorem wt_nil (u : Int) : wt [] u = 0 := rfl
theorem wt_cons (q : Int) (rs : List Int) (u : Int) : wt (q :: rs) u = (if 0 = u % q then 0 else 1) + wt rs (u / q) := by
  simp only [wt, dgr, ham, Int.zero_emod, Int.zero_ediv]
theorem wt_nonneg (rs : List Int) (u : Int) : 0 ≤ wt rs u := ham_nonneg _ _
theorem wt_le (rs : List Int) (u : Int) : wt rs u ≤ rs.length := by
  have := ham_le (dgr rs 0) (dgr rs u)
  rw [dgr_length] at this
  exact this
theorem dist_wt (s : List Int) (u : Int) : dist s 0 u = wt s.reverse u := by
  unfold dist dg wt
  rw [ham_reverse _ _ (by rw [dgr_length, dgr_length])]
def cN (p : Nat → Bool) (n : Nat) : Nat := (List.range n).countP p
theorem cN_succ (p : Nat → Bool) (n : Nat) : cN p (n + 1) = cN p n + if p n then 1 else 0 := by
  unfold cN
  rw [List.range_succ, List.countP_append]
  simp [List.countP_cons]
theorem cN_congr {p r : Nat → Bool} {n : Nat} (h : ∀ i, i < n → p i = r i) : cN p n = cN r n := by
  unfold cN
  apply List.countP_congr
  intro i hi
  rw [h i (List.mem_range.1 hi)]
theorem cN_two (p : Nat → Bool) : ∀ n, cN p (2 * n) = cN (fun v => p (2 * v)) n + cN (fun v => p (2 * v + 1)) n
  | 0 => rfl
  | n + 1 => by
    rw [show 2 * (n + 1) = 2 * n + 1 + 1 by omega, cN_succ, cN_succ, cN_two p n, cN_succ, cN_succ]
    omega
theorem cN_three (p : Nat → Bool) : ∀ n, cN p (3 * n) = cN (fun v => p (3 * v)) n + cN (fun v => p (3 * v + 1)) n + cN (fun v => p (3 * v + 2)) n
  | 0 => rfl
  | n + 1 => by
    rw [show 3 * (n + 1) = 3 * n + 1 + 1 + 1 by omega, cN_succ, cN_succ, cN_succ, cN_three p n, cN_succ, cN_succ, cN_succ]
    omega
theorem cN_four (p : Nat → Bool) : ∀ n, cN p (4 * n) = cN (fun v => p (4 * v)) n + cN (fun v => p (4 * v + 1)) n + cN (fun v => p (4 * v + 2)) n + cN (fun v => p (4 * v + 3)) n
  | 0 => rfl
  | n + 1 => by
    rw [show 4 * (n + 1) = 4 * n + 1 + 1 + 1 + 1 by omega, cN_succ, cN_succ, cN_succ, cN_succ, cN_four p n, cN_succ, cN_succ, cN_succ, cN_succ]
    omega
theorem cN_false (n : Nat) : cN (fun _ => false) n = 0 := by simp [cN]
def cw (rs : List Int) (k : Nat) : Nat := cN (fun u => decide (wt rs (u : Int) = (k : Int))) (prd rs).toNat
theorem dig0 (q : Int) (rs : List Int) (v : Nat) (hq : 0 < q) : wt (q :: rs) (q * v) = wt rs v := by
  rw [wt_cons, Int.mul_emod_right, if_pos rfl, Int.mul_ediv_cancel_left _ (by omega)]
  omega
theorem dig1 (q : Int) (rs : List Int) (v : Nat) (d : Int) (hd : 1 ≤ d) (hq : d < q) : wt (q :: rs) (q * v + d) = 1 + wt rs v := by
  have h1 : (q * (v : Int) + d) % q = d := by
    rw [Int.add_comm, Int.add_mul_emod_self_left]
    exact Int.emod_eq_of_lt (by omega) hq
  have h2 : (q * (v : Int) + d) / q = v := by
    rw [Int.add_comm, Int.add_mul_ediv_left _ _ (by omega), Int.ediv_eq_zero_of_lt (by omega) hq]
    omega
  rw [wt_cons, h1, h2, if_neg (by omega)]
theorem cw_Wc : ∀ (rs : List Int) (k : Nat), rs.all sizeOk = true → (cw rs k : Int) = Wc rs k
  | [], 0, _ => by decide
  | [], k + 1, _ => by
    have : cw [] (k + 1) = 0 := by
      unfold cw
      rw [cN_congr (r := fun _ => false) (fun i _ => decide_eq_false (by rw [wt_nil]; omega)), cN_false]
    rw [this]
    rfl
  | q :: rs, 0, h => by
    simp only [List.all_cons, Bool.and_eq_true] at h
    rw [Wc, ← cw_Wc rs 0 h.2]
    have hp := prd_pos rs h.2
    have e1 : ∀ (v : Nat) (d : Int), 1 ≤ d → d < q → decide (wt (q :: rs) (q * v + d) = ((0 : Nat) : Int)) = false := fun v d h1 h2 => by
      rw [dig1 q rs v d h1 h2]
      have := wt_nonneg rs v
      simp
      omega
    have e0 : ∀ (v : Nat), decide (wt (q :: rs) (q * v) = ((0 : Nat) : Int)) = decide (wt rs v = ((0 : Nat) : Int)) := fun v => by
      rw [dig0 q rs v (by have := (sizeOk_iff q).1 h.1; omega)]
    unfold cw
    rcases (sizeOk_iff q).1 h.1 with rfl | rfl | rfl
    · rw [prd, show (2 * prd rs).toNat = 2 * (prd rs).toNat by omega, cN_two]
      rw [cN_congr (p := fun v => decide (wt (2 :: rs) ((2 * v : Nat) : Int) = ((0 : Nat) : Int))) (r := fun u => decide (wt rs (u : Int) = ((0 : Nat) : Int))) (fun i _ => by simpa using e0 i), cN_congr (p := fun v => decide (wt (2 :: rs) ((2 * v + 1 : Nat) : Int) = ((0 : Nat) : Int))) (r := fun _ => false) (fun i _ => by simpa using e1 i 1 (by omega) (by omega)), cN_false]
      omega
    · rw [prd, show (3 * prd rs).toNat = 3 * (prd rs).toNat by omega, cN_three]
      rw [cN_congr (p := fun v => decide (wt (3 :: rs) ((3 * v : Nat) : Int) = ((0 : Nat) : Int))) (r := fun u => decide (wt rs (u : Int) = ((0 : Nat) : Int))) (fun i _ => by simpa using e0 i), cN_congr (p := fun v => decide (wt (3 :: rs) ((3 * v + 1 : Nat) : Int) = ((0 : Nat) : Int))) (r := fun _ => false) (fun i _ => by simpa using e1 i 1 (by omega) (by omega)), cN_congr (p := fun v => decide (wt (3 :: rs) ((3 * v + 2 : Nat) : Int) = ((0 : Nat) : Int))) (r := fun _ => false) (fun i _ => by simpa using e1 i 2 (by omega) (by omega)), cN_false]
      omega
    · rw [prd, show (4 * prd rs).toNat = 4 * (prd rs).toNat by omega, cN_four]
      rw [cN_congr (p := fun v => decide (wt (4 :: rs) ((4 * v : Nat) : Int) = ((0 : Nat) : Int))) (r := fun u => decide (wt rs (u : Int) = ((0 : Nat) : Int))) (fun i _ => by simpa using e0 i), cN_congr (p := fun v => decide (wt (4 :: rs) ((4 * v + 1 : Nat) : Int) = ((0 : Nat) : Int))) (r := fun _ => false) (fun i _ => by simpa using e1 i 1 (by omega) (by omega)), cN_congr (p := fun v => decide (wt (4 :: rs) ((4 * v + 2 : Nat) : Int) = ((0 : Nat) : Int))) (r := fun _ => false) (fun i _ => by simpa using e1 i 2 (by omega) (by omega)), cN_congr (p := fun v => decide (wt (4 :: rs) ((4 * v + 3 : Nat) : Int) = ((0 : Nat) : Int))) (r := fun _ => false) (fun i _ => by simpa using e1 i 3 (by omega) (by omega)), cN_false]
      omega
  | q :: rs, k + 1, h => by
    simp only [List.all_cons, Bool.and_eq_true] at h
    rw [Wc, ← cw_Wc rs (k + 1) h.2, ← cw_Wc rs k h.2]
    have hp := prd_pos rs h.2
    have e1 : ∀ (v : Nat) (d : Int), 1 ≤ d → d < q → decide (wt (q :: rs) (q * v + d) = ((k + 1 : Nat) : Int)) = decide (wt rs v = (k : Int)) := fun v d h1 h2 => by
      rw [dig1 q rs v d h1 h2, decide_eq_decide]
      omega
    have e0 : ∀ (v : Nat), decide (wt (q :: rs) (q * v) = ((k + 1 : Nat) : Int)) = decide (wt rs v = ((k + 1 : Nat) : Int)) := fun v => by
      rw [dig0 q rs v (by have := (sizeOk_iff q).1 h.1; omega)]
    unfold cw
    rcases (sizeOk_iff q).1 h.1 with rfl | rfl | rfl
    · rw [prd, show (2 * prd rs).toNat = 2 * (prd rs).toNat by omega, cN_two]
      rw [cN_congr (p := fun v => decide (wt (2 :: rs) ((2 * v : Nat) : Int) = ((k + 1 : Nat) : Int))) (r := fun u => decide (wt rs (u : Int) = ((k + 1 : Nat) : Int))) (fun i _ => by simpa using e0 i), cN_congr (p := fun v => decide (wt (2 :: rs) ((2 * v + 1 : Nat) : Int) = ((k + 1 : Nat) : Int))) (r := fun u => decide (wt rs (u : Int) = (k : Int))) (fun i _ => by simpa using e1 i 1 (by omega) (by omega))]
      omega
    · rw [prd, show (3 * prd rs).toNat = 3 * (prd rs).toNat by omega, cN_three]
      rw [cN_congr (p := fun v => decide (wt (3 :: rs) ((3 * v : Nat) : Int) = ((k + 1 : Nat) : Int))) (r := fun u => decide (wt rs (u : Int) = ((k + 1 : Nat) : Int))) (fun i _ => by simpa using e0 i), cN_congr (p := fun v => decide (wt (3 :: rs) ((3 * v + 1 : Nat) : Int) = ((k + 1 : Nat) : Int))) (r := fun u => decide (wt rs (u : Int) = (k : Int))) (fun i _ => by simpa using e1 i 1 (by omega) (by omega)), cN_congr (p := fun v => decide (wt (3 :: rs) ((3 * v + 2 : Nat) : Int) = ((k + 1 : Nat) : Int))) (r := fun u => decide (wt rs (u : Int) = (k : Int))) (fun i _ => by simpa using e1 i 2 (by omega) (by omega))]
      omega
    · rw [prd, show (4 * prd rs).toNat = 4 * (prd rs).toNat by omega, cN_four]
      rw [cN_congr (p := fun v => decide (wt (4 :: rs) ((4 * v : Nat) : Int) = ((k + 1 : Nat) : Int))) (r := fun u => decide (wt rs (u : Int) = ((k + 1 : Nat) : Int))) (fun i _ => by simpa using e0 i), cN_congr (p := fun v => decide (wt (4 :: rs) ((4 * v + 1 : Nat) : Int) = ((k + 1 : Nat) : Int))) (r := fun u => decide (wt rs (u : Int) = (k : Int))) (fun i _ => by simpa using e1 i 1 (by omega) (by omega)), cN_congr (p := fun v => decide (wt (4 :: rs) ((4 * v + 2 : Nat) : Int) = ((k + 1 : Nat) : Int))) (r := fun u => decide (wt rs (u : Int) = (k : Int))) (fun i _ => by simpa using e1 i 2 (by omega) (by omega)), cN_congr (p := fun v => decide (wt (4 :: rs) ((4 * v + 3 : Nat) : Int) = ((k + 1 : Nat) : Int))) (r := fun u => decide (wt rs (u : Int) = (k : Int))) (fun i _ => by simpa using e1 i 3 (by omega) (by omega))]
      omega
def cl (rs : List Int) (n : Int) : Nat := cN (fun u => decide (wt rs (u : Int) < n)) (prd rs).toNat
theorem cl_succ (rs : List Int) (n : Nat) : cl rs ((n + 1 : Nat) : Int) = cl rs (n : Int) + cw rs n := by
  unfold cl cw
  generalize (prd rs).toNat = N
  induction N with
  | zero => rfl
  | succ m ih =>
    rw [cN_succ, cN_succ, cN_succ, ih]
    simp only [decide_eq_true_eq]
    by_cases h1 : wt rs (m : Int) < (n : Int)
    · have h2 : ¬ wt rs (m : Int) = (n : Int) := by omega
      have h3 : wt rs (m : Int) < ((n + 1 : Nat) : Int) := by omega
      rw [if_pos h1, if_neg h2, if_pos h3]
      omega
    · by_cases h2 : wt rs (m : Int) = (n : Int)
      · have h3 : wt rs (m : Int) < ((n + 1 : Nat) : Int) := by omega
        rw [if_neg h1, if_pos h2, if_pos h3]
        omega
      · have h3 : ¬ wt rs (m : Int) < ((n + 1 : Nat) : Int) := by omega
        rw [if_neg h1, if_neg h2, if_neg h3]
        omega
theorem ball_cl {s : List Int} (hs : isSp s = true) (r : Int) : (ballL s 0 r).length = cl s.reverse (r + 1) := by
  unfold ballL selL cl cN NW
  rw [List.length_map, prd_reverse, List.countP_eq_length_filter]
  congr 1
  apply List.filter_congr
  intro i _
  show decide (dist s 0 (i : Int) ≤ r) = decide (wt s.reverse (i : Int) < r + 1)
  rw [dist_wt, decide_eq_decide]
  omega
theorem cl_far {rs : List Int} {m r : Int} (hm : (rs.length : Int) < m) (hr : (rs.length : Int) < r) : cl rs m = cl rs r := by
  unfold cl
  apply cN_congr
  intro i _
  have := wt_le rs (i : Int)
  rw [decide_eq_decide]
  omega
theorem cl_zero (rs : List Int) : cl rs 0 = 0 := by
  unfold cl
  rw [cN_congr (r := fun _ => false) (fun i _ => ?_), cN_false]
  have := wt_nonneg rs (i : Int)
  simp
  omega
def fL (f : Nat → Int) (n : Nat) : List Int := (List.range n).map f
theorem fL_length (f : Nat → Int) (n : Nat) : (fL f n).length = n := by simp [fL]
theorem fL_rd (f : Nat → Int) {n k : Nat} (h : k < n) : rd (fL f n) (k : Int) = f k := by
  simp [rd, fL, List.getD_eq_getElem?_getD, h]
theorem fL_set (f : Nat → Int) (n k : Nat) (v : Int) : (fL f n).set k v = fL (fun j => if j = k then v else f j) n := by
  apply List.ext_getElem (by simp [fL])
  intro j h1 h2
  simp only [fL, List.getElem_set, List.getElem_map, List.getElem_range]
  by_cases h : k = j
  · rw [if_pos h, if_pos h.symm]
  · rw [if_neg h, if_neg (fun e => h e.symm)]
theorem fL_congr {f g : Nat → Int} {n : Nat} (h : ∀ j, j < n → f j = g j) : fL f n = fL g n := by
  unfold fL
  apply List.map_congr_left
  intro j hj
  exact h j (List.mem_range.1 hj)
def mid (q : Int) (rs : List Int) (j k : Nat) : Int := if j < k then Wc (q :: rs) k else Wc rs k
theorem all_take {s : List Int} (h : s.all sizeOk = true) (n : Nat) : (s.take n).reverse.all sizeOk = true := by
  rw [List.all_reverse, List.all_eq_true]
  intro x hx
  exact List.all_eq_true.1 h x (List.mem_of_mem_take hx)
theorem Wc_small {s : List Int} (h : s.all sizeOk = true) {n : Nat} (hn : n ≤ 8) (k : Nat) : 0 ≤ Wc (s.take n).reverse k ∧ Wc (s.take n).reverse k ≤ 65536 := by
  have h1 := Wc_bound (s.take n).reverse k (all_take h n)
  have h2 : (s.take n).reverse.length ≤ n := by
    rw [List.length_reverse]
    exact List.length_take_le _ _
  have h3 := pow48 (m := (s.take n).reverse.length) (by omega)
  omega
theorem l01Size_in {s : List Int} (hs : s.all sizeOk = true) (hl : s.length ≤ 8) (r R : Int) {i : Nat} (hi : i < s.length) : ∀ (j : Nat), j ≤ i + 1 →
    Ev (fun k => spec_l01Size.l0 k r (fL (mid (rd s (i : Int)) (s.take i).reverse 0) (s.length + 1)) ((i + 1 : Nat) : Int) s) R →
    Ev (fun k => spec_l01Size.l1 k r (fL (mid (rd s (i : Int)) (s.take i).reverse j) (s.length + 1)) (i : Int) (j : Int) s) R
  | 0, _, hev => by
    refine Ev.step (fun k => by simp only [spec_l01Size.l1]; exact rfl) ?_
    refine Ev.iff_neg (by omega) ?_
    rw [wrap_nat (by unfold maxLen; omega)]
    exact hev
  | j + 1, hj, hev => by
    refine Ev.step (fun k => by simp only [spec_l01Size.l1]; exact rfl) ?_
    have e1 : wrap64 (((j + 1 : Nat) : Int) - 1) = (j : Int) := by
      rw [wrap_id (by omega) (by omega)]
      omega
    have hq := all_rd hs hi
    have w0 := Wc_small hs (n := i) (by omega) j
    have w1 := Wc_small hs (n := i) (by omega) (j + 1)
    rw [e1]
    refine Ev.iff_pos (by omega) ?_
    refine Ev.iff_pos (by omega) ?_
    refine Ev.iff_pos (by rw [fL_length]; omega) ?_
    refine Ev.iff_pos (by omega) ?_
    refine Ev.iff_pos (by rw [fL_length]; omega) ?_
    refine Ev.iff_pos (by omega) ?_
    refine Ev.iff_pos (by omega) ?_
    rw [fL_rd _ (by omega), fL_rd _ (by omega), Int.toNat_natCast, fL_set]
    have e2 : wrap64 (mid (rd s (i : Int)) (s.take i).reverse (j + 1) (j + 1) + wrap64 (mid (rd s (i : Int)) (s.take i).reverse (j + 1) j * wrap64 (rd s (i : Int) - 1))) = Wc (rd s (i : Int) :: (s.take i).reverse) (j + 1) := by
      unfold mid
      rw [if_neg (by omega), if_neg (by omega), Wc, wrap_id (x := rd s (i : Int) - 1) (by omega) (by omega)]
      rcases hq with e | e | e <;> rw [e] <;> rw [wrap_id (x := _ * _) (by omega) (by omega), wrap_id (by omega) (by omega)]
    rw [e2]
    have e3 : fL (fun k => if k = j + 1 then Wc (rd s (i : Int) :: (s.take i).reverse) (j + 1) else mid (rd s (i : Int)) (s.take i).reverse (j + 1) k) (s.length + 1) = fL (mid (rd s (i : Int)) (s.take i).reverse j) (s.length + 1) := by
      apply fL_congr
      intro k _
      unfold mid
      by_cases h : k = j + 1
      · subst h
        rw [if_pos rfl, if_pos (by omega)]
      · rw [if_neg h]
        by_cases h2 : j + 1 < k
        · rw [if_pos h2, if_pos (by omega)]
        · rw [if_neg h2, if_neg (by omega)]
    rw [e3]
    exact l01Size_in hs hl r R hi j (by omega) hev
theorem l01Size_out {s : List Int} (hs : s.all sizeOk = true) (hl : s.length ≤ 8) (r R : Int)
    (hev : Ev (fun k => spec_l01Size.l2 k r (fL (Wc s.reverse) (s.length + 1)) 0 0) R) : ∀ (m i : Nat), i + m = s.length →
    Ev (fun k => spec_l01Size.l0 k r (fL (Wc (s.take i).reverse) (s.length + 1)) (i : Int) s) R
  | 0, i, hm => by
    refine Ev.step (fun k => by simp only [spec_l01Size.l0]; exact rfl) ?_
    refine Ev.iff_neg (by omega) ?_
    rw [List.take_of_length_le (by omega)]
    exact hev
  | m + 1, i, hm => by
    have hi : i < s.length := by omega
    refine Ev.step (fun k => by simp only [spec_l01Size.l0]; exact rfl) ?_
    refine Ev.iff_pos (by omega) ?_
    rw [wrap_nat (by unfold maxLen; omega)]
    have ih := l01Size_out hs hl r R hev m (i + 1) (by omega)
    have e1 : (s.take (i + 1)).reverse = rd s (i : Int) :: (s.take i).reverse := by
      rw [take_rd s (by omega), List.reverse_append]
      rfl
    have hlen : (s.take i).reverse.length = i := by
      rw [List.length_reverse, List.length_take]
      omega
    have e2 : fL (Wc (s.take i).reverse) (s.length + 1) = fL (mid (rd s (i : Int)) (s.take i).reverse (i + 1)) (s.length + 1) := by
      apply fL_congr
      intro k _
      unfold mid
      by_cases h : i + 1 < k
      · rw [if_pos h, Wc_far _ _ (by omega), Wc_far _ _ (by rw [List.length_cons]; omega)]
      · rw [if_neg h]
    have e3 : fL (mid (rd s (i : Int)) (s.take i).reverse 0) (s.length + 1) = fL (Wc (s.take (i + 1)).reverse) (s.length + 1) := by
      apply fL_congr
      intro k _
      unfold mid
      rw [e1]
      by_cases h : 0 < k
      · rw [if_pos h]
      · rw [if_neg h]
        have : k = 0 := by omega
        subst this
        rfl
    rw [e2]
    refine l01Size_in hs hl r R hi (i + 1) (by omega) ?_
    rw [e3]
    exact ih
theorem l01Size_sum {s : List Int} (hs : isSp s = true) {r : Int} (h0 : 0 ≤ r) (h1 : r ≤ 1024) : ∀ (m n : Nat), n + m = s.length + 1 → (n : Int) ≤ r + 1 →
    Ev (fun k => spec_l01Size.l2 k r (fL (Wc s.reverse) (s.length + 1)) (cl s.reverse (n : Int)) (n : Int)) (cl s.reverse (r + 1))
  | 0, n, hm, hn => by
    refine Ev.step (fun k => by simp only [spec_l01Size.l2]; exact rfl) ?_
    refine Ev.iff_neg (by rw [fL_length]; omega) ?_
    rw [cl_far (m := (n : Int)) (r := r + 1) (by rw [List.length_reverse]; omega) (by rw [List.length_reverse]; omega)]
    exact Ev.now _
  | m + 1, n, hm, hn => by
    have hl := isSp_len hs
    refine Ev.step (fun k => by simp only [spec_l01Size.l2]; exact rfl) ?_
    refine Ev.iff_pos (by rw [fL_length]; omega) ?_
    by_cases h : (n : Int) ≤ r
    · refine Ev.iff_pos h ?_
      refine Ev.iff_pos (by omega) ?_
      have hall : s.reverse.all sizeOk = true := by
        rw [List.all_reverse]
        exact isSp_all hs
      have hb := cl_succ s.reverse n
      have hle : cl s.reverse ((n + 1 : Nat) : Int) ≤ (prd s.reverse).toNat := by
        unfold cl cN
        have := List.countP_le_length (p := fun (u : Nat) => decide (wt s.reverse (u : Int) < ((n + 1 : Nat) : Int))) (l := List.range (prd s.reverse).toNat)
        rwa [List.length_range] at this
      rw [prd_reverse] at hle
      have hp := isSp_prd hs
      rw [fL_rd _ (by omega), ← cw_Wc _ _ hall, wrap_nat (by unfold maxLen; omega), wrap_id (by omega) (by omega)]
      have := l01Size_sum hs h0 h1 m (n + 1) (by omega) (by omega)
      have e : ((cl s.reverse (n : Int) : Nat) : Int) + (cw s.reverse n : Nat) = (cl s.reverse ((n + 1 : Nat) : Int) : Nat) := by omega
      rw [e]
      exact this
    · refine Ev.iff_neg h ?_
      have : r + 1 = (n : Int) := by omega
      rw [this]
      exact Ev.now _
theorem l01Size_ev {s : List Int} (hs : isSp s = true) {r : Int} (h0 : 0 ≤ r) (h1 : r ≤ 1024) : Ev (fun k => spec_l01Size.f k s r) ((ballL s 0 r).length : Int) := by
  unfold spec_l01Size.f
  have hl := isSp_len hs
  have e : wrap64 ((s.length : Int) + 1) = ((s.length + 1 : Nat) : Int) := wrap_nat (by unfold maxLen; omega)
  rw [e, Int.toNat_natCast]
  refine Ev.iff_pos (by omega) ?_
  refine Ev.iff_pos (by omega) ?_
  refine Ev.bindc rfl ?_
  refine Ev.iff_pos (by simp) ?_
  rw [ball_cl hs]
  have h2 := l01Size_sum hs h0 h1 (s.length + 1) 0 (by omega) (by omega)
  have e0 : ((cl s.reverse ((0 : Nat) : Int) : Nat) : Int) = 0 := by
    have := cl_zero s.reverse
    simpa using this
  rw [e0] at h2
  have := l01Size_out (isSp_all hs) hl r _ h2 s.length 0 (by omega)
  have e1 : (List.replicate (s.length + 1) (0 : Int)).set (0 : Int).toNat 1 = fL (Wc (s.take 0).reverse) (s.length + 1) := by
    apply List.ext_getElem (by simp [fL])
    intro j h1 h2
    cases j with
    | zero => simp [fL, Wc]
    | succ j => simp [fL, Wc]
  rw [e1]
  exact this
def ag (L : List Int) : Nat → Nat
  | 0 => 0
  | n + 1 => if maxQ L n < rd L (n : Int) then n else ag L n
theorem ag_law (L : List Int) : ∀ (n : Nat), n < L.length → ag L (n + 1) < n + 1 ∧ rd L (ag L (n + 1) : Nat) = maxQ L (n + 1) ∧ ∀ j : Nat, j < ag L (n + 1) → rd L (j : Int) < maxQ L (n + 1)
  | 0, h => by
    have h0 : maxQ L 0 = rd L 0 := by simp [maxQ]
    have e : ag L 1 = 0 := by
      simp only [ag, h0]
      rw [if_neg (by simp)]
    rw [show (0 + 1 : Nat) = 1 from rfl, e, maxQ_one L h]
    exact ⟨by omega, rfl, fun j hj => by omega⟩
  | n + 1, h => by
    obtain ⟨i1, i2, i3⟩ := ag_law L n (by omega)
    rw [maxQ_succ L h]
    unfold gr
    by_cases hh : maxQ L (n + 1) < rd L ((n + 1 : Nat) : Int)
    · have e : ag L (n + 1 + 1) = n + 1 := by
        rw [ag, if_pos hh]
      rw [e, if_pos hh]
      refine ⟨by omega, rfl, fun j hj => ?_⟩
      have key : ∀ (m : Nat), m ≤ n + 1 → ∀ j : Nat, j < m → rd L (j : Int) ≤ maxQ L m := by
        intro m
        induction m with
        | zero => intro _ j hj; omega
        | succ m ih =>
          intro hm j hj
          rw [maxQ_succ L (show m < L.length by omega)]
          unfold gr
          by_cases hj2 : j = m
          · subst hj2
            split <;> omega
          · have := ih (by omega) j (by omega)
            split <;> omega
      have := key (n + 1) (Nat.le_refl _) j hj
      omega
    · have e : ag L (n + 1 + 1) = ag L (n + 1) := by
        rw [ag, if_neg hh]
      rw [e, if_neg hh]
      exact ⟨by omega, i2, i3⟩
theorem l02Farthest_l {s c : List Int} (hs : isSp s = true) (hc : isC s c = true) (hp : 0 < c.length) : ∀ (m n : Nat), n + m = NW s →
    Ev (fun k => spec_l02Farthest.l0 k c (ag (farW s c) n) (maxQ (farW s c) n) (n : Int) s) ((ag (farW s c) (NW s) : Int), maxQ (farW s c) (NW s))
  | 0, n, hm => by
    have hN := NW_eq hs
    refine Ev.step (fun k => by simp only [spec_l02Farthest.l0]; exact rfl) ?_
    refine Ev.bind (l01N_sp hs) ?_
    refine Ev.iff_neg (by omega) ?_
    have : n = NW s := by omega
    subst this
    exact Ev.now _
  | m + 1, n, hm => by
    have hN := NW_eq hs
    have hN2 := NW_le hs
    have ih := l02Farthest_l hs hc hp m (n + 1) (by omega)
    refine Ev.step (fun k => by simp only [spec_l02Farthest.l0]; exact rfl) ?_
    refine Ev.bind (l01N_sp hs) ?_
    refine Ev.iff_pos (by omega) ?_
    refine Ev.bind (l02To_ev hs hc (isW_nat hs (show n < NW s by omega)) hp (b := 8) (by omega)) ?_
    rw [wrap_nat (by unfold maxLen; omega)]
    have hr := farW_rd s c (show n < NW s by omega)
    have h1 : maxQ (farW s c) (n + 1) = gr (maxQ (farW s c) n) (mdL s (n : Int) 8 c) := by
      rw [maxQ_succ _ (by rw [farW_length]; omega), hr]
    have h2 : ag (farW s c) (n + 1) = if maxQ (farW s c) n < mdL s (n : Int) 8 c then n else ag (farW s c) n := by
      rw [ag, hr]
    rw [h1, h2] at ih
    unfold gr at ih
    by_cases h : mdL s (n : Int) 8 c > maxQ (farW s c) n
    · refine Ev.iff_pos h ?_
      rw [if_pos (show maxQ (farW s c) n < mdL s (n : Int) 8 c from h), if_pos (show maxQ (farW s c) n < mdL s (n : Int) 8 c from h)] at ih
      exact ih
    · refine Ev.iff_neg h ?_
      rw [if_neg (show ¬ maxQ (farW s c) n < mdL s (n : Int) 8 c from h), if_neg (show ¬ maxQ (farW s c) n < mdL s (n : Int) 8 c from h)] at ih
      exact ih
theorem l02Farthest_ev {s c : List Int} (hs : isSp s = true) (hc : isC s c = true) (hp : 0 < c.length) : Ev (fun k => spec_l02Farthest.f k s c) ((ag (farW s c) (NW s) : Int), maxQ (farW s c) (NW s)) := by
  unfold spec_l02Farthest.f
  have hN := NW_pos hs
  have h0 := l02To_ev hs hc (isW_nat hs hN) hp (b := 8) (by omega)
  refine Ev.bind (a := mdL s 0 8 c) (by simpa using h0) ?_
  have := l02Farthest_l hs hc hp (NW s - 1) 1 (by omega)
  have hm : maxQ (farW s c) 1 = mdL s 0 8 c := by
    rw [maxQ_one _ (by rw [farW_length]; exact hN)]
    have := farW_rd s c hN
    simpa using this
  have ha : ag (farW s c) 1 < 1 := (ag_law (farW s c) 0 (by rw [farW_length]; exact hN)).1
  have ha0 : ag (farW s c) 1 = 0 := by omega
  rw [hm, ha0] at this
  exact this
theorem max_eq {s c : List Int} (hs : isSp s = true) : slices_Max_int64_int64.f (farW s c) = some (maxQ (farW s c) (NW s)) := by
  unfold slices_Max_int64_int64.f
  have hN := NW_pos hs
  have hN2 := NW_le hs
  rw [if_pos ⟨by rw [farW_length]; omega, by rw [farW_length]; omega⟩, farW_length]
def once (T B : List Int) : Bool := B.any fun x => decide (rd T x = 1)
theorem needed_l {T B : List Int} (hB : ∀ x ∈ B, 0 ≤ x ∧ x < T.length) (hBl : B.length ≤ 1024) : ∀ (m n : Nat), n + m = B.length → Ev (fun k => spec_l02Needed.l0 k T B (n : Int)) (once T (B.drop n))
  | 0, n, hm => by
    refine Ev.step (fun k => by simp only [spec_l02Needed.l0]; exact rfl) ?_
    refine Ev.iff_neg (by omega) ?_
    rw [drop_all (by omega)]
    exact Ev.now _
  | m + 1, n, hm => by
    have hn : n < B.length := by omega
    have hx : 0 ≤ rd B (n : Int) ∧ rd B (n : Int) < T.length := by
      have : rd B (n : Int) = B[n] := by simp [rd, List.getD_eq_getElem?_getD, hn]
      rw [this]
      exact hB _ (List.getElem_mem hn)
    have ih := needed_l hB hBl m (n + 1) (by omega)
    refine Ev.step (fun k => by simp only [spec_l02Needed.l0]; exact rfl) ?_
    refine Ev.iff_pos (by omega) ?_
    refine Ev.iff_pos (by omega) ?_
    refine Ev.iff_pos hx.1 ?_
    refine Ev.iff_pos hx.2 ?_
    rw [drop_cons B hn]
    by_cases h : rd T (rd B (n : Int)) = 1
    · refine Ev.iff_pos h ?_
      have e : once T (rd B (n : Int) :: B.drop (n + 1)) = true := by simp [once, h]
      rw [e]
      exact Ev.now _
    · refine Ev.iff_neg h ?_
      have e : once T (rd B (n : Int) :: B.drop (n + 1)) = once T (B.drop (n + 1)) := by simp [once, h]
      rw [e, wrap_nat (by unfold maxLen; omega)]
      exact ih
theorem needQ_iff (s T : List Int) (x r : Int) : ∀ (k m : Nat), needQ s T x r m k = true ↔ ∃ u : Nat, m ≤ u ∧ u < m + k ∧ rd T (u : Int) = 1 ∧ ham (dig8 s x) (dig8 s (u : Int)) ≤ r
  | 0, m => by
    simp only [needQ]
    constructor
    · intro h; cases h
    · rintro ⟨u, h1, h2, _⟩; omega
  | k + 1, m => by
    simp only [needQ]
    by_cases h : rd T (m : Int) = 1 ∧ ham (dig8 s x) (dig8 s (m : Int)) ≤ r
    · rw [if_pos h]
      exact ⟨fun _ => ⟨m, Nat.le_refl _, by omega, h⟩, fun _ => rfl⟩
    · rw [if_neg h, needQ_iff s T x r k (m + 1)]
      constructor
      · rintro ⟨u, h1, h2, h3⟩
        exact ⟨u, by omega, by omega, h3⟩
      · rintro ⟨u, h1, h2, h3⟩
        have : u ≠ m := by
          rintro rfl
          exact h h3
        exact ⟨u, by omega, by omega, h3⟩
theorem needQ_once {s : List Int} (hs : isSp s = true) (T : List Int) (x r : Int) : needQ s T x r 0 (NW s) = once T (ballL s x r) := by
  rw [Bool.eq_iff_iff, needQ_iff]
  unfold once ballL
  simp only [List.any_eq_true, decide_eq_true_eq, mem_selL]
  constructor
  · rintro ⟨u, h1, h2, h3, h4⟩
    refine ⟨(u : Int), ⟨by omega, by omega, ?_⟩, h3⟩
    rw [ham_dig8 (isSp_len hs)] at h4
    exact h4
  · rintro ⟨y, ⟨h1, h2, h3⟩, h4⟩
    refine ⟨y.toNat, by omega, by omega, ?_⟩
    rw [Int.toNat_of_nonneg h1, ham_dig8 (isSp_len hs)]
    exact ⟨h4, h3⟩
theorem l02Needed_ev {s : List Int} (hs : isSp s = true) {T : List Int} (hT : T.length = NW s) {w : Int} (hw : isW s w = true) (r : Int) : Ev (fun k => spec_l02Needed.f k s T w r) (needQ s T w r 0 (NW s)) := by
  unfold spec_l02Needed.f
  rw [needQ_once hs]
  refine Ev.bind (l01Ball_ev hs hw r) ?_
  have := needed_l (T := T) (B := ballL s w r) (fun x hx => by have := mem_selL.1 hx; rw [hT]; exact ⟨this.1, this.2.1⟩) (ballL_len hs _ _) (ballL s w r).length 0 (by omega)
  rw [List.drop_zero] at this
  exact this
def zer (L : List Int) : List Int := selL (fun i => decide (rd L i = 0)) L.length
theorem l02Uncovered_l {L : List Int} (hL : L.length ≤ 1024) : ∀ (m n : Nat), n + m = L.length →
    Ev (fun k => spec_l02Uncovered.l0 k L (selL (fun i => decide (rd L i = 0)) n) (L.length : Int) (n : Int)) (zer L)
  | 0, n, hm => by
    refine Ev.step (fun k => by simp only [spec_l02Uncovered.l0]; exact rfl) ?_
    refine Ev.iff_neg (by omega) ?_
    have : n = L.length := by omega
    subst this
    exact Ev.now _
  | m + 1, n, hm => by
    have hn : n < L.length := by omega
    have hl := selL_len (fun i => decide (rd L i = 0)) n
    refine Ev.step (fun k => by simp only [spec_l02Uncovered.l0]; exact rfl) ?_
    refine Ev.iff_pos (by omega) ?_
    refine Ev.iff_pos (by omega) ?_
    refine Ev.iff_pos (by omega) ?_
    have ih := l02Uncovered_l hL m (n + 1) (by omega)
    rw [selL_succ] at ih
    by_cases h : rd L (n : Int) = 0
    · refine Ev.iff_pos h ?_
      refine Ev.iff_pos (by omega) ?_
      rw [wrap_nat (by unfold maxLen; omega)]
      simpa [h] using ih
    · refine Ev.iff_neg h ?_
      rw [wrap_nat (by unfold maxLen; omega)]
      simpa [h] using ih
theorem l02Uncovered_ev {s c : List Int} (hs : isSp s = true) (hc : isC s c = true) (r : Int) : Ev (fun k => spec_l02Uncovered.f k s c r) (zer (covL s c r)) := by
  unfold spec_l02Uncovered.f
  have hN := NW_le hs
  refine Ev.bind (l02Times_ev hs hc r) ?_
  exact l02Uncovered_l (L := covL s c r) (by rw [covL_length]; omega) (covL s c r).length 0 (by omega)
theorem ham_step {q : Int} (rs : List Int) (w : Int) (v : Nat) (d : Int) (h0 : 0 ≤ d) (hd : d < q) : ham (dgr (q :: rs) w) (dgr (q :: rs) (q * v + d)) = (if w % q = d then 0 else 1) + ham (dgr rs (w / q)) (dgr rs v) := by
  have e1 : (q * (v : Int) + d) % q = d := by rw [Int.mul_add_emod_self_left, Int.emod_eq_of_lt h0 hd]
  have e2 : (q * (v : Int) + d) / q = v := by rw [Int.mul_add_ediv_left _ _ (by omega), Int.ediv_eq_zero_of_lt h0 hd, Int.add_zero]
  simp only [dgr, ham, e1, e2]
def tE (rs : List Int) (w : Int) (p : Int → Bool) (e : Int) : Nat := cN (fun v => p (e + ham (dgr rs w) (dgr rs (v : Int)))) (prd rs).toNat
theorem any_cons (q : Int) (rs : List Int) (hq : q = 2 ∨ q = 3 ∨ q = 4) (hn : 0 ≤ prd rs) (w : Int) (p : Int → Bool) (e : Int) : (tE (q :: rs) w p e : Int) = tE rs (w / q) p e + (q - 1) * tE rs (w / q) p (e + 1) := by
  have hs : ∀ (v : Nat) (d : Int), 0 ≤ d → d < q → p (e + ham (dgr (q :: rs) w) (dgr (q :: rs) (q * v + d))) = p ((if w % q = d then e else e + 1) + ham (dgr rs (w / q)) (dgr rs v)) := fun v d h0 h1 => by
    rw [ham_step rs w v d h0 h1]
    congr 1
    split <;> omega
  have hm0 := Int.emod_nonneg w (show q ≠ 0 by omega)
  have hm1 := Int.emod_lt_of_pos w (show 0 < q by omega)
  have hc : ∀ (d : Int) (g : Nat → Bool), 0 ≤ d → d < q → (∀ v : Nat, g v = p (e + ham (dgr (q :: rs) w) (dgr (q :: rs) (q * v + d)))) → cN g (prd rs).toNat = if w % q = d then tE rs (w / q) p e else tE rs (w / q) p (e + 1) := fun d g h0 h1 h2 => by
    rw [cN_congr (r := fun v => p ((if w % q = d then e else e + 1) + ham (dgr rs (w / q)) (dgr rs (v : Int)))) (fun v _ => by rw [h2 v, hs v d h0 h1])]
    unfold tE
    split <;> rfl
  rcases hq with rfl | rfl | rfl
  · have : tE (2 :: rs) w p e = (if w % 2 = 0 then tE rs (w / 2) p e else tE rs (w / 2) p (e + 1)) + (if w % 2 = 1 then tE rs (w / 2) p e else tE rs (w / 2) p (e + 1)) := by
      show cN _ (prd (2 :: rs)).toNat = _
      rw [prd, show (2 * prd rs).toNat = 2 * (prd rs).toNat by omega, cN_two]
      rw [hc 0 _ (by omega) (by omega) (fun v => by simp), hc 1 _ (by omega) (by omega) (fun v => by simp)]
    rw [this]
    rcases (show w % 2 = 0 ∨ w % 2 = 1 by omega) with h | h <;> simp [h] <;> omega
  · have : tE (3 :: rs) w p e = (if w % 3 = 0 then tE rs (w / 3) p e else tE rs (w / 3) p (e + 1)) + (if w % 3 = 1 then tE rs (w / 3) p e else tE rs (w / 3) p (e + 1)) + (if w % 3 = 2 then tE rs (w / 3) p e else tE rs (w / 3) p (e + 1)) := by
      show cN _ (prd (3 :: rs)).toNat = _
      rw [prd, show (3 * prd rs).toNat = 3 * (prd rs).toNat by omega, cN_three]
      rw [hc 0 _ (by omega) (by omega) (fun v => by simp), hc 1 _ (by omega) (by omega) (fun v => by simp), hc 2 _ (by omega) (by omega) (fun v => by simp)]
    rw [this]
    rcases (show w % 3 = 0 ∨ w % 3 = 1 ∨ w % 3 = 2 by omega) with h | h | h <;> simp [h] <;> omega
  · have : tE (4 :: rs) w p e = (if w % 4 = 0 then tE rs (w / 4) p e else tE rs (w / 4) p (e + 1)) + (if w % 4 = 1 then tE rs (w / 4) p e else tE rs (w / 4) p (e + 1)) + (if w % 4 = 2 then tE rs (w / 4) p e else tE rs (w / 4) p (e + 1)) + (if w % 4 = 3 then tE rs (w / 4) p e else tE rs (w / 4) p (e + 1)) := by
      show cN _ (prd (4 :: rs)).toNat = _
      rw [prd, show (4 * prd rs).toNat = 4 * (prd rs).toNat by omega, cN_four]
      rw [hc 0 _ (by omega) (by omega) (fun v => by simp), hc 1 _ (by omega) (by omega) (fun v => by simp), hc 2 _ (by omega) (by omega) (fun v => by simp), hc 3 _ (by omega) (by omega) (fun v => by simp)]
    rw [this]
    rcases (show w % 4 = 0 ∨ w % 4 = 1 ∨ w % 4 = 2 ∨ w % 4 = 3 by omega) with h | h | h | h <;> simp [h] <;> omega
theorem any_word : ∀ (rs : List Int), rs.all sizeOk = true → ∀ (w w' : Int) (p : Int → Bool) (e : Int), tE rs w p e = tE rs w' p e
  | [], _, _, _, _, _ => rfl
  | q :: rs, h, w, w', p, e => by
    simp only [List.all_cons, Bool.and_eq_true] at h
    have hp := prd_pos rs h.2
    have h1 := any_cons q rs ((sizeOk_iff q).1 h.1) (by omega) w p e
    have h2 := any_cons q rs ((sizeOk_iff q).1 h.1) (by omega) w' p e
    rw [any_word rs h.2 (w / q) (w' / q) p e, any_word rs h.2 (w / q) (w' / q) p (e + 1)] at h1
    omega
theorem near_any {s : List Int} (hs : isSp s = true) (r : Int) (w : Nat) : (List.range (prd s).toNat).countP (nrb s r w) = (ballL s 0 r).length := by
  have hall : s.reverse.all sizeOk = true := by rw [List.all_reverse]; exact isSp_all hs
  have e : ∀ x : Int, (List.range (prd s).toNat).countP (fun u : Nat => decide (ham (dig8 s x) (dig8 s (u : Int)) ≤ r)) = tE s.reverse x (fun d => decide (d ≤ r)) 0 := fun x => by
    unfold tE cN
    rw [prd_reverse]
    apply List.countP_congr
    intro u _
    rw [ham_dig8 (isSp_len hs)]
    unfold dist dg
    rw [ham_reverse _ _ (by rw [dgr_length, dgr_length]), Int.zero_add]
  have h1 := e (w : Int)
  have h2 := e 0
  rw [any_word s.reverse hall (w : Int) 0, ← h2] at h1
  unfold nrb
  rw [h1]
  unfold ballL selL NW
  rw [List.length_map, List.countP_eq_length_filter]
  congr 1
  apply List.filter_congr
  intro i _
  rw [ham_dig8 (isSp_len hs)]
theorem gn_start {s : List Int} (hs : isSp s = true) (r : Int) {P : Nat} (hP : (prd s).toNat = P) : gnL s r P (List.replicate P false) = List.replicate P ((ballL s 0 r).length : Int) := by
  subst hP
  rw [List.eq_replicate_iff]
  refine ⟨gnL_len s r _ _, fun b hb => ?_⟩
  unfold gnL at hb
  rw [List.mem_map] at hb
  obtain ⟨w, _, rfl⟩ := hb
  unfold gnF
  rw [← near_any hs r w]
  congr 1
  apply List.countP_congr
  intro u _
  have : (List.replicate (prd s).toNat false).getD u false = false := by
    rw [List.getD_eq_getElem?_getD, List.getElem?_replicate]
    split <;> rfl
  rw [this]
  rfl
def rRadiusOf (s c : List Int) : Int × Int := if rSome s c [] = 0 then (maxQ (farW s c) (NW s), 0) else (0, rSome s c [])
theorem specRadiusOf_ev (s : List Int) {c : List Int} (hcl : c.length ≤ 1048576) : Ev (fun k => spec_RadiusOf.f k s c) (rRadiusOf s c) := by
  unfold spec_RadiusOf.f rRadiusOf
  refine Ev.bind (l02Full_ev s hcl) ?_
  by_cases h : rSome s c [] = 0
  · obtain ⟨hs, hc, _, hp⟩ := rSome_zero h
    simp only [if_pos h]
    exact Ev.bind (l02Farthest_ev hs hc hp) (Ev.now _)
  · simp only [if_neg h]
    exact Ev.now _
theorem implRadiusOf_ev (s : List Int) {c : List Int} (hcl : c.length ≤ 1048576) : Ev (fun k => impl_RadiusOf.f k s c) (rRadiusOf s c) := by
  unfold impl_RadiusOf.f rRadiusOf
  refine Ev.bind (someCode_ev s hcl (by simp)) ?_
  by_cases h : rSome s c [] = 0
  · obtain ⟨hs, hc, _, hp⟩ := rSome_zero h
    simp only [if_pos h]
    refine Ev.bindc (a := maxQ (farW s c) (NW s)) ?_ (Ev.now _)
    unfold impl_radius.f
    rw [farness_eq hs hc hp, Option.bind_some, max_eq hs, Option.bind_some]
  · simp only [if_neg h]
    exact Ev.now _
def decV (L : List Int) (x : Int) : List Int := L.set x.toNat (rd L x - 1)
theorem decV_length (L : List Int) (x : Int) : (decV L x).length = L.length := by simp [decV]
theorem decV_gen (f : Nat → Int) (P : Nat) {x : Nat} (h : x < P) : decV ((List.range P).map f) (x : Int) = (List.range P).map fun u => f u - if u = x then 1 else 0 := by
  unfold decV
  rw [Int.toNat_natCast]
  apply List.ext_getElem?
  intro k
  by_cases hk : k = x
  · subst hk
    rw [List.getElem?_set_self (by simpa using h)]
    simp [rd, List.getD_eq_getElem?_getD, h]
  · rw [List.getElem?_set_ne (fun e => hk e.symm)]
    simp only [List.getElem?_map]
    by_cases hp : k < P
    · simp [hp, hk]
    · rw [List.getElem?_eq_none (by simp; omega)]
      rfl
theorem decV_fold (P : Nat) (p : Int → Bool) : ∀ (n : Nat) (f : Nat → Int), n ≤ P → (selL p n).foldl decV ((List.range P).map f) = (List.range P).map fun u => f u - if u < n ∧ p (u : Int) = true then 1 else 0
  | 0, f, _ => by simp [selL]
  | n + 1, f, h => by
    rw [selL_succ, List.foldl_append, decV_fold P p n f (by omega)]
    by_cases hp : p (n : Int) = true
    · rw [if_pos hp]
      simp only [List.foldl_cons, List.foldl_nil]
      rw [decV_gen _ P (show n < P by omega)]
      apply List.map_congr_left
      intro u _
      by_cases hu : u = n
      · subst hu
        simp [hp]
      · by_cases hu2 : u < n
        · have : u < n + 1 := by omega
          simp [hu, hu2, this]
        · have : ¬ u < n + 1 := by omega
          simp [hu, hu2, this]
    · rw [if_neg hp, List.foldl_nil]
      apply List.map_congr_left
      intro u _
      by_cases hu : u = n
      · subst hu
        simp [hp]
      · by_cases hu2 : u < n
        · have : u < n + 1 := by omega
          simp [hu2, this]
        · have : ¬ u < n + 1 := by omega
          simp [hu2, this]
def lowb (L : List Int) (b : Int) : Prop := ∀ u : Nat, -b ≤ rd L (u : Int) ∧ rd L (u : Int) ≤ 1048576
theorem rd_set2 (L : List Int) (k u : Nat) (v : Int) : rd (L.set k v) (u : Int) = if k = u ∧ k < L.length then v else rd L (u : Int) := by
  simp only [rd, Int.toNat_natCast, List.getD_eq_getElem?_getD, List.getElem?_set]
  by_cases h : k = u
  · subst h
    by_cases h2 : k < L.length
    · simp [h2]
    · simp [h2]
  · simp [h]
theorem lowb_dec {L : List Int} {b : Int} (h : lowb L b) (x : Int) (hb : 0 ≤ b) : lowb (decV L x) (b + 1) := by
  intro u
  unfold decV
  rw [rd_set2]
  have h1 := h u
  have h2 := h x.toNat
  split
  · by_cases hx : 0 ≤ x
    · rw [Int.toNat_of_nonneg hx] at h2
      omega
    · have : rd L x = rd L ((x.toNat : Nat) : Int) := by unfold rd; rw [Int.toNat_natCast]
      rw [this]
      omega
  · omega
theorem rd_in {B : List Int} {P k : Nat} (hB : ∀ x ∈ B, 0 ≤ x ∧ x < P) (hk : k < B.length) : 0 ≤ rd B (k : Int) ∧ rd B (k : Int) < P := by
  have : rd B (k : Int) = B[k] := by simp [rd, List.getD_eq_getElem?_getD, hk]
  rw [this]
  exact hB _ (List.getElem_mem hk)
def lf (cov : List Bool) : List Bool := cov.map fun b => !b
theorem lf_len (cov : List Bool) : (lf cov).length = cov.length := by simp [lf]
theorem lf_rd {cov : List Bool} {x : Int} (h0 : 0 ≤ x) (h1 : x < cov.length) : rdOf false (lf cov) x = !(cov.getD x.toNat false) := by
  have : x.toNat < cov.length := by omega
  simp [rdOf, lf, List.getD_eq_getElem?_getD, this]
theorem lf_set (cov : List Bool) (i : Nat) : (lf cov).set i false = lf (cov.set i true) := by simp [lf, List.map_set]
def covF (cov : List Bool) (L : List Int) : List Bool := L.foldl (fun c x => c.set x.toNat true) cov
theorem covF_len : ∀ (L : List Int) (cov : List Bool), (covF cov L).length = cov.length
  | [], _ => rfl
  | x :: L, cov => by
    have := covF_len L (cov.set x.toNat true)
    unfold covF at this ⊢
    rw [List.foldl_cons, this, List.length_set]
theorem covF_get : ∀ (L : List Int) (cov : List Bool) {P : Nat} {u : Nat}, cov.length = P → u < P → (∀ x ∈ L, 0 ≤ x) → (covF cov L).getD u false = (cov.getD u false || decide ((u : Int) ∈ L))
  | [], cov, P, u, _, _, _ => by simp [covF]
  | x :: L, cov, P, u, hl, hu, hL => by
    have ih := covF_get L (cov.set x.toNat true) (P := P) (u := u) (by rw [List.length_set]; exact hl) hu (fun y hy => hL y (List.mem_cons_of_mem _ hy))
    have hx := hL x List.mem_cons_self
    unfold covF at ih ⊢
    rw [List.foldl_cons, ih]
    by_cases e : x.toNat = u
    · have e2 : (u : Int) = x := by omega
      have h3 : (cov.set x.toNat true).getD u false = true := by
        rw [← e, List.getD_eq_getElem?_getD, List.getElem?_set_self (by omega)]
        rfl
      rw [h3, e2]
      simp
    · have h3 : (cov.set x.toNat true).getD u false = cov.getD u false := by
        rw [List.getD_eq_getElem?_getD, List.getElem?_set_ne e, ← List.getD_eq_getElem?_getD]
      rw [h3]
      congr 1
      rw [decide_eq_decide, List.mem_cons]
      constructor
      · exact .inr
      · rintro (h | h)
        · omega
        · exact h
theorem nrb_dist {s : List Int} (hs : isSp s = true) (r : Int) (a b : Nat) : nrb s r a b = decide (dist s (a : Int) (b : Int) ≤ r) := by
  unfold nrb
  rw [ham_dig8 (isSp_len hs)]
theorem covF_ball {s : List Int} (hs : isSp s = true) (r : Int) {P : Nat} (hP : NW s = P) {cov : List Bool} (hl : cov.length = P) (b : Nat) : covF cov (ballL s (b : Int) r) = covU s r P b cov P := by
  apply List.ext_getElem
  · rw [covF_len, covU_len, hl]
  · intro u h1 h2
    have hu : u < P := by rw [covU_len] at h2; exact h2
    have e1 := covF_get (ballL s (b : Int) r) cov (u := u) hl hu (fun x hx => (mem_selL.1 hx).1)
    have e2 := covU_get s r P b cov P hu
    rw [List.getD_eq_getElem?_getD, List.getElem?_eq_getElem h1] at e1
    rw [List.getD_eq_getElem?_getD, List.getElem?_eq_getElem h2] at e2
    have e3 : decide ((u : Int) ∈ ballL s (b : Int) r) = nrb s r b u := by
      rw [nrb_dist hs, decide_eq_decide]
      unfold ballL
      rw [mem_selL, hP]
      constructor
      · rintro ⟨_, _, h⟩
        simpa using h
      · intro h
        exact ⟨by omega, by omega, by simpa using h⟩
    rw [e3] at e1
    rw [decide_eq_true hu, Bool.true_and] at e2
    simp only [Option.getD_some] at e1 e2
    rw [e1, e2]
theorem decV_ball {s : List Int} (hs : isSp s = true) (r : Int) {P : Nat} (hP : NW s = P) {cov : List Bool} (hl : cov.length = P) {u : Nat} (hu : u < P) (hc : cov.getD u false = false) : (ballL s (u : Int) r).foldl decV (gnL s r P cov) = gnL s r P (cov.set u true) := by
  unfold ballL gnL
  rw [hP, decV_fold P _ P _ (Nat.le_refl _)]
  apply List.map_congr_left
  intro w hw
  have hw2 := List.mem_range.1 hw
  rw [gnF_set s r hu hl hc w, nrb_dist hs, dist_comm s (w : Int) (u : Int)]
  by_cases h : dist s (u : Int) (w : Int) ≤ r
  · simp [h, hw2]
  · simp [h]
theorem greedy_l4 {s B : List Int} {r : Int} {P : Nat} (hB : ∀ x ∈ B, 0 ≤ x ∧ x < P) (hBl : B.length ≤ 1024) (O L : List Int) (V : List Bool) (R : List Int × Int) {i : Nat} (hi : i ≤ 1024) :
    ∀ (m k0 : Nat) (T : List Int), k0 + m = B.length → T.length = P → lowb T (k0 : Int) →
      Ev (fun k => spec_GreedyCode.l3 k r (P : Int) O V ((B.drop k0).foldl decV T) L ((i + 1 : Nat) : Int) s) R → Ev (fun k => spec_GreedyCode.l4 k r (P : Int) O V T L (i : Int) B (k0 : Int) s) R
  | 0, k0, T, hm, hT, hsm, hev => by
    refine Ev.step (fun k => by simp only [spec_GreedyCode.l4]; exact rfl) ?_
    refine Ev.iff_neg (by omega) ?_
    rw [wrap_nat (by unfold maxLen; omega)]
    rw [drop_all (by omega)] at hev
    exact hev
  | m + 1, k0, T, hm, hT, hsm, hev => by
    have hk : k0 < B.length := by omega
    have hx := rd_in hB hk
    have hr := hsm (rd B (k0 : Int)).toNat
    rw [Int.toNat_of_nonneg hx.1] at hr
    refine Ev.step (fun k => by simp only [spec_GreedyCode.l4]; exact rfl) ?_
    refine Ev.iff_pos (by omega) (Ev.iff_pos (by omega) (Ev.iff_pos hx.1 (Ev.iff_pos (by rw [hT]; exact hx.2) ?_)))
    rw [wrap_nat (by unfold maxLen; omega), wrap_id (x := rd T (rd B (k0 : Int)) - 1) (by omega) (by omega)]
    refine greedy_l4 hB hBl O L V R hi m (k0 + 1) (decV T (rd B (k0 : Int))) (by omega) (by rw [decV_length]; exact hT) ?_ ?_
    · have := lowb_dec hsm (rd B (k0 : Int)) (by omega)
      rw [show (((k0 + 1 : Nat)) : Int) = (k0 : Int) + 1 by omega]
      exact this
    · rw [drop_cons B hk] at hev
      exact hev
theorem gnL_low (s : List Int) (r : Int) {P : Nat} (hP : P ≤ 1024) (cov : List Bool) : lowb (gnL s r P cov) 0 := by
  intro u
  by_cases h : u < P
  · rw [gnL_rd s r cov h]
    have := gnF_bd s r P cov u
    omega
  · have : rd (gnL s r P cov) (u : Int) = 0 := by simp [gnL, rd, List.getD_eq_getElem?_getD, h]
    omega
theorem greedy_l3 {s L : List Int} {r : Int} {P : Nat} (hs : isSp s = true) (hP : NW s = P) (hL : ∀ x ∈ L, 0 ≤ x ∧ x < P) (hLl : L.length ≤ 1024) (O : List Int) (R : List Int × Int) :
    ∀ (m i : Nat) (cov : List Bool), i + m = L.length → cov.length = P →
      Ev (fun k => spec_GreedyCode.l1 k r (P : Int) O (lf (covF cov (L.drop i))) (gnL s r P (covF cov (L.drop i))) s) R → Ev (fun k => spec_GreedyCode.l3 k r (P : Int) O (lf cov) (gnL s r P cov) L (i : Int) s) R
  | 0, i, cov, hm, hc, hev => by
    refine Ev.step (fun k => by simp only [spec_GreedyCode.l3]; exact rfl) ?_
    refine Ev.iff_neg (by omega) ?_
    rw [drop_all (by omega)] at hev
    exact hev
  | m + 1, i, cov, hm, hc, hev => by
    have hk : i < L.length := by omega
    have hx := rd_in hL hk
    have hPl : P ≤ 1024 := by have := NW_le hs; omega
    rw [drop_cons L hk] at hev
    refine Ev.step (fun k => by simp only [spec_GreedyCode.l3]; exact rfl) ?_
    refine Ev.iff_pos (by omega) (Ev.iff_pos (by omega) (Ev.iff_pos hx.1 (Ev.iff_pos (by rw [lf_len, hc]; exact hx.2) ?_)))
    generalize rd L (i : Int) = x at *
    obtain ⟨u, rfl⟩ : ∃ u : Nat, x = (u : Int) := ⟨x.toNat, by omega⟩
    have hu : u < P := by omega
    rw [lf_rd (by omega) (by omega), Int.toNat_natCast]
    have hev2 : Ev (fun k => spec_GreedyCode.l1 k r (P : Int) O (lf (covF (cov.set u true) (L.drop (i + 1)))) (gnL s r P (covF (cov.set u true) (L.drop (i + 1)))) s) R := hev
    by_cases h : cov.getD u false = false
    · refine Ev.iff_pos (by rw [h]; rfl) ?_
      refine Ev.bind (l01Ball_ev hs (isW_nat hs (by omega)) r) ?_
      rw [lf_set]
      refine greedy_l4 (B := ballL s (u : Int) r) (fun y hy => by have := mem_selL.1 hy; rw [hP] at this; exact ⟨this.1, this.2.1⟩) (ballL_len hs _ _) O L _ R (by omega) (ballL s (u : Int) r).length 0 (gnL s r P cov) (by omega) (gnL_len s r P cov) (gnL_low s r hPl cov) ?_
      rw [List.drop_zero, decV_ball hs r hP hc hu h]
      exact greedy_l3 hs hP hL hLl O R m (i + 1) (cov.set u true) (by omega) (by rw [List.length_set]; exact hc) hev2
    · rw [Bool.not_eq_false] at h
      refine Ev.iff_neg (by rw [h]; simp) ?_
      rw [wrap_nat (by unfold maxLen; omega)]
      have e : cov.set u true = cov := by
        apply List.ext_getElem
        · simp
        · intro v h1 h2
          rw [List.getElem_set]
          split
          · rename_i e
            subst e
            rw [List.getD_eq_getElem?_getD, List.getElem?_eq_getElem h2] at h
            exact h.symm
          · rfl
      rw [e] at hev2
      exact greedy_l3 hs hP hL hLl O R m (i + 1) cov (by omega) hc hev2
theorem bst_one (f : Nat → Int) : bst f 1 = 0 := by unfold bst; split <;> rfl
theorem greedy_l2 {s : List Int} {r : Int} {P : Nat} (hPl : P ≤ 1024) (O : List Int) (V : List Bool) (cov : List Bool) (R : List Int × Int)
    (h1 : gnF s r P cov (bst (gnF s r P cov) P) = 0 → R = (O, 0))
    (h2 : gnF s r P cov (bst (gnF s r P cov) P) ≠ 0 → Ev (fun k => (spec_l01Put.f k O (bst (gnF s r P cov) P : Nat)).bind fun t120 => (spec_l01Ball.f k s (bst (gnF s r P cov) P : Nat) r).bind fun t123 => spec_GreedyCode.l3 k r (P : Int) t120 V (gnL s r P cov) t123 0 s) R) :
    ∀ (m n : Nat), 1 ≤ n → n + m = P → Ev (fun k => spec_GreedyCode.l2 k r (P : Int) O V (gnL s r P cov) (bst (gnF s r P cov) n : Nat) (n : Int) s) R
  | 0, n, hn, hm => by
    have e : n = P := by omega
    subst e
    have hb := bst_lt (gnF s r n cov) (show 0 < n by omega)
    refine Ev.step (fun k => by simp only [spec_GreedyCode.l2]; exact rfl) ?_
    refine Ev.iff_neg (by omega) (Ev.iff_pos (by omega) (Ev.iff_pos (by rw [gnL_len]; omega) ?_))
    rw [gnL_rd s r cov hb]
    by_cases h : gnF s r n cov (bst (gnF s r n cov) n) = 0
    · refine Ev.iff_pos h ?_
      rw [h1 h]
      exact Ev.now _
    · exact Ev.iff_neg h (h2 h)
  | m + 1, n, hn, hm => by
    have hb := bst_lt (gnF s r P cov) (show 0 < n by omega)
    have ih := greedy_l2 hPl O V cov R h1 h2 m (n + 1) (by omega) (by omega)
    refine Ev.step (fun k => by simp only [spec_GreedyCode.l2]; exact rfl) ?_
    refine Ev.iff_pos (by omega) (Ev.iff_pos (by omega) (Ev.iff_pos (by rw [gnL_len]; omega) (Ev.iff_pos (by omega) (Ev.iff_pos (by rw [gnL_len]; omega) ?_))))
    rw [gnL_rd s r cov (show n < P by omega), gnL_rd s r cov (show bst (gnF s r P cov) n < P by omega), wrap_nat (by unfold maxLen; omega)]
    by_cases h : gnF s r P cov n > gnF s r P cov (bst (gnF s r P cov) n)
    · refine Ev.iff_pos h ?_
      rw [bst, if_pos h] at ih
      exact ih
    · refine Ev.iff_neg h ?_
      rw [bst, if_neg h] at ih
      exact ih
theorem msort_ord {l : List Int} (h : l.Nodup) : msort l = ordL l := by
  have h1 := msort_pw l
  have h2 : (msort l).Nodup := (List.mergeSort_perm l _).nodup_iff.2 h
  refine ordL_of ?_ (fun y => msort_mem l y)
  exact (h1.and h2).imp (fun h => by have := h.1; have := h.2; omega)
theorem gnF_mono (s : List Int) (r : Int) (P b : Nat) (cov : List Bool) (w : Nat) : gnF s r P (covU s r P b cov P) w ≤ gnF s r P cov w := by
  unfold gnF
  have : (List.range P).countP (fun u => !((covU s r P b cov P).getD u false) && nrb s r w u) ≤ (List.range P).countP (fun u => !(cov.getD u false) && nrb s r w u) := by
    apply List.countP_mono_left
    intro u hu
    rw [covU_get s r P b cov P (List.mem_range.1 hu)]
    cases cov.getD u false <;> simp
  omega
theorem gnF_own (s : List Int) (r : Int) (P b : Nat) (cov : List Bool) : gnF s r P (covU s r P b cov P) b = 0 := by
  unfold gnF
  have : (List.range P).countP (fun u => !((covU s r P b cov P).getD u false) && nrb s r b u) = 0 := by
    rw [List.countP_eq_zero]
    intro u hu
    have hu2 := List.mem_range.1 hu
    rw [covU_get s r P b cov P hu2, decide_eq_true hu2]
    cases cov.getD u false <;> cases nrb s r b u <;> simp
  omega
theorem greedy_run {s : List Int} {r : Int} {P : Nat} (hs : isSp s = true) (hP : NW s = P) (hP1 : 1 ≤ P) (hPl : P ≤ 1024) : ∀ (fuel : Nat) (cov : List Bool) (out : List Int), cov.length = P → P + 1 ≤ fuel + cn cov → out.length ≤ cn cov → out.Nodup → (∀ x ∈ out, 0 ≤ x ∧ gnF s r P cov x.toNat = 0) →
    Ev (fun k => spec_GreedyCode.l1 k r (P : Int) (ordL out) (lf cov) (gnL s r P cov) s) (msort (gRun s r P fuel cov out), 0)
  | 0, cov, out, hc, hf, _, _, _ => by
    have := cn_le cov
    omega
  | fuel + 1, cov, out, hc, hf, ho, hnd, hz => by
    have hcn := cn_le cov
    refine Ev.step (fun k => by simp only [spec_GreedyCode.l1]; exact rfl) ?_
    have hb := bst_lt (gnF s r P cov) (show 0 < P by omega)
    have h3 := greedy_l2 (s := s) (r := r) hPl (ordL out) (lf cov) cov (msort (gRun s r P (fuel + 1) cov out), 0) (fun h => by rw [gRun, if_pos h, msort_ord hnd]) (fun h => ?_) (P - 1) 1 (Nat.le_refl _) (by omega)
    · rw [bst_one] at h3
      exact h3
    · have hmore := cn_more s r hc h
      have hcu := covU_len s r P (bst (gnF s r P cov) P) cov P
      have hnin : ((bst (gnF s r P cov) P : Nat) : Int) ∉ out := fun hm => h (by have := (hz _ hm).2; rwa [Int.toNat_natCast] at this)
      have hol := ordL_len out
      rw [gRun, if_neg h]
      refine Ev.bind (l01Put_ev (ordL_pw out) (by omega) _) ?_
      rw [ordL_put]
      refine Ev.bind (l01Ball_ev hs (isW_nat hs (by omega)) r) ?_
      have ih := greedy_run (r := r) hs hP hP1 hPl fuel (covU s r P (bst (gnF s r P cov) P) cov P) (out ++ [((bst (gnF s r P cov) P : Nat) : Int)]) hcu (by omega) (by rw [List.length_append, List.length_singleton]; omega)
        (by rw [List.nodup_append]; exact ⟨hnd, by simp, fun a ha b hb2 e => by rw [List.mem_singleton] at hb2; subst hb2; subst e; exact hnin ha⟩)
        (fun x hx => by
          rcases List.mem_append.1 hx with hx | hx
          · have h1 := hz x hx
            have h2 := gnF_mono s r P (bst (gnF s r P cov) P) cov x.toNat
            have h4 := gnF_bd s r P (covU s r P (bst (gnF s r P cov) P) cov P) x.toNat
            omega
          · rw [List.mem_singleton] at hx
            subst hx
            rw [Int.toNat_natCast]
            exact ⟨by omega, gnF_own s r P _ cov⟩)
      rw [← covF_ball hs r hP hc] at ih ⊢
      exact greedy_l3 hs hP (fun x hx => by have := mem_selL.1 hx; rw [hP] at this; exact ⟨this.1, this.2.1⟩) (ballL_len hs _ _) _ _ (ballL s ((bst (gnF s r P cov) P : Nat) : Int) r).length 0 cov (by omega) hc (by rw [List.drop_zero]; exact ih)
def lfN (P n : Nat) : List Bool := (List.range P).map fun u => decide (u < n)
theorem lfN_set {P n : Nat} (h : n < P) : (lfN P n).set n true = lfN P (n + 1) := by
  apply List.ext_getElem
  · simp [lfN]
  · intro u h1 h2
    rw [List.getElem_set]
    by_cases e : n = u
    · subst e
      simp [lfN]
    · rw [if_neg e]
      simp only [lfN, List.getElem_map, List.getElem_range]
      rw [decide_eq_decide]
      omega
theorem lfN_zero (P : Nat) : lfN P 0 = List.replicate P false := by
  rw [List.eq_replicate_iff]
  refine ⟨by simp [lfN], fun b hb => ?_⟩
  simp only [lfN, List.mem_map] at hb
  obtain ⟨u, _, rfl⟩ := hb
  simp
theorem lfN_all (P : Nat) : lfN P P = lf (List.replicate P false) := by
  have h1 : lf (List.replicate P false) = List.replicate P true := by simp [lf]
  rw [h1, List.eq_replicate_iff]
  refine ⟨by simp [lfN], fun b hb => ?_⟩
  simp only [lfN, List.mem_map] at hb
  obtain ⟨u, hu, rfl⟩ := hb
  exact decide_eq_true (List.mem_range.1 hu)
theorem greedy_l0 {s : List Int} {r : Int} {P : Nat} (hs : isSp s = true) (hP : NW s = P) (h0 : 0 ≤ r) (h1 : r ≤ 8) (hPl : P ≤ 1024) (R : List Int × Int)
    (hev : Ev (fun k => spec_GreedyCode.l1 k r (P : Int) [] (lf (List.replicate P false)) (gnL s r P (List.replicate P false)) s) R) : ∀ (m n : Nat), n + m = P →
    Ev (fun k => spec_GreedyCode.l0 k r (P : Int) [] (lfN P n) (mixG (fun _ => ((ballL s 0 r).length : Int)) (fun _ => 0) P n) (n : Int) s) R
  | 0, n, hm => by
    obtain rfl : n = P := by omega
    refine Ev.step (fun k => by simp only [spec_GreedyCode.l0]; exact rfl) ?_
    refine Ev.iff_neg (by omega) ?_
    have e : mixG (fun _ => ((ballL s 0 r).length : Int)) (fun _ => 0) n n = gnL s r n (List.replicate n false) := by
      rw [mixG_all, gn_start hs r (P := n) hP, List.eq_replicate_iff]
      refine ⟨by simp, fun b hb => ?_⟩
      simp only [List.mem_map] at hb
      obtain ⟨u, _, rfl⟩ := hb
      rfl
    rw [e, lfN_all]
    exact hev
  | m + 1, n, hm => by
    have hn : n < P := by omega
    have ih := greedy_l0 hs hP h0 h1 hPl R hev m (n + 1) (by omega)
    refine Ev.step (fun k => by simp only [spec_GreedyCode.l0]; exact rfl) ?_
    refine Ev.iff_pos (by omega) (Ev.iff_pos (by omega) (Ev.iff_pos (by simp [lfN]; omega) ?_))
    refine Ev.bind (l01Size_ev hs h0 (by omega)) ?_
    refine Ev.iff_pos (by rw [mixG_length]; omega) ?_
    rw [wrap_nat (by unfold maxLen; omega), Int.toNat_natCast, lfN_set hn]
    have hms := mixG_set (fun _ => ((ballL s 0 r).length : Int)) (fun _ => 0) hn
    rw [hms]
    exact ih
theorem gRun_len (s : List Int) (r : Int) (P : Nat) : ∀ (f : Nat) (cov : List Bool) (out : List Int), (gRun s r P f cov out).length ≤ out.length + f
  | 0, _, out => by simp [gRun]
  | f + 1, cov, out => by
    rw [gRun]
    split
    · omega
    · have := gRun_len s r P f (covU s r P (bst (gnF s r P cov) P) cov P) (out ++ [((bst (gnF s r P cov) P : Nat) : Int)])
      rw [List.length_append, List.length_singleton] at this
      omega
theorem greedy_sp {s : List Int} (hs : isSp s = true) {r : Int} (hr : 0 ≤ r ∧ r ≤ 8) : Ev (fun k => spec_GreedyCode.f k s r) (msort (greedyL s r (prd s).toNat), 0) := by
  unfold spec_GreedyCode.f
  refine Ev.bind (l01Is_ev s) ?_
  refine Ev.iff_pos hs ?_
  refine Ev.bindc (l01In_eq _ _ _) ?_
  refine Ev.iff_pos (decide_eq_true hr) ?_
  refine Ev.bind (l01N_sp hs) ?_
  have p0 := isSp_prd1 hs
  have p1 := isSp_prd hs
  obtain ⟨P, hP⟩ : ∃ P : Nat, prd s = (P : Int) := ⟨(prd s).toNat, by omega⟩
  have hN : NW s = P := by unfold NW; omega
  rw [hP, Int.toNat_natCast]
  refine Ev.iff_pos (by omega) (Ev.iff_pos (by omega) (Ev.iff_pos (by omega) ?_))
  have hrun := greedy_run (r := r) hs hN (by omega) (by omega) (P + 1) (List.replicate P false) [] (by simp) (by omega) (by simp) List.nodup_nil (by simp)
  rw [ordL_asc (l := []) List.Pairwise.nil] at hrun
  have := greedy_l0 hs hN hr.1 hr.2 (by omega) _ hrun P 0 (by omega)
  rw [lfN_zero, mixG_zero] at this
  have e : (List.range P).map (fun _ => (0 : Int)) = List.replicate P 0 := by
    rw [List.eq_replicate_iff]
    refine ⟨by simp, fun b hb => ?_⟩
    simp only [List.mem_map] at hb
    obtain ⟨u, _, rfl⟩ := hb
    rfl
  rw [e] at this
  exact this
end Go.Proofs.Ytlfipjdjmpdblaa.Q
