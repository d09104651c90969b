/- What the law FnCovers needs, part 10: words, walks of functions (each says that a call returns what the plain Lean function beside it says), plain lemmas. -/
import Derived.Test.YtlfipjdjmpdblaaKFnCoversI
import Derived.FnLit
set_option linter.unusedVariables false
set_option linter.unusedSimpArgs false
namespace Go.Proofs.Ytlfipjdjmpdblaa.P
open Go.RowKit Go.Proofs.YtlfipjdjmpdblaaW.PrintWords Go.Proofs.YtlfipjdjmpdblaaW.PrintLast Go.Proofs.YtlfipjdjmpdblaaW.PrintMore CC
theorem flat8_get : ∀ (L : List (List Int)), (∀ l ∈ L, l.length = 8) → ∀ (n j : Nat) (l : List Int), L[n]? = some l → j < 8 → (flat8 L)[n * 8 + j]? = (nums .u8 l)[j]?
  | [], _, n, j, l, h, _ => by simp at h
  | a :: L, hL, 0, j, l, h, hj => by
    simp only [List.getElem?_cons_zero, Option.some.injEq] at h
    subst h
    have ha := hL a (by simp)
    simp only [flat8, List.map_cons, List.flatten_cons, Nat.zero_mul, Nat.zero_add]
    rw [List.getElem?_append_left (by simp [nums]; omega)]
  | a :: L, hL, n + 1, j, l, h, hj => by
    have ha := hL a (by simp)
    have hn : (nums .u8 a).length = 8 := by simpa [nums] using ha
    have ih := flat8_get L (fun l hl => hL l (by simp [hl])) n j l (by simpa using h) hj
    simp only [flat8, List.map_cons, List.flatten_cons] at ih ⊢
    rw [List.getElem?_append_right (by omega), hn, show (n + 1) * 8 + j - 8 = n * 8 + j by omega]
    exact ih
theorem all8_get (s : List Int) {P n : Nat} (h : n < P) : (all8 s P)[n]? = some (dig8 s (n : Int)) := by simp [all8, h]
theorem all8_len (s : List Int) (P : Nat) : ∀ l ∈ all8 s P, l.length = 8 := by
  intro l hl
  simp only [all8, List.mem_map] at hl
  obtain ⟨i, _, rfl⟩ := hl
  exact dig8_length _ _
theorem row8 {W : World} {b g cap P : Nat} {s : List Int} (h : W.ownsRow b 54 8 (.slice (some ⟨g, 0, none⟩) P cap) P (flat8 (all8 s P))) {n : Nat} (hn : n < P) {y0 y1 y2 y3 y4 y5 y6 y7 : Int} (hd : dig8 s (n : Int) = [y0, y1, y2, y3, y4, y5, y6, y7]) :
    W.cell? ⟨g, n * 8, none⟩ = some (.int .u8 y0) ∧ W.cell? ⟨g, n * 8 + 1, none⟩ = some (.int .u8 y1) ∧ W.cell? ⟨g, n * 8 + 2, none⟩ = some (.int .u8 y2) ∧ W.cell? ⟨g, n * 8 + 3, none⟩ = some (.int .u8 y3) ∧
    W.cell? ⟨g, n * 8 + 4, none⟩ = some (.int .u8 y4) ∧ W.cell? ⟨g, n * 8 + 5, none⟩ = some (.int .u8 y5) ∧ W.cell? ⟨g, n * 8 + 6, none⟩ = some (.int .u8 y6) ∧ W.cell? ⟨g, n * 8 + 7, none⟩ = some (.int .u8 y7) := by
  have key : ∀ j u, j < 8 → (nums .u8 [y0, y1, y2, y3, y4, y5, y6, y7])[j]? = some u → W.cell? ⟨g, n * 8 + j, none⟩ = some u := by
    intro j u hj hu
    have := h.cells (g := g) rfl (n * 8 + j) u (by rw [flat8_get _ (all8_len s P) n j _ (all8_get s hn) hj, hd]; exact hu)
    rwa [add_plain] at this
  exact ⟨key 0 _ (by omega) rfl, key 1 _ (by omega) rfl, key 2 _ (by omega) rfl, key 3 _ (by omega) rfl, key 4 _ (by omega) rfl, key 5 _ (by omega) rfl, key 6 _ (by omega) rfl, key 7 _ (by omega) rfl⟩
theorem infoI : (Try.prog.info? 2).map (fun i => (i.zero, i.size, i.bytes)) = some (some (.int .i64 0), 1, 8) := by kernel_rfl
theorem take_rd8 {d : List Int} {n : Nat} (hn : n < d.length) : d.take (n + 1) = d.take n ++ [rd d (n : Int)] := by
  rw [List.take_add_one]
  simp [rd, List.getD_eq_getElem?_getD, hn]
theorem row8g {W : World} {b g cap P : Nat} {L : List (List Int)} (h : W.ownsRow b 54 8 (.slice (some ⟨g, 0, none⟩) P cap) P (flat8 L)) (hL : ∀ l ∈ L, l.length = 8) {n : Nat} {y0 y1 y2 y3 y4 y5 y6 y7 : Int} (hd : L[n]? = some [y0, y1, y2, y3, y4, y5, y6, y7]) :
    W.cell? ⟨g, n * 8, none⟩ = some (.int .u8 y0) ∧ W.cell? ⟨g, n * 8 + 1, none⟩ = some (.int .u8 y1) ∧ W.cell? ⟨g, n * 8 + 2, none⟩ = some (.int .u8 y2) ∧ W.cell? ⟨g, n * 8 + 3, none⟩ = some (.int .u8 y3) ∧
    W.cell? ⟨g, n * 8 + 4, none⟩ = some (.int .u8 y4) ∧ W.cell? ⟨g, n * 8 + 5, none⟩ = some (.int .u8 y5) ∧ W.cell? ⟨g, n * 8 + 6, none⟩ = some (.int .u8 y6) ∧ W.cell? ⟨g, n * 8 + 7, none⟩ = some (.int .u8 y7) := by
  have key : ∀ j u, j < 8 → (nums .u8 [y0, y1, y2, y3, y4, y5, y6, y7])[j]? = some u → W.cell? ⟨g, n * 8 + j, none⟩ = some u := by
    intro j u hj hu
    have := h.cells (g := g) rfl (n * 8 + j) u (by rw [flat8_get _ hL n j _ hd hj]; exact hu)
    rwa [add_plain] at this
  exact ⟨key 0 _ (by omega) rfl, key 1 _ (by omega) rfl, key 2 _ (by omega) rfl, key 3 _ (by omega) rfl, key 4 _ (by omega) rfl, key 5 _ (by omega) rfl, key 6 _ (by omega) rfl, key 7 _ (by omega) rfl⟩
theorem allOf_len (s C : List Int) (n : Nat) : ∀ l ∈ allOf s C n, l.length = 8 := by
  intro l hl
  simp only [allOf, List.mem_map] at hl
  obtain ⟨i, _, rfl⟩ := hl
  exact dig8_length _ _
theorem allOf_get (s C : List Int) {n : Nat} (h : n < C.length) : (allOf s C C.length)[n]? = some (dig8 s (rd C (n : Int))) := by
  simp [allOf, rd, List.getD_eq_getElem?_getD, h]
theorem rd_mem {l : List Int} {n : Nat} (h : n < l.length) : rd l (n : Int) ∈ l := by
  have : rd l (n : Int) = l[n] := by simp [rd, List.getD_eq_getElem?_getD, h]
  rw [this]
  exact List.getElem_mem h
set_option maxHeartbeats 4000000 in
set_option maxRecDepth 100000 in
theorem «NeededWords$1».index_calls (P1 P2 P3 : Option Addr) (p : Int → Bool) (A : Option Addr) (c : Nat) (xs : List Int) (w : World) (hr : Kd.C (Kd.int .i64) w A xs.length xs) (hc : xs.length ≤ c) (hl : xs.length ≤ 1048576)
    (hf : ∀ (x : Int) (W : World), x ∈ xs → Below w.heap.size w W → Calls Try.prog 108 #[.int .i64 x, .pointer P1, .pointer P2, .pointer P3] W fun e w' => e = .returned (.bool (p x)) ∧ Below W.heap.size W w') :
    Calls Try.prog 125 #[.slice A xs.length c, .func (Fn.func 108) #[] #[.pointer P1, .pointer P2, .pointer P3]] w
      fun e w' => ∃ i : Int, e = .returned (.int .i64 i) ∧ ((i = -1 ∧ ∀ m : Nat, m < xs.length → p (rd xs (m : Int)) = false) ∨ ∃ m : Nat, m < xs.length ∧ i = (m : Int) ∧ (∀ j : Nat, j < m → p (rd xs (j : Int)) = false) ∧ p (rd xs (m : Int)) = true) ∧ Below w.heap.size w w' := by
  have HR := Aside0.mk hr
  have HF := Aside0.mk hf
  clear hr hf
  go_enter Try.func125, Try.ntmps125
  go_wp2_with fail
  go_loopw [8] (fun i W => ∃ (m : Nat), m ≤ xs.length ∧ i = .int .i64 m ∧ Aside0 (∀ j : Nat, j < m → p (rd xs (j : Int)) = false) ∧ Aside0 (Below w.heap.size w W)) (fun i _ => xs.length - (intOf i).toNat)
  case atStart => exact ⟨0, by omega, rfl, ⟨fun j hj => by omega⟩, ⟨Below.refl _ _⟩⟩
  case round =>
    obtain ⟨m, hm, rfl, HN, HB⟩ := hrel
    by_cases hlt : m < xs.length
    · obtain ⟨ad1, e1, _⟩ := Kd.at_int HR.out (m : Int) (by omega) (by omega)
      subst e1
      have hx := rd_cell HR.out HB.out m hlt
      have HM := Aside0.mk (rd_mem hlt)
      have HN2 := Aside0.mk (fun (h : p (rd xs (m : Int)) = false) (j : Nat) (hj : j < m + 1) => if he : j = m then he ▸ h else HN.out j (by omega))
      have HX : Aside0 (rd xs (m : Int) = rd xs (m : Int)) := ⟨rfl⟩
      obtain ⟨x, hxe⟩ : ∃ x, rd xs (m : Int) = x := ⟨_, rfl⟩
      have HXE := Aside0.mk hxe
      rw [hxe] at hx HM HN2
      clear hxe HX
      go_wp2_with fail
      refine (HF.out x _ HM.out (by first | exact HB.out | exact below_drew HB.out | exact pw_below_drewN HB.out _)).mono ?_
      rintro e w2 ⟨rfl, hb2⟩
      have B2 := Aside0.mk (below_then (by first | exact HB.out | exact below_drew HB.out | exact pw_below_drewN HB.out _) (by first | exact HB.out.size | exact (below_drew HB.out).size | exact (pw_below_drewN HB.out _).size) hb2)
      clear hb2 hx
      cases hp : p x with
      | false =>
        have HN3 := Aside0.mk (HN2.out hp)
        clear hp HN2
        go_wp2
        go_roundw
        case rel => exact ⟨m + 1, by omega, by go_num, HN3, B2⟩
        case measure => simp [intOf]; omega
      | true =>
        have HP := Aside0.mk hp
        clear hp HN2
        go_wp2
        go_ret
        exact ⟨_, rfl, .inr ⟨m, hlt, rfl, HN.out, by rw [HXE.out]; exact HP.out⟩, B2.out⟩
    · go_wp2
      go_ret
      exact ⟨_, rfl, .inl ⟨rfl, fun j hj => HN.out j (by omega)⟩, HB.out⟩
def mixG (f g : Nat → Int) (P m : Nat) : List Int := (List.range P).map fun u => if u < m then f u else g u
theorem mixG_length (f g : Nat → Int) (P m : Nat) : (mixG f g P m).length = P := by simp [mixG]
theorem mixG_zero (f g : Nat → Int) (P : Nat) : mixG f g P 0 = (List.range P).map g := by simp [mixG]
theorem mixG_all (f g : Nat → Int) (P : Nat) : mixG f g P P = (List.range P).map f := by
  unfold mixG
  apply List.map_congr_left
  intro u hu
  rw [if_pos (List.mem_range.1 hu)]
theorem mixG_set (f g : Nat → Int) {P m : Nat} (h : m < P) : (mixG f g P m).set m (f m) = mixG f g P (m + 1) := by
  apply List.ext_getElem?
  intro k
  by_cases hk : k = m
  · subst hk
    rw [List.getElem?_set_self (by rw [mixG_length]; exact h)]
    simp [mixG, h]
  · rw [List.getElem?_set_ne (fun e => hk e.symm)]
    simp only [mixG, List.getElem?_map]
    by_cases hp : k < P
    · simp only [List.getElem?_range hp, Option.map_some, Option.some.injEq]
      by_cases h1 : k < m
      · rw [if_pos h1, if_pos (by omega)]
      · rw [if_neg h1, if_neg (by omega)]
    · rw [List.getElem?_eq_none (by simp; omega)]
      rfl
def nrb (s : List Int) (r : Int) (a b : Nat) : Bool := decide (ham (dig8 s (a : Int)) (dig8 s (b : Int)) ≤ r)
def gnF (s : List Int) (r : Int) (P : Nat) (cov : List Bool) (w : Nat) : Int := (((List.range P).countP fun u => !(cov.getD u false) && nrb s r w u : Nat) : Int)
def gnL (s : List Int) (r : Int) (P : Nat) (cov : List Bool) : List Int := (List.range P).map (gnF s r P cov)
def bst (f : Nat → Int) : Nat → Nat
  | 0 => 0
  | n + 1 => if f n > f (bst f n) then n else bst f n
theorem bst_lt (f : Nat → Int) : ∀ {n : Nat}, 0 < n → bst f n < n
  | 1, _ => by unfold bst bst; split <;> omega
  | n + 2, _ => by
    have := bst_lt f (show 0 < n + 1 by omega)
    rw [bst]
    split
    · omega
    · omega
def covU (s : List Int) (r : Int) (P b : Nat) (cov : List Bool) (i : Nat) : List Bool := (List.range P).map fun u => cov.getD u false || (decide (u < i) && nrb s r b u)
theorem covU_len (s : List Int) (r : Int) (P b : Nat) (cov : List Bool) (i : Nat) : (covU s r P b cov i).length = P := by simp [covU]
theorem covU_get (s : List Int) (r : Int) (P b : Nat) (cov : List Bool) (i : Nat) {u : Nat} (hu : u < P) : (covU s r P b cov i).getD u false = (cov.getD u false || (decide (u < i) && nrb s r b u)) := by
  simp [covU, List.getD_eq_getElem?_getD, hu]
theorem countP_lose (q : Nat → Bool) (p p' : Nat → Bool) {i : Nat} : ∀ P : Nat, i < P → (∀ u, u ≠ i → p' u = p u) → p i = true → p' i = false → (List.range P).countP p' + 1 = (List.range P).countP p
  | 0, h, _, _, _ => by omega
  | P + 1, h, he, h1, h2 => by
    rw [List.range_succ, List.countP_append, List.countP_append]
    by_cases hi : i < P
    · have ih := countP_lose q p p' P hi he h1 h2
      have : p' P = p P := he P (by omega)
      simp only [List.countP_cons, List.countP_nil, this]
      omega
    · have e : i = P := by omega
      subst e
      have : (List.range i).countP p' = (List.range i).countP p := by
        apply List.countP_congr
        intro u hu
        rw [he u (by have := List.mem_range.1 hu; omega)]
      simp [List.countP_cons, h1, h2, this]
theorem gnF_congr (s : List Int) (r : Int) (P : Nat) {cov cov' : List Bool} (w : Nat) (h : ∀ u, u < P → (cov'.getD u false = cov.getD u false ∨ nrb s r w u = false)) : gnF s r P cov' w = gnF s r P cov w := by
  unfold gnF
  congr 1
  apply List.countP_congr
  intro u hu
  rcases h u (List.mem_range.1 hu) with e | e
  · rw [e]
  · rw [e, Bool.and_false, Bool.and_false]
theorem gnF_set (s : List Int) (r : Int) {P : Nat} {cov : List Bool} {i : Nat} (hi : i < P) (hl : cov.length = P) (h : cov.getD i false = false) (w : Nat) : gnF s r P (cov.set i true) w = if nrb s r w i = true then gnF s r P cov w - 1 else gnF s r P cov w := by
  by_cases hn : nrb s r w i = true
  · rw [if_pos hn]
    unfold gnF
    have := countP_lose (fun _ => true) (fun u => !(cov.getD u false) && nrb s r w u) (fun u => !((cov.set i true).getD u false) && nrb s r w u) P hi (fun u hu => by
      show (!((cov.set i true).getD u false) && nrb s r w u) = (!(cov.getD u false) && nrb s r w u)
      rw [List.getD_eq_getElem?_getD, List.getElem?_set_ne (fun e => hu e.symm), ← List.getD_eq_getElem?_getD]) (by simp only [h, hn]; rfl) (by
      show (!((cov.set i true).getD i false) && nrb s r w i) = false
      rw [List.getD_eq_getElem?_getD, List.getElem?_set_self (by omega)]
      rfl)
    omega
  · rw [if_neg hn]
    rw [Bool.not_eq_true] at hn
    apply gnF_congr
    intro u hu
    by_cases e : u = i
    · subst e
      exact .inr hn
    · refine .inl ?_
      rw [List.getD_eq_getElem?_getD, List.getElem?_set_ne (fun z => e z.symm), ← List.getD_eq_getElem?_getD]
theorem gnF_bd (s : List Int) (r : Int) (P : Nat) (cov : List Bool) (w : Nat) : 0 ≤ gnF s r P cov w ∧ gnF s r P cov w ≤ P := by
  unfold gnF
  have := List.countP_le_length (p := fun u => !(cov.getD u false) && nrb s r w u) (l := List.range P)
  rw [List.length_range] at this
  omega
theorem gnL_len (s : List Int) (r : Int) (P : Nat) (cov : List Bool) : (gnL s r P cov).length = P := by simp [gnL]
theorem gnL_rd (s : List Int) (r : Int) {P : Nat} (cov : List Bool) {w : Nat} (h : w < P) : rd (gnL s r P cov) (w : Int) = gnF s r P cov w := by
  simp [gnL, rd, List.getD_eq_getElem?_getD, h]
def cn (cov : List Bool) : Nat := cov.countP id
theorem cn_le (cov : List Bool) : cn cov ≤ cov.length := List.countP_le_length
theorem cn_range (P : Nat) {cov : List Bool} (h : cov.length = P) : cn cov = (List.range P).countP fun u => cov.getD u false := by
  have e : cov = (List.range P).map fun u => cov.getD u false := by
    apply List.ext_getElem
    · simp [h]
    · intro i h1 h2
      simp [List.getD_eq_getElem?_getD, h1]
  unfold cn
  conv => lhs; rw [e]
  rw [List.countP_map]
  rfl
theorem countP_more (p p' : Nat → Bool) : ∀ P : Nat, (∀ u, u < P → p u = true → p' u = true) → (∃ u, u < P ∧ p u = false ∧ p' u = true) → (List.range P).countP p + 1 ≤ (List.range P).countP p'
  | 0, _, ⟨u, h, _⟩ => by omega
  | P + 1, hm, ⟨u, hu, h1, h2⟩ => by
    rw [List.range_succ, List.countP_append, List.countP_append]
    by_cases e : u < P
    · have ih := countP_more p p' P (fun v hv => hm v (by omega)) ⟨u, e, h1, h2⟩
      have := hm P (by omega)
      simp only [List.countP_cons, List.countP_nil]
      revert this
      cases p P <;> cases p' P <;> simp <;> omega
    · have e2 : u = P := by omega
      subst e2
      have : (List.range u).countP p ≤ (List.range u).countP p' := by
        apply List.countP_mono_left
        intro v hv
        exact hm v (by have := List.mem_range.1 hv; omega)
      simp [List.countP_cons, h1, h2]
      omega
theorem cn_more (s : List Int) (r : Int) {P b : Nat} {cov : List Bool} (hl : cov.length = P) (h : gnF s r P cov b ≠ 0) : cn cov + 1 ≤ cn (covU s r P b cov P) := by
  rw [cn_range P hl, cn_range P (covU_len s r P b cov P)]
  have h1 : 0 < (List.range P).countP fun u => !(cov.getD u false) && nrb s r b u := by
    unfold gnF at h
    omega
  obtain ⟨u, hu, h2⟩ := List.countP_pos_iff.1 h1
  rw [Bool.and_eq_true, Bool.not_eq_true'] at h2
  have hP := List.mem_range.1 hu
  refine countP_more _ _ P (fun v hv hp => ?_) ⟨u, hP, h2.1, ?_⟩
  · show (covU s r P b cov P).getD v false = true
    rw [covU_get s r P b cov P hv, hp, Bool.true_or]
  · show (covU s r P b cov P).getD u false = true
    rw [covU_get s r P b cov P hP, h2.2, decide_eq_true hP, h2.1]
    rfl
def gRun (s : List Int) (r : Int) (P : Nat) : Nat → List Bool → List Int → List Int
  | 0, _, out => out
  | f + 1, cov, out => if gnF s r P cov (bst (gnF s r P cov) P) = 0 then out else gRun s r P f (covU s r P (bst (gnF s r P cov) P) cov P) (out ++ [((bst (gnF s r P cov) P : Nat) : Int)])
def greedyL (s : List Int) (r : Int) (P : Nat) : List Int := gRun s r P (P + 1) (List.replicate P false) []
end Go.Proofs.Ytlfipjdjmpdblaa.P
