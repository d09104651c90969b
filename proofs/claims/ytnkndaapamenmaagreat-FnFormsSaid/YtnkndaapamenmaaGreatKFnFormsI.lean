/- What the law FnForms needs, part 9: words, walks of functions (each says that a call returns what the plain Lean function beside it says), plain lemmas. -/
import Derived.Test.YtnkndaapamenmaaGreatKFnFormsH
import Derived.FnLit
set_option linter.unusedVariables false
set_option linter.unusedSimpArgs false
namespace Go.Proofs.YtnkndaapamenmaaGreat.P
open Go.RowKit Go.Proofs.YtnkndaapamenmaaGreatW.PrintWords Go.Proofs.YtnkndaapamenmaaGreatW.PrintLast Go.Proofs.YtnkndaapamenmaaGreatW.PrintMore CC
theorem flat8_get : ∀ (L : List (List Int)), (∀ l ∈ L, l.length = 8) → ∀ (n j : Nat) (l : List Int), L[n]? = some l → j < 8 → (flat8 L)[n * 8 + j]? = (nums .u8 l)[j]?
  | [], _, n, j, l, h, _ => by simp at h
  | a :: L, hL, 0, j, l, h, hj => by
    simp only [List.getElem?_cons_zero, Option.some.injEq] at h
    subst h
    have ha := hL a (by simp)
    simp only [flat8, List.map_cons, List.flatten_cons, Nat.zero_mul, Nat.zero_add]
    rw [List.getElem?_append_left (by simp [nums]; omega)]
  | a :: L, hL, n + 1, j, l, h, hj => by
    have ha := hL a (by simp)
    have hn : (nums .u8 a).length = 8 := by simpa [nums] using ha
    have ih := flat8_get L (fun l hl => hL l (by simp [hl])) n j l (by simpa using h) hj
    simp only [flat8, List.map_cons, List.flatten_cons] at ih ⊢
    rw [List.getElem?_append_right (by omega), hn, show (n + 1) * 8 + j - 8 = n * 8 + j by omega]
    exact ih
theorem infoI : (Tryz.prog.info? 2).map (fun i => (i.zero, i.size, i.bytes)) = some (some (.int .i64 0), 1, 8) := by kernel_rfl
theorem take_rd8 {d : List Int} {n : Nat} (hn : n < d.length) : d.take (n + 1) = d.take n ++ [rd d (n : Int)] := by
  rw [List.take_add_one]
  simp [rd, List.getD_eq_getElem?_getD, hn]
theorem row8g {W : World} {b g cap P : Nat} {L : List (List Int)} (h : W.ownsRow b 66 8 (.slice (some ⟨g, 0, none⟩) P cap) P (flat8 L)) (hL : ∀ l ∈ L, l.length = 8) {n : Nat} {y0 y1 y2 y3 y4 y5 y6 y7 : Int} (hd : L[n]? = some [y0, y1, y2, y3, y4, y5, y6, y7]) :
    W.cell? ⟨g, n * 8, none⟩ = some (.int .u8 y0) ∧ W.cell? ⟨g, n * 8 + 1, none⟩ = some (.int .u8 y1) ∧ W.cell? ⟨g, n * 8 + 2, none⟩ = some (.int .u8 y2) ∧ W.cell? ⟨g, n * 8 + 3, none⟩ = some (.int .u8 y3) ∧
    W.cell? ⟨g, n * 8 + 4, none⟩ = some (.int .u8 y4) ∧ W.cell? ⟨g, n * 8 + 5, none⟩ = some (.int .u8 y5) ∧ W.cell? ⟨g, n * 8 + 6, none⟩ = some (.int .u8 y6) ∧ W.cell? ⟨g, n * 8 + 7, none⟩ = some (.int .u8 y7) := by
  have key : ∀ j u, j < 8 → (nums .u8 [y0, y1, y2, y3, y4, y5, y6, y7])[j]? = some u → W.cell? ⟨g, n * 8 + j, none⟩ = some u := by
    intro j u hj hu
    have := h.cells (g := g) rfl (n * 8 + j) u (by rw [flat8_get _ hL n j _ hd hj]; exact hu)
    rwa [add_plain] at this
  exact ⟨key 0 _ (by omega) rfl, key 1 _ (by omega) rfl, key 2 _ (by omega) rfl, key 3 _ (by omega) rfl, key 4 _ (by omega) rfl, key 5 _ (by omega) rfl, key 6 _ (by omega) rfl, key 7 _ (by omega) rfl⟩
theorem allOf_len (s C : List Int) (n : Nat) : ∀ l ∈ allOf s C n, l.length = 8 := by
  intro l hl
  simp only [allOf, List.mem_map] at hl
  obtain ⟨i, _, rfl⟩ := hl
  exact dig8_length _ _
theorem allOf_get (s C : List Int) {n : Nat} (h : n < C.length) : (allOf s C C.length)[n]? = some (dig8 s (rd C (n : Int))) := by
  simp [allOf, rd, List.getD_eq_getElem?_getD, h]
set_option maxHeartbeats 4000000 in
set_option maxRecDepth 100000 in
theorem grow_calls (n : Nat) (w : World) (hn : n ≤ 4194304) :
    Calls Tryz.prog 68 #[.slice none 0 0, .int .i64 (n : Int)] w
      fun e w' => ∃ v, e = .returned v ∧ Kd.R (Kd.int .i64) 2 w' w.heap.size (fun _ => True) v ([] : List Int) ∧ Below w.heap.size w w' := by
  by_cases h0 : n = 0
  · subst h0
    go_enter Tryz.func68, Tryz.ntmps68
    go_wp2
    go_ret
    exact ⟨_, rfl, Kd.R_nil _ _ _ _ _, Below.refl _ _⟩
  · have hp : 0 < (n : Int) := by omega
    have hlt : ¬ (n : Int) < 0 := by omega
    go_enter Tryz.func68, Tryz.ntmps68
    go_wp2_with (first | ((with_reducible refine gate_builtin (b := .append) (xs := #[.tmp 20, .tmp 21]) rfl ?_); at_builtin; refine Kd.R_append_zeros (Kd.int .i64) (w0 := w) w.heap.size rfl (.tmp 20) (.tmp 21) 24 3 2 (.int .i64 0) 8 rfl Tryz.underlying24 Tryz.underlying3 infoI rfl (by decide) (by omega) (.slice none 0 0) ([] : List Int) 0 (n : Int) (fun _ => True) rfl rfl rfl (fun _ _ => trivial) (Kd.R_nil _ _ _ _ _) ?aN (Below.refl _ _) (Nat.le_refl _) ?aL ?_; (case aN => omega); (case aL => simp; omega); intro v1 w1 hR hB hg hat; rw [List.nil_append, Int.toNat_natCast] at hR; obtain ⟨g, cap, e1, hb1, hl1, _⟩ := Kd.R_form hR (by simp; omega); rw [List.length_replicate] at e1; subst e1; have hcap : n ≤ cap := (Kd.R_reads' hR).2.1; have HR := Aside0.mk hR; have HB := Aside0.mk hB; clear hR hB hg hat))
    go_ret
    have := Kd.R_take HR.out (m := 0) (by omega)
    rw [List.take_zero] at this
    exact ⟨_, rfl, this, HB.out⟩
def catL (xs ys : List Int) : Nat → List Int
  | 0 => []
  | 1 => xs
  | _ => xs ++ ys
set_option maxHeartbeats 4000000 in
set_option maxRecDepth 100000 in
theorem concat_calls (gb : Nat) (A1 : Option Addr) (c1 : Nat) (xs : List Int) (A2 : Option Addr) (c2 : Nat) (ys : List Int) (w : World) (hr1 : Kd.C (Kd.int .i64) w A1 xs.length xs) (hc1 : xs.length ≤ c1) (hl1 : xs.length ≤ 1048576) (hr2 : Kd.C (Kd.int .i64) w A2 ys.length ys) (hc2 : ys.length ≤ c2) (hl2 : ys.length ≤ 1048576)
    (k0 : w.cell? ⟨gb, 0, none⟩ = some (.slice A1 xs.length c1)) (k1 : w.cell? ⟨gb, 1, none⟩ = some (.slice A2 ys.length c2)) :
    Calls Tryz.prog 32 #[.slice (some ⟨gb, 0, none⟩) 2 2] w
      fun e w' => ∃ v, e = .returned v ∧ Kd.R (Kd.int .i64) 2 w' w.heap.size (fun _ => True) v (xs ++ ys) ∧ Below w.heap.size w w' := by
  have HR1 := Aside0.mk hr1
  have HR2 := Aside0.mk hr2
  clear hr1 hr2
  go_enter Tryz.func32, Tryz.ntmps32
  go_wp2_with fail
  go_loopw [3, 11] (fun z i W => ∃ (n : Nat), n ≤ 2 ∧ i = .int .i64 n ∧ z = .int .i64 (catL xs ys n).length ∧ Aside0 (Below w.heap.size w W)) (fun _ i _ => 2 - (intOf i).toNat)
  case atStart => exact ⟨0, by omega, rfl, rfl, ⟨Below.refl _ _⟩⟩
  case round =>
    obtain ⟨n, hn, rfl, rfl, HB⟩ := hrel
    have q0 := pw_cell_below HB.out k0
    have q1 := pw_cell_below HB.out k1
    by_cases h2 : n = 2
    · subst h2
      have hcl : (catL xs ys 2).length = xs.length + ys.length := by simp [catL]
      rw [hcl]
      go_wp2_with fail
      refine (grow_calls (xs.length + ys.length) _ (by omega)).mono ?_
      rintro e w2 ⟨v, rfl, hR, hb⟩
      have HO2 := Aside0.mk (Kd.R_lower hR HB.out.size)
      have HB2 := Aside0.mk (below_then HB.out HB.out.size hb)
      clear hR hb q0 q1 HB
      go_wp2_with fail
      go_loopw [6, 27] (fun v i W => ∃ (n : Nat) (vo : Value), n ≤ 2 ∧ vo = v ∧ i = .int .i64 n ∧ Aside0 (Kd.R (Kd.int .i64) 2 W w.heap.size (fun _ => True) vo (catL xs ys n)) ∧ Aside0 (Below w.heap.size w W)) (fun _ i _ => 2 - (intOf i).toNat)
      case atStart => exact ⟨0, _, by omega, rfl, rfl, HO2, HB2⟩
      case round =>
        clear HO2 HB2
        obtain ⟨n, vo, hn, rfl, rfl, HO, HB⟩ := hrel
        have q0 := pw_cell_below HB.out k0
        have q1 := pw_cell_below HB.out k1
        by_cases h2 : n = 2
        · subst h2
          go_wp2
          go_ret
          exact ⟨_, rfl, HO.out, HB.out⟩
        · have hcl : (catL xs ys n).length ≤ 2097152 := by
            rcases n with _ | _ | n
            · simp [catL]
            · simp [catL]; omega
            · omega
          by_cases h0 : n = 0
          · subst h0
            go_wp2_with ((with_reducible refine gate_builtin (b := .append) (xs := #[.tmp 31, .tmp 32]) rfl ?_); at_builtin; refine Kd.R_append_rows (Kd.int .i64) (w0 := w) w.heap.size rfl (.tmp 31) (.tmp 32) 24 2 (.int .i64 0) 8 rfl Tryz.underlying24 infoI rfl (by decide) (by omega) vo (catL xs ys 0) xs _ _ _ (fun _ => True) (fun _ => False) rfl rfl ?aO ?aR (fun _ _ h => h) (fun _ h => h.elim) ?aF ?aB ?aS ?aL ?_; (case aR => exact Kd.C_below HR1.out HB.out); (case aB => exact HB.out); (case aF => exact (fun _ _ => trivial)); (case aO => exact HO.out); (case aS => exact HB.out.size); (case aL => omega); intro v105 w5 ho hb hg hat; have HB5 := Aside0.mk hb; have HO5 : Aside0 (Kd.R (Kd.int .i64) 2 w5 w.heap.size (fun _ => True) v105 (catL xs ys 1)) := ⟨ho⟩; clear ho hb hg hat)
            go_wp2
            go_roundw
            case rel => exact ⟨1, _, by omega, rfl, by go_num, ⟨HO5.out⟩, HB5⟩
            case measure => simp [intOf]
          · obtain rfl : n = 1 := by omega
            go_wp2_with ((with_reducible refine gate_builtin (b := .append) (xs := #[.tmp 31, .tmp 32]) rfl ?_); at_builtin; refine Kd.R_append_rows (Kd.int .i64) (w0 := w) w.heap.size rfl (.tmp 31) (.tmp 32) 24 2 (.int .i64 0) 8 rfl Tryz.underlying24 infoI rfl (by decide) (by omega) vo (catL xs ys 1) ys _ _ _ (fun _ => True) (fun _ => False) rfl rfl ?aO ?aR (fun _ _ h => h) (fun _ h => h.elim) ?aF ?aB ?aS ?aL ?_; (case aR => exact Kd.C_below HR2.out HB.out); (case aB => exact HB.out); (case aF => exact (fun _ _ => trivial)); (case aO => exact HO.out); (case aS => exact HB.out.size); (case aL => omega); intro v105 w5 ho hb hg hat; have HB5 := Aside0.mk hb; have HO5 : Aside0 (Kd.R (Kd.int .i64) 2 w5 w.heap.size (fun _ => True) v105 (catL xs ys 2)) := ⟨ho⟩; clear ho hb hg hat)
            go_wp2
            go_roundw
            case rel => exact ⟨2, _, by omega, rfl, by go_num, ⟨HO5.out⟩, HB5⟩
            case measure => simp [intOf]
    · by_cases h0 : n = 0
      · subst h0
        have hcl : (catL xs ys 0).length = 0 := rfl
        have hcl1 : (catL xs ys 1).length = xs.length := rfl
        rw [hcl]
        go_wp2
        go_roundw
        case rel => exact ⟨1, by omega, by go_num, by rw [hcl1] <;> go_num, HB⟩
        case measure => simp [intOf]
      · obtain rfl : n = 1 := by omega
        have hcl : (catL xs ys 1).length = xs.length := rfl
        have hcl1 : (catL xs ys 2).length = xs.length + ys.length := by simp [catL]
        rw [hcl]
        go_wp2
        go_roundw
        case rel => exact ⟨2, by omega, by go_num, by rw [hcl1]; go_num, HB⟩
        case measure => simp [intOf]
theorem rd_mem {l : List Int} {n : Nat} (h : n < l.length) : rd l (n : Int) ∈ l := by
  have : rd l (n : Int) = l[n] := by simp [rd, List.getD_eq_getElem?_getD, h]
  rw [this]
  exact List.getElem_mem h
set_option maxHeartbeats 4000000 in
set_option maxRecDepth 100000 in
theorem «CodesInCommon$1».index_calls (P1 : Option Addr) (p : Int → Bool) (A : Option Addr) (c : Nat) (xs : List Int) (w : World) (hr : Kd.C (Kd.int .i64) w A xs.length xs) (hc : xs.length ≤ c) (hl : xs.length ≤ 1048576)
    (hf : ∀ (x : Int) (W : World), x ∈ xs → Below w.heap.size w W → Calls Tryz.prog 40 #[.int .i64 x, .pointer P1] W fun e w' => e = .returned (.bool (p x)) ∧ Below W.heap.size W w') :
    Calls Tryz.prog 70 #[.slice A xs.length c, .func (Fn.func 40) #[] #[.pointer P1]] w
      fun e w' => ∃ i : Int, e = .returned (.int .i64 i) ∧ ((i = -1 ∧ ∀ m : Nat, m < xs.length → p (rd xs (m : Int)) = false) ∨ ∃ m : Nat, m < xs.length ∧ i = (m : Int) ∧ (∀ j : Nat, j < m → p (rd xs (j : Int)) = false) ∧ p (rd xs (m : Int)) = true) ∧ Below w.heap.size w w' := by
  have HR := Aside0.mk hr
  have HF := Aside0.mk hf
  clear hr hf
  go_enter Tryz.func70, Tryz.ntmps70
  go_wp2_with fail
  go_loopw [8] (fun i W => ∃ (m : Nat), m ≤ xs.length ∧ i = .int .i64 m ∧ Aside0 (∀ j : Nat, j < m → p (rd xs (j : Int)) = false) ∧ Aside0 (Below w.heap.size w W)) (fun i _ => xs.length - (intOf i).toNat)
  case atStart => exact ⟨0, by omega, rfl, ⟨fun j hj => by omega⟩, ⟨Below.refl _ _⟩⟩
  case round =>
    obtain ⟨m, hm, rfl, HN, HB⟩ := hrel
    by_cases hlt : m < xs.length
    · obtain ⟨ad1, e1, _⟩ := Kd.at_int HR.out (m : Int) (by omega) (by omega)
      subst e1
      have hx := rd_cell HR.out HB.out m hlt
      have HM := Aside0.mk (rd_mem hlt)
      have HN2 := Aside0.mk (fun (h : p (rd xs (m : Int)) = false) (j : Nat) (hj : j < m + 1) => if he : j = m then he ▸ h else HN.out j (by omega))
      have HX : Aside0 (rd xs (m : Int) = rd xs (m : Int)) := ⟨rfl⟩
      obtain ⟨x, hxe⟩ : ∃ x, rd xs (m : Int) = x := ⟨_, rfl⟩
      have HXE := Aside0.mk hxe
      rw [hxe] at hx HM HN2
      clear hxe HX
      go_wp2_with fail
      refine (HF.out x _ HM.out (by first | exact HB.out | exact below_drew HB.out | exact pw_below_drewN HB.out _)).mono ?_
      rintro e w2 ⟨rfl, hb2⟩
      have B2 := Aside0.mk (below_then (by first | exact HB.out | exact below_drew HB.out | exact pw_below_drewN HB.out _) (by first | exact HB.out.size | exact (below_drew HB.out).size | exact (pw_below_drewN HB.out _).size) hb2)
      clear hb2 hx
      cases hp : p x with
      | false =>
        have HN3 := Aside0.mk (HN2.out hp)
        clear hp HN2
        go_wp2
        go_roundw
        case rel => exact ⟨m + 1, by omega, by go_num, HN3, B2⟩
        case measure => simp [intOf]; omega
      | true =>
        have HP := Aside0.mk hp
        clear hp HN2
        go_wp2
        go_ret
        exact ⟨_, rfl, .inr ⟨m, hlt, rfl, HN.out, by rw [HXE.out]; exact HP.out⟩, B2.out⟩
    · go_wp2
      go_ret
      exact ⟨_, rfl, .inl ⟨rfl, fun j hj => HN.out j (by omega)⟩, HB.out⟩
end Go.Proofs.YtnkndaapamenmaaGreat.P
