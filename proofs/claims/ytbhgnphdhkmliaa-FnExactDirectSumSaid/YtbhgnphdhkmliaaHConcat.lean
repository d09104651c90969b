/- Two lists together: what slices.Concat returns of two lists. -/
import Derived.Test.YtbhgnphdhkmliaaHThose0
set_option linter.unusedVariables false
set_option linter.unusedSimpArgs false
namespace Go.Proofs.Ytbhgnphdhkmliaa.P
open Go.RowKit Go.Proofs.YtbhgnphdhkmliaaW.PrintWords Go.Proofs.YtbhgnphdhkmliaaW.PrintLast Go.Proofs.YtbhgnphdhkmliaaW.PrintMore CC

set_option maxHeartbeats 4000000 in
set_option maxRecDepth 100000 in
theorem grow_calls (n : Nat) (w : World) (hn : n ≤ 4194304) :
    Calls Try.prog 78 #[.slice none 0 0, .int .i64 (n : Int)] w
      fun e w' => ∃ v, e = .returned v ∧ Kd.R (Kd.int .i64) 2 w' w.heap.size (fun _ => True) v ([] : List Int) ∧ Below w.heap.size w w' := by
  by_cases h0 : n = 0
  · subst h0
    go_enter Try.func78, Try.ntmps78
    go_wp2
    go_ret
    exact ⟨_, rfl, Kd.R_nil _ _ _ _ _, Below.refl _ _⟩
  · have hp : 0 < (n : Int) := by omega
    have hlt : ¬ (n : Int) < 0 := by omega
    go_enter Try.func78, Try.ntmps78
    go_wp2_with (first | ((with_reducible refine gate_builtin (b := .append) (xs := #[.tmp 20, .tmp 21]) rfl ?_); at_builtin; refine Kd.R_append_zeros (Kd.int .i64) (w0 := w) w.heap.size rfl (.tmp 20) (.tmp 21) 22 3 2 (.int .i64 0) 8 rfl Try.underlying22 Try.underlying3 infoI rfl (by decide) (by omega) (.slice none 0 0) ([] : List Int) 0 (n : Int) (fun _ => True) rfl rfl rfl (fun _ _ => trivial) (Kd.R_nil _ _ _ _ _) ?aN (Below.refl _ _) (Nat.le_refl _) ?aL ?_; (case aN => omega); (case aL => simp; omega); intro v1 w1 hR hB hg hat; rw [List.nil_append, Int.toNat_natCast] at hR; obtain ⟨g, cap, e1, hb1, hl1, _⟩ := Kd.R_form hR (by simp; omega); rw [List.length_replicate] at e1; subst e1; have hcap : n ≤ cap := (Kd.R_reads' hR).2.1; have HR := Aside0.mk hR; have HB := Aside0.mk hB; clear hR hB hg hat))
    go_ret
    have := Kd.R_take HR.out (m := 0) (by omega)
    rw [List.take_zero] at this
    exact ⟨_, rfl, this, HB.out⟩

/-- The first of two lists together. -/
def catL (xs ys : List Int) : Nat → List Int
  | 0 => []
  | 1 => xs
  | _ => xs ++ ys
set_option maxHeartbeats 4000000 in
set_option maxRecDepth 100000 in
theorem concat_calls (gb : Nat) (A1 : Option Addr) (c1 : Nat) (xs : List Int) (A2 : Option Addr) (c2 : Nat) (ys : List Int) (w : World) (hr1 : Kd.C (Kd.int .i64) w A1 xs.length xs) (hc1 : xs.length ≤ c1) (hl1 : xs.length ≤ 1048576) (hr2 : Kd.C (Kd.int .i64) w A2 ys.length ys) (hc2 : ys.length ≤ c2) (hl2 : ys.length ≤ 1048576)
    (k0 : w.cell? ⟨gb, 0, none⟩ = some (.slice A1 xs.length c1)) (k1 : w.cell? ⟨gb, 1, none⟩ = some (.slice A2 ys.length c2)) :
    Calls Try.prog 38 #[.slice (some ⟨gb, 0, none⟩) 2 2] w
      fun e w' => ∃ v, e = .returned v ∧ Kd.R (Kd.int .i64) 2 w' w.heap.size (fun _ => True) v (xs ++ ys) ∧ Below w.heap.size w w' := by
  have HR1 := Aside0.mk hr1
  have HR2 := Aside0.mk hr2
  clear hr1 hr2
  go_enter Try.func38, Try.ntmps38
  go_wp2_with fail
  go_loopw [3, 11] (fun z i W => ∃ (n : Nat), n ≤ 2 ∧ i = .int .i64 n ∧ z = .int .i64 (catL xs ys n).length ∧ Aside0 (Below w.heap.size w W)) (fun _ i _ => 2 - (intOf i).toNat)
  case atStart => exact ⟨0, by omega, rfl, rfl, ⟨Below.refl _ _⟩⟩
  case round =>
    obtain ⟨n, hn, rfl, rfl, HB⟩ := hrel
    have q0 := pw_cell_below HB.out k0
    have q1 := pw_cell_below HB.out k1
    by_cases h2 : n = 2
    · subst h2
      have hcl : (catL xs ys 2).length = xs.length + ys.length := by simp [catL]
      rw [hcl]
      go_wp2_with fail
      refine (grow_calls (xs.length + ys.length) _ (by omega)).mono ?_
      rintro e w2 ⟨v, rfl, hR, hb⟩
      have HO2 := Aside0.mk (Kd.R_lower hR HB.out.size)
      have HB2 := Aside0.mk (below_then HB.out HB.out.size hb)
      clear hR hb q0 q1 HB
      go_wp2_with fail
      go_loopw [6, 27] (fun v i W => ∃ (n : Nat) (vo : Value), n ≤ 2 ∧ vo = v ∧ i = .int .i64 n ∧ Aside0 (Kd.R (Kd.int .i64) 2 W w.heap.size (fun _ => True) vo (catL xs ys n)) ∧ Aside0 (Below w.heap.size w W)) (fun _ i _ => 2 - (intOf i).toNat)
      case atStart => exact ⟨0, _, by omega, rfl, rfl, HO2, HB2⟩
      case round =>
        clear HO2 HB2
        obtain ⟨n, vo, hn, rfl, rfl, HO, HB⟩ := hrel
        have q0 := pw_cell_below HB.out k0
        have q1 := pw_cell_below HB.out k1
        by_cases h2 : n = 2
        · subst h2
          go_wp2
          go_ret
          exact ⟨_, rfl, HO.out, HB.out⟩
        · have hcl : (catL xs ys n).length ≤ 2097152 := by
            rcases n with _ | _ | n
            · simp [catL]
            · simp [catL]; omega
            · omega
          by_cases h0 : n = 0
          · subst h0
            go_wp2_with ((with_reducible refine gate_builtin (b := .append) (xs := #[.tmp 31, .tmp 32]) rfl ?_); at_builtin; refine Kd.R_append_rows (Kd.int .i64) (w0 := w) w.heap.size rfl (.tmp 31) (.tmp 32) 22 2 (.int .i64 0) 8 rfl Try.underlying22 infoI rfl (by decide) (by omega) vo (catL xs ys 0) xs _ _ _ (fun _ => True) (fun _ => False) rfl rfl ?aO ?aR (fun _ _ h => h) (fun _ h => h.elim) ?aF ?aB ?aS ?aL ?_; (case aR => exact Kd.C_below HR1.out HB.out); (case aB => exact HB.out); (case aF => exact (fun _ _ => trivial)); (case aO => exact HO.out); (case aS => exact HB.out.size); (case aL => omega); intro v105 w5 ho hb hg hat; have HB5 := Aside0.mk hb; have HO5 : Aside0 (Kd.R (Kd.int .i64) 2 w5 w.heap.size (fun _ => True) v105 (catL xs ys 1)) := ⟨ho⟩; clear ho hb hg hat)
            go_wp2
            go_roundw
            case rel => exact ⟨1, _, by omega, rfl, by go_num, ⟨HO5.out⟩, HB5⟩
            case measure => simp [intOf]
          · obtain rfl : n = 1 := by omega
            go_wp2_with ((with_reducible refine gate_builtin (b := .append) (xs := #[.tmp 31, .tmp 32]) rfl ?_); at_builtin; refine Kd.R_append_rows (Kd.int .i64) (w0 := w) w.heap.size rfl (.tmp 31) (.tmp 32) 22 2 (.int .i64 0) 8 rfl Try.underlying22 infoI rfl (by decide) (by omega) vo (catL xs ys 1) ys _ _ _ (fun _ => True) (fun _ => False) rfl rfl ?aO ?aR (fun _ _ h => h) (fun _ h => h.elim) ?aF ?aB ?aS ?aL ?_; (case aR => exact Kd.C_below HR2.out HB.out); (case aB => exact HB.out); (case aF => exact (fun _ _ => trivial)); (case aO => exact HO.out); (case aS => exact HB.out.size); (case aL => omega); intro v105 w5 ho hb hg hat; have HB5 := Aside0.mk hb; have HO5 : Aside0 (Kd.R (Kd.int .i64) 2 w5 w.heap.size (fun _ => True) v105 (catL xs ys 2)) := ⟨ho⟩; clear ho hb hg hat)
            go_wp2
            go_roundw
            case rel => exact ⟨2, _, by omega, rfl, by go_num, ⟨HO5.out⟩, HB5⟩
            case measure => simp [intOf]
    · by_cases h0 : n = 0
      · subst h0
        have hcl : (catL xs ys 0).length = 0 := rfl
        have hcl1 : (catL xs ys 1).length = xs.length := rfl
        rw [hcl]
        go_wp2
        go_roundw
        case rel => exact ⟨1, by omega, by go_num, by rw [hcl1] <;> go_num, HB⟩
        case measure => simp [intOf]
      · obtain rfl : n = 1 := by omega
        have hcl : (catL xs ys 1).length = xs.length := rfl
        have hcl1 : (catL xs ys 2).length = xs.length + ys.length := by simp [catL]
        rw [hcl]
        go_wp2
        go_roundw
        case rel => exact ⟨2, by omega, by go_num, by rw [hcl1]; go_num, HB⟩
        case measure => simp [intOf]
end Go.Proofs.Ytbhgnphdhkmliaa.P
