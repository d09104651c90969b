/- The first place at which a function says true: what slices.IndexFunc returns for each function that it is handed. -/
import Derived.Test.YtbhgnphdhkmliaaHThose0
import Derived.FnLit
set_option linter.unusedVariables false
set_option linter.unusedSimpArgs false
namespace Go.Proofs.Ytbhgnphdhkmliaa.P
open Go.RowKit Go.Proofs.YtbhgnphdhkmliaaW.PrintWords Go.Proofs.YtbhgnphdhkmliaaW.PrintLast Go.Proofs.YtbhgnphdhkmliaaW.PrintMore CC

theorem rd_mem {l : List Int} {n : Nat} (h : n < l.length) : rd l (n : Int) ∈ l := by
  have : rd l (n : Int) = l[n] := by simp [rd, List.getD_eq_getElem?_getD, h]
  rw [this]
  exact List.getElem_mem h

set_option maxHeartbeats 4000000 in
set_option maxRecDepth 100000 in
theorem «KeepSign$1».index_calls (P1 P2 P3 : Option Addr) (p : Int → Bool) (A : Option Addr) (c : Nat) (xs : List Int) (w : World) (hr : Kd.C (Kd.int .i64) w A xs.length xs) (hc : xs.length ≤ c) (hl : xs.length ≤ 1048576)
    (hf : ∀ (x : Int) (W : World), x ∈ xs → Below w.heap.size w W → Calls Try.prog 73 #[.int .i64 x, .pointer P1, .pointer P2, .pointer P3] W fun e w' => e = .returned (.bool (p x)) ∧ Below W.heap.size W w') :
    Calls Try.prog 90 #[.slice A xs.length c, .func (Fn.func 73) #[] #[.pointer P1, .pointer P2, .pointer P3]] w
      fun e w' => ∃ i : Int, e = .returned (.int .i64 i) ∧ ((i = -1 ∧ ∀ m : Nat, m < xs.length → p (rd xs (m : Int)) = false) ∨ ∃ m : Nat, m < xs.length ∧ i = (m : Int) ∧ (∀ j : Nat, j < m → p (rd xs (j : Int)) = false) ∧ p (rd xs (m : Int)) = true) ∧ Below w.heap.size w w' := by
  have HR := Aside0.mk hr
  have HF := Aside0.mk hf
  clear hr hf
  go_enter Try.func90, Try.ntmps90
  go_wp2_with fail
  go_loopw [8] (fun i W => ∃ (m : Nat), m ≤ xs.length ∧ i = .int .i64 m ∧ Aside0 (∀ j : Nat, j < m → p (rd xs (j : Int)) = false) ∧ Aside0 (Below w.heap.size w W)) (fun i _ => xs.length - (intOf i).toNat)
  case atStart => exact ⟨0, by omega, rfl, ⟨fun j hj => by omega⟩, ⟨Below.refl _ _⟩⟩
  case round =>
    obtain ⟨m, hm, rfl, HN, HB⟩ := hrel
    by_cases hlt : m < xs.length
    · obtain ⟨ad1, e1, _⟩ := Kd.at_int HR.out (m : Int) (by omega) (by omega)
      subst e1
      have hx := rd_cell HR.out HB.out m hlt
      have HM := Aside0.mk (rd_mem hlt)
      have HN2 := Aside0.mk (fun (h : p (rd xs (m : Int)) = false) (j : Nat) (hj : j < m + 1) => if he : j = m then he ▸ h else HN.out j (by omega))
      have HX : Aside0 (rd xs (m : Int) = rd xs (m : Int)) := ⟨rfl⟩
      obtain ⟨x, hxe⟩ : ∃ x, rd xs (m : Int) = x := ⟨_, rfl⟩
      have HXE := Aside0.mk hxe
      rw [hxe] at hx HM HN2
      clear hxe HX
      go_wp2_with fail
      refine (HF.out x _ HM.out (by first | exact HB.out | exact below_drew HB.out | exact pw_below_drewN HB.out _)).mono ?_
      rintro e w2 ⟨rfl, hb2⟩
      have B2 := Aside0.mk (below_then (by first | exact HB.out | exact below_drew HB.out | exact pw_below_drewN HB.out _) (by first | exact HB.out.size | exact (below_drew HB.out).size | exact (pw_below_drewN HB.out _).size) hb2)
      clear hb2 hx
      cases hp : p x with
      | false =>
        have HN3 := Aside0.mk (HN2.out hp)
        clear hp HN2
        go_wp2
        go_roundw
        case rel => exact ⟨m + 1, by omega, by go_num, HN3, B2⟩
        case measure => simp [intOf]; omega
      | true =>
        have HP := Aside0.mk hp
        clear hp HN2
        go_wp2
        go_ret
        exact ⟨_, rfl, .inr ⟨m, hlt, rfl, HN.out, by rw [HXE.out]; exact HP.out⟩, B2.out⟩
    · go_wp2
      go_ret
      exact ⟨_, rfl, .inl ⟨rfl, fun j hj => HN.out j (by omega)⟩, HB.out⟩
end Go.Proofs.Ytbhgnphdhkmliaa.P
