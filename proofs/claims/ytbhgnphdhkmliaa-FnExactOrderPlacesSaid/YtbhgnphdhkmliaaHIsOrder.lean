/- Orders: what the program's isOrder returns. -/
import Derived.Test.YtbhgnphdhkmliaaHSort
import Derived.Test.YtbhgnphdhkmliaaHClone
import Derived.Test.YtbhgnphdhkmliaaHDig
set_option linter.unusedVariables false
set_option linter.unusedSimpArgs false
namespace Go.Proofs.Ytbhgnphdhkmliaa.P
open Go.RowKit Go.Proofs.YtbhgnphdhkmliaaW.PrintWords Go.Proofs.YtbhgnphdhkmliaaW.PrintLast Go.Proofs.YtbhgnphdhkmliaaW.PrintMore CC

def upTo (k : Nat) : List Int := (List.range k).map fun (i : Nat) => (i : Int)
theorem upTo_length (k : Nat) : (upTo k).length = k := by simp [upTo]
theorem upTo_rd {k j : Nat} (h : j < k) : rd (upTo k) (j : Int) = j := by simp [rd, upTo, List.getD_eq_getElem?_getD, h]
/-- Does a list have the numbers 0 to n - 1, each once? -/
def ordQ (p : List Int) (n : Int) : Bool := decide (msort p = upTo p.length) && decide ((p.length : Int) = n)

set_option maxHeartbeats 3000000 in
set_option maxRecDepth 100000 in
theorem isOrder_calls (A : Option Addr) (c : Nat) (p : List Int) (n : Int) (w : World) (hr : Kd.C (Kd.int .i64) w A p.length p) (hc : p.length ≤ c) (hl : p.length ≤ 1048576) :
    Calls Try.prog 50 #[.slice A p.length c, .int .i64 n] w
      fun e w' => e = .returned (.bool (ordQ p n)) ∧ Below w.heap.size w w' := by
  have HR := Aside0.mk hr
  clear hr
  go_enter Try.func50, Try.ntmps50
  go_wp2_with fail
  refine (clone_calls A c p _ HR.out hc hl).mono ?_
  rintro e w1 ⟨v1, rfl, hR, hb⟩
  obtain ⟨A1, c1, rfl⟩ := Kd.R_slice hR
  have HO1 := Aside0.mk (Kd.own_of_R hR)
  have HB1 := Aside0.mk hb
  clear hR hb
  go_wp2_with fail
  refine (sort_calls w.heap.size A1 c1 p w1 HO1.out hl).mono ?_
  rintro e w2 ⟨rfl, hO, hg⟩
  have HO := Aside0.mk hO
  have HB := Aside0.mk (pw_below_grown HB1.out _ HB1.out.size hg (fun k hk => own_base HO1.out k hk))
  clear hO hg HO1 HB1
  go_wp2_with fail
  go_loopw [14] (fun i W => ∃ (m : Nat), m ≤ p.length ∧ i = .int .i64 m ∧ Aside0 (∀ j : Nat, j < m → rd (msort p) (j : Int) = j) ∧ Aside0 (W.ownsRow w.heap.size 2 1 (.slice A1 p.length c1) p.length (nums .i64 (msort p))) ∧ Aside0 (Below w.heap.size w W)) (fun i _ => p.length - (intOf i).toNat)
  case atStart => exact ⟨0, by omega, rfl, ⟨fun j hj => by omega⟩, HO, HB⟩
  case round =>
    clear HO HB
    obtain ⟨m, hm, rfl, HN, HO, HB⟩ := hrel
    by_cases hlt : m < p.length
    · obtain ⟨g, rfl⟩ : ∃ g, A1 = some ⟨g, 0, none⟩ := by
        rcases HO.out.2 with ⟨_, h⟩ | ⟨g, cap', _, h, _⟩
        · omega
        · injection h with h1 h2 h3
          exact ⟨g, h1⟩
      obtain ⟨o1, _⟩ := own_at HO.out (m : Int) (by omega) (by omega)
      rw [Int.toNat_natCast] at o1
      by_cases hx : rd (msort p) (m : Int) = m
      · have HN2 : Aside0 (∀ j : Nat, j < m + 1 → rd (msort p) (j : Int) = j) := ⟨fun j hj => by
          by_cases e : j = m
          · subst e
            exact hx
          · exact HN.out j (by omega)⟩
        rw [hx] at o1
        clear hx HN
        go_wp2
        go_roundw
        case rel => exact ⟨m + 1, by omega, by go_num, HN2, HO, HB⟩
        case measure => simp [intOf]; omega
      · have HF : Aside0 (ordQ p n = false) := ⟨by
          unfold ordQ
          rw [Bool.and_eq_false_iff]
          refine .inl (decide_eq_false (fun e => hx ?_))
          rw [e]
          exact upTo_rd hlt⟩
        have t1 : (rd (msort p) (m : Int) != (m : Int)) = true := by simpa using hx
        have t2 : (rd (msort p) (m : Int) == (m : Int)) = false := by simpa using hx
        generalize rd (msort p) (m : Int) = k at *
        go_wp2
        go_ret
        rw [HF.out]
        exact ⟨rfl, HB.out⟩
    · obtain rfl : m = p.length := by omega
      have HE : Aside0 (ordQ p n = decide ((p.length : Int) = n)) := ⟨by
        unfold ordQ
        rw [decide_eq_true (show msort p = upTo p.length from by
          apply List.ext_getElem
          · rw [msort_length, upTo_length]
          · intro j h1 h2
            rw [msort_length] at h1
            have := HN.out j h1
            have e1 : rd (msort p) (j : Int) = (msort p)[j]'(by rw [msort_length]; exact h1) := by simp [rd, List.getD_eq_getElem?_getD, msort_length, h1]
            rw [← e1, this]
            simp [upTo]), Bool.true_and]⟩
      by_cases hl2 : (p.length : Int) = n
      · have t1 : ((p.length : Int) == n) = true := by simpa using hl2
        rw [decide_eq_true hl2] at HE
        subst hl2
        go_wp2
        go_ret
        rw [HE.out]
        exact ⟨rfl, HB.out⟩
      · have t1 : ((p.length : Int) == n) = false := by simpa using hl2
        rw [decide_eq_false hl2] at HE
        go_wp2
        go_ret
        rw [HE.out]
        exact ⟨rfl, HB.out⟩
end Go.Proofs.Ytbhgnphdhkmliaa.P
