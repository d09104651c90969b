/- Orders of signs: what the program's isOrder and OrderSigns return. -/
import Derived.Test.YtccolbomlgokiaaHMapped
import Derived.Test.YtccolbomlgokiaaHClone
import Derived.Test.YtccolbomlgokiaaHOrder1
import Derived.Test.YtccolbomlgokiaaHDig
import Derived.Test.YtccolbomlgokiaaQGiven
import Derived.Test.YtccolbomlgokiaaFimplisPlace
import Derived.BigQuiet
set_option linter.unusedVariables false
set_option linter.unusedSimpArgs false
namespace Go.Proofs.Ytccolbomlgokiaa.P
open Go.RowKit Go.Proofs.YtccolbomlgokiaaW.PrintWords Go.Proofs.YtccolbomlgokiaaW.PrintLast Go.Proofs.YtccolbomlgokiaaW.PrintMore CC

def upTo (k : Nat) : List Int := (List.range k).map fun (i : Nat) => (i : Int)
theorem upTo_length (k : Nat) : (upTo k).length = k := by simp [upTo]
theorem upTo_rd {k j : Nat} (h : j < k) : rd (upTo k) (j : Int) = j := by simp [rd, upTo, List.getD_eq_getElem?_getD, h]
/-- Does a list have the numbers 0 to n - 1, each once? -/
def ordQ (p : List Int) (n : Int) : Bool := decide (msort p = upTo p.length) && decide ((p.length : Int) = n)

set_option maxHeartbeats 3000000 in
set_option maxRecDepth 100000 in
theorem isOrder_calls (A : Option Addr) (c : Nat) (p : List Int) (n : Int) (w : World) (hr : Kd.C (Kd.int .i64) w A p.length p) (hc : p.length ≤ c) (hl : p.length ≤ 1048576) :
    Calls Try.prog 45 #[.slice A p.length c, .int .i64 n] w
      fun e w' => e = .returned (.bool (ordQ p n)) ∧ Below w.heap.size w w' := by
  have HR := Aside0.mk hr
  clear hr
  go_enter Try.func45, Try.ntmps45
  go_wp2_with fail
  refine (clone_calls A c p _ HR.out hc hl).mono ?_
  rintro e w1 ⟨v1, rfl, hR, hb⟩
  obtain ⟨A1, c1, rfl⟩ := Kd.R_slice hR
  have HO1 := Aside0.mk (Kd.own_of_R hR)
  have HB1 := Aside0.mk hb
  clear hR hb
  go_wp2_with fail
  refine (sort_calls w.heap.size A1 c1 p w1 HO1.out hl).mono ?_
  rintro e w2 ⟨rfl, hO, hg⟩
  have HO := Aside0.mk hO
  have HB := Aside0.mk (pw_below_grown HB1.out _ HB1.out.size hg (fun k hk => own_base HO1.out k hk))
  clear hO hg HO1 HB1
  go_wp2_with fail
  go_loopw [14] (fun i W => ∃ (m : Nat), m ≤ p.length ∧ i = .int .i64 m ∧ Aside0 (∀ j : Nat, j < m → rd (msort p) (j : Int) = j) ∧ Aside0 (W.ownsRow w.heap.size 2 1 (.slice A1 p.length c1) p.length (nums .i64 (msort p))) ∧ Aside0 (Below w.heap.size w W)) (fun i _ => p.length - (intOf i).toNat)
  case atStart => exact ⟨0, by omega, rfl, ⟨fun j hj => by omega⟩, HO, HB⟩
  case round =>
    clear HO HB
    obtain ⟨m, hm, rfl, HN, HO, HB⟩ := hrel
    by_cases hlt : m < p.length
    · obtain ⟨g, rfl⟩ : ∃ g, A1 = some ⟨g, 0, none⟩ := by
        rcases HO.out.2 with ⟨_, h⟩ | ⟨g, cap', _, h, _⟩
        · omega
        · injection h with h1 h2 h3
          exact ⟨g, h1⟩
      obtain ⟨o1, _⟩ := own_at HO.out (m : Int) (by omega) (by omega)
      rw [Int.toNat_natCast] at o1
      by_cases hx : rd (msort p) (m : Int) = m
      · have HN2 : Aside0 (∀ j : Nat, j < m + 1 → rd (msort p) (j : Int) = j) := ⟨fun j hj => by
          by_cases e : j = m
          · subst e
            exact hx
          · exact HN.out j (by omega)⟩
        rw [hx] at o1
        clear hx HN
        go_wp2
        go_roundw
        case rel => exact ⟨m + 1, by omega, by go_num, HN2, HO, HB⟩
        case measure => simp [intOf]; omega
      · have HF : Aside0 (ordQ p n = false) := ⟨by
          unfold ordQ
          rw [Bool.and_eq_false_iff]
          refine .inl (decide_eq_false (fun e => hx ?_))
          rw [e]
          exact upTo_rd hlt⟩
        have t1 : (rd (msort p) (m : Int) != (m : Int)) = true := by simpa using hx
        have t2 : (rd (msort p) (m : Int) == (m : Int)) = false := by simpa using hx
        generalize rd (msort p) (m : Int) = k at *
        go_wp2
        go_ret
        rw [HF.out]
        exact ⟨rfl, HB.out⟩
    · obtain rfl : m = p.length := by omega
      have HE : Aside0 (ordQ p n = decide ((p.length : Int) = n)) := ⟨by
        unfold ordQ
        rw [decide_eq_true (show msort p = upTo p.length from by
          apply List.ext_getElem
          · rw [msort_length, upTo_length]
          · intro j h1 h2
            rw [msort_length] at h1
            have := HN.out j h1
            have e1 : rd (msort p) (j : Int) = (msort p)[j]'(by rw [msort_length]; exact h1) := by simp [rd, List.getD_eq_getElem?_getD, msort_length, h1]
            rw [← e1, this]
            simp [upTo]), Bool.true_and]⟩
      by_cases hl2 : (p.length : Int) = n
      · have t1 : ((p.length : Int) == n) = true := by simpa using hl2
        rw [decide_eq_true hl2] at HE
        subst hl2
        go_wp2
        go_ret
        rw [HE.out]
        exact ⟨rfl, HB.out⟩
      · have t1 : ((p.length : Int) == n) = false := by simpa using hl2
        rw [decide_eq_false hl2] at HE
        go_wp2
        go_ret
        rw [HE.out]
        exact ⟨rfl, HB.out⟩


/-- What OrderSigns answers. -/
def orderR (s C : List Int) (i : Int) (p : List Int) : List Int × Int :=
  if Q.rCode s C [] = 0 then if (0 ≤ i ∧ i < s.length) ∧ ordQ p (rd s i) = true then (mappedL (sgW s i.toNat p) C, 0) else ([], 2) else ([], Q.rCode s C [])

theorem ordQ_true {p : List Int} {n : Int} (h : ordQ p n = true) : (p.length : Int) = n ∧ ∀ j : Nat, j < p.length → 0 ≤ rd p (j : Int) ∧ rd p (j : Int) < p.length := by
  unfold ordQ at h
  rw [Bool.and_eq_true, decide_eq_true_eq, decide_eq_true_eq] at h
  refine ⟨h.2, fun j hj => ?_⟩
  have hm : rd p (j : Int) ∈ msort p := by
    rw [msort_mem]
    exact rd_memM hj
  rw [h.1] at hm
  simp only [upTo, List.mem_map, List.mem_range] at hm
  obtain ⟨i, hi, e⟩ := hm
  omega
theorem isPlace_eqo (s : List Int) (x : Int) : impl_isPlace.f s x = some (decide (0 ≤ x ∧ x < s.length)) := by
  unfold impl_isPlace.f impl_places.f
  by_cases h : x ≥ 0
  · rw [if_pos h]
    simp only [Option.bind_some, Option.some.injEq, decide_eq_decide]
    omega
  · rw [if_neg h]
    have : ¬ (0 ≤ x ∧ x < s.length) := by omega
    simp [this]

set_option maxHeartbeats 3000000 in
set_option maxRecDepth 100000 in
theorem orderSigns_calls (A : Option Addr) (c : Nat) (s : List Int) (A1 : Option Addr) (c1 : Nat) (C : List Int) (i : Int) (A2 : Option Addr) (c2 : Nat) (p : List Int) (w : World) (hr : Kd.C (Kd.int .i64) w A s.length s) (hc : s.length ≤ c) (hr1 : Kd.C (Kd.int .i64) w A1 C.length C) (hc1 : C.length ≤ c1) (hCl : C.length ≤ 1048576) (hr2 : Kd.C (Kd.int .i64) w A2 p.length p) (hc2 : p.length ≤ c2) (hpl : p.length ≤ 1048576) :
    Calls Try.prog 21 #[.agg #[.slice A s.length c], .slice A1 C.length c1, .int .i64 i, .slice A2 p.length c2] w
      fun e w' => ∃ v, e = .returned (.tuple #[v, .int .i64 (orderR s C i p).2]) ∧ Kd.R (Kd.int .i64) 2 w' w.heap.size (fun _ => True) v (orderR s C i p).1 ∧ Below w.heap.size w w' := by
  have huS := Try.underlying28
  have HR := Aside0.mk hr
  have HR1 := Aside0.mk hr1
  have HR2 := Aside0.mk hr2
  obtain ⟨kb, hbc⟩ := (Q.codeCode_ev s (c := C) (ws := []) hCl (by decide)).rounds
  have HBC := Aside0.mk hbc
  clear hr hr1 hr2 hbc
  go_enter Try.func21, Try.ntmps21
  go_wp2_with fail
  have k0 : (((w.alloc (.cells #[.slice A s.length c] 28)).alloc (.cells #[.int .i64 i] 2)).alloc (.cells #[.slice A2 p.length c2] 22)).heap[w.heap.size]? = some (.cells #[.slice A s.length c] 28 (0, 0)) := blk_alloc (blk_alloc (blk_new _ _) _) _
  have k1 : (((w.alloc (.cells #[.slice A s.length c] 28)).alloc (.cells #[.int .i64 i] 2)).alloc (.cells #[.slice A2 p.length c2] 22)).heap[w.heap.size + 1]? = some (.cells #[.int .i64 i] 2 (0, 0)) := blk_alloc (by simpa using blk_new (w.alloc (.cells #[.slice A s.length c] 28)) (.cells #[.int .i64 i] 2)) _
  have k2 : (((w.alloc (.cells #[.slice A s.length c] 28)).alloc (.cells #[.int .i64 i] 2)).alloc (.cells #[.slice A2 p.length c2] 22)).heap[w.heap.size + 1 + 1]? = some (.cells #[.slice A2 p.length c2] 22 (0, 0)) := by simpa using blk_new ((w.alloc (.cells #[.slice A s.length c] 28)).alloc (.cells #[.int .i64 i] 2)) (.cells #[.slice A2 p.length c2] 22)
  have hB : Below w.heap.size w (((w.alloc (.cells #[.slice A s.length c] 28)).alloc (.cells #[.int .i64 i] 2)).alloc (.cells #[.slice A2 p.length c2] 22)) := below_alloc (below_alloc ((Below.refl _ _).alloc (Nat.le_refl _) _) _) _
  refine (impl_codeCode.calls kb A c s A1 c1 C none 0 [] (Q.rCode s C []) _ (Kd.C_below HR.out hB) hc (Kd.C_below HR1.out hB) hc1 (Kd.C_nil _ _) (by simp) HBC.out).mono ?_
  rintro e w0 ⟨rfl, hb⟩
  have K0 := Aside0.mk (blk_below k0 hb)
  have K1 := Aside0.mk (blk_below k1 hb)
  have K2 := Aside0.mk (blk_below k2 hb)
  have B1 := Aside0.mk (below_then hB hB.size hb)
  clear k0 k1 k2 hB hb
  by_cases hz : Q.rCode s C [] = 0
  · have HZ : Aside0 (orderR s C i p = if (0 ≤ i ∧ i < s.length) ∧ ordQ p (rd s i) = true then (mappedL (sgW s i.toNat p) C, 0) else ([], 2)) := ⟨by unfold orderR; rw [if_pos hz]⟩
    obtain ⟨hs, hC, _⟩ := Q.rCode_zero hz
    have HS := Aside0.mk hs
    have hsl := isSp_len hs
    have HCW : Aside0 (∀ x ∈ C, 0 ≤ x ∧ x ≤ 1024) := ⟨fun x hx => by have h1 := (isW_iff s x).1 (Q.isC_words hC x hx); have h2 := isSp_prd hs; omega⟩
    rw [hz]
    clear hs hC hz HBC
    have hc0 : w0.cell? ⟨w.heap.size, 0, none⟩ = some (.slice A s.length c) := blk_cell K0.out 0
    have hc1' : w0.cell? ⟨w.heap.size + 1, 0, none⟩ = some (.int .i64 i) := blk_cell K1.out 0
    have hc2' : w0.cell? ⟨w.heap.size + 1 + 1, 0, none⟩ = some (.slice A2 p.length c2) := blk_cell K2.out 0
    by_cases hp : 0 ≤ i ∧ i < s.length
    · have hip : impl_isPlace.f s i = some true := by rw [isPlace_eqo]; simp [hp]
      obtain ⟨n, rfl⟩ : ∃ n : Nat, i = (n : Int) := ⟨i.toNat, by omega⟩
      have hn : n < s.length := by omega
      obtain ⟨ad1, e1, _⟩ := Kd.at_int HR.out (n : Int) (by omega) (by omega)
      subst e1
      have hx := rd_cell HR.out B1.out n hn
      go_wp2_with fail
      obtain ⟨bq, hbq⟩ : ∃ bq, ordQ p (rd s (n : Int)) = bq := ⟨_, rfl⟩
      have HIO : ∀ W, Kd.C (Kd.int .i64) W A2 p.length p → Calls Try.prog 45 #[.slice A2 p.length c2, .int .i64 (rd s (n : Int))] W fun e w' => e = .returned (.bool bq) ∧ Below W.heap.size W w' := fun W hW => by
        rw [← hbq]
        exact isOrder_calls A2 c2 p (rd s (n : Int)) W hW hc2 hpl
      have HIO := Aside0.mk HIO
      have HSN := Aside0.mk (rfl : rd s (n : Int) = rd s (n : Int))
      have HBQ := Aside0.mk hbq
      clear hbq HSN
      cases bq with
      | true =>
        have HZ2 : Aside0 (orderR s C (n : Int) p = (mappedL (sgW s n p) C, 0)) := ⟨by rw [HZ.out, if_pos ⟨hp, HBQ.out⟩, Int.toNat_natCast]⟩
        have HQ := Aside0.mk (ordQ_true HBQ.out)
        clear HZ hp HBQ
        go_region_held3 (fun w' => w'.cell? ⟨w.heap.size, 0, none⟩ = some (.slice (some ad1) s.length c) ∧ w'.cell? ⟨w.heap.size + 1, 0, none⟩ = some (.int .i64 (n : Int)) ∧ w'.cell? ⟨w.heap.size + 1 + 1, 0, none⟩ = some (.slice A2 p.length c2) ∧ w'.cell? (ad1.add n) = some (.int .i64 (rd s (n : Int))) ∧ Below w.heap.size w w')
          (first | exact ⟨hc0, hc1', hc2', hx, below_drew B1.out⟩ | exact (And.imp (pw_cell_below hb) (And.imp (pw_cell_below hb) (And.imp (pw_cell_below hb) (And.imp (pw_cell_below hb) (fun hS => below_then hS hS.size hb))))) (by assumption))
          (first
            | (go_at_call 44; refine (impl_isPlace.calls _ c s (n : Int) true _ ?k1 hc hip).mono ?_; (case k1 => exact Kd.C_below HR.out (by first | assumption | exact (by assumption : _ ∧ _ ∧ _ ∧ _ ∧ Below _ _ _).2.2.2.2)); rintro e w' ⟨rfl, hb⟩)
            | (go_at_call 45; refine (HIO.out _ ?k1).mono ?_; (case k1 => exact Kd.C_below HR2.out (by first | assumption | exact (by assumption : _ ∧ _ ∧ _ ∧ _ ∧ Below _ _ _).2.2.2.2)); rintro e w' ⟨rfl, hb⟩))
        all_goals
          obtain ⟨m0, m1, m2, _, hBB⟩ := (by assumption : World.cell? _ ⟨w.heap.size, 0, none⟩ = some (Value.slice (some ad1) s.length c) ∧ _)
          have M0 := Aside0.mk m0
          have M1 := Aside0.mk m1
          have M2 := Aside0.mk m2
          have B3 := Aside0.mk hBB
          clear m0 m1 m2 hBB
          go_wp2_with fail
          refine («OrderSigns$1».mapped_calls (some ⟨w.heap.size, 0, none⟩) (some ⟨w.heap.size + 1 + 1, 0, none⟩) (some ⟨w.heap.size + 1, 0, none⟩) (sgW s n p) A1 c1 C _ (Kd.C_below HR1.out B3.out) hc1 hCl ?hf).mono ?_
          case hf =>
            intro x W hx hW
            have hBW := below_then B3.out B3.out.size hW
            exact order1_calls w.heap.size (w.heap.size + 1 + 1) (w.heap.size + 1) n (some ad1) c s A2 c2 p x W (Kd.C_below HR.out hBW) hc (Kd.C_below HR2.out hBW) hc2 HS.out (HCW.out x hx).1 (HCW.out x hx).2 hn HQ.out.1 HQ.out.2 (pw_cell_below hW M0.out) (pw_cell_below hW M2.out) (pw_cell_below hW M1.out)
          rintro e w4 ⟨v, rfl, hO, hb⟩
          have O4 := Aside0.mk (Kd.R_lower hO B3.out.size)
          have B4 := Aside0.mk (below_then B3.out B3.out.size hb)
          clear hO hb
          go_wp2
          go_ret2
          rw [HZ2.out]
          exact ⟨_, rfl, O4.out, B4.out⟩
      | false =>
        have HZ2 : Aside0 (orderR s C (n : Int) p = ([], 2)) := ⟨by rw [HZ.out, if_neg (fun z => by rw [HBQ.out] at z; cases z.2)]⟩
        clear HZ hp HBQ
        go_region_held3 (fun w' => w'.cell? ⟨w.heap.size, 0, none⟩ = some (.slice (some ad1) s.length c) ∧ w'.cell? ⟨w.heap.size + 1, 0, none⟩ = some (.int .i64 (n : Int)) ∧ w'.cell? ⟨w.heap.size + 1 + 1, 0, none⟩ = some (.slice A2 p.length c2) ∧ w'.cell? (ad1.add n) = some (.int .i64 (rd s (n : Int))) ∧ Below w.heap.size w w')
          (first | exact ⟨hc0, hc1', hc2', hx, below_drew B1.out⟩ | exact (And.imp (pw_cell_below hb) (And.imp (pw_cell_below hb) (And.imp (pw_cell_below hb) (And.imp (pw_cell_below hb) (fun hS => below_then hS hS.size hb))))) (by assumption))
          (first
            | (go_at_call 44; refine (impl_isPlace.calls _ c s (n : Int) true _ ?k1 hc hip).mono ?_; (case k1 => exact Kd.C_below HR.out (by first | assumption | exact (by assumption : _ ∧ _ ∧ _ ∧ _ ∧ Below _ _ _).2.2.2.2)); rintro e w' ⟨rfl, hb⟩)
            | (go_at_call 45; refine (HIO.out _ ?k1).mono ?_; (case k1 => exact Kd.C_below HR2.out (by first | assumption | exact (by assumption : _ ∧ _ ∧ _ ∧ _ ∧ Below _ _ _).2.2.2.2)); rintro e w' ⟨rfl, hb⟩))
        all_goals
          obtain ⟨_, _, _, _, hBB⟩ := (by assumption : World.cell? _ ⟨w.heap.size, 0, none⟩ = some (Value.slice (some ad1) s.length c) ∧ _)
          have hBB := Aside0.mk hBB
          go_wp2
          go_ret2
          rw [HZ2.out]
          exact ⟨_, rfl, Kd.R_nil _ _ _ _ _, hBB.out⟩
    · have hip : impl_isPlace.f s i = some false := by rw [isPlace_eqo]; simp [hp]
      have HZ2 : Aside0 (orderR s C i p = ([], 2)) := ⟨by rw [HZ.out, if_neg (fun z => hp z.1)]⟩
      clear HZ hp
      go_wp2_with fail
      have BD := below_drew B1.out
      first
        | go_region_with (go_at_call 44; refine (impl_isPlace.calls _ c s i false _ (Kd.C_below HR.out BD) hc hip).mono ?_; rintro e w' ⟨rfl, hb⟩)
        | fail
      all_goals
        have B2 := Aside0.mk (below_then BD BD.size hb)
        go_wp2
        go_ret2
        rw [HZ2.out]
        exact ⟨_, rfl, Kd.R_nil _ _ _ _ _, B2.out⟩
  · have HZ : Aside0 (orderR s C i p = ([], Q.rCode s C [])) := ⟨by unfold orderR; rw [if_neg hz]⟩
    clear HBC
    generalize Q.rCode s C [] = z at *
    go_wp2
    go_ret2
    rw [HZ.out]
    exact ⟨_, rfl, Kd.R_nil _ _ _ _ _, B1.out⟩

/-- What the program's OrderSigns returns. -/
def impl_OrderSigns.f (l0_0 l1 : List Int) (a2 : Int) (l3 : List Int) : Option (List Int × Int) := if l1.length ≤ 1048576 ∧ l3.length ≤ 1048576 then some (orderR l0_0 l1 a2 l3) else none

theorem impl_OrderSigns.calls (A0_0 : Option Addr) (c0_0 : Nat) (l0_0 : List Int) (A1 : Option Addr) (c1 : Nat) (l1 : List Int) (a2 : Int) (A3 : Option Addr) (c3 : Nat) (l3 : List Int) (r1 : List Int) (r2 : Int) (w : World) (hr0_0 : Kd.C (Kd.int .i64) w A0_0 l0_0.length l0_0) (hc0_0 : l0_0.length ≤ c0_0) (hr1 : Kd.C (Kd.int .i64) w A1 l1.length l1) (hc1 : l1.length ≤ c1) (hr3 : Kd.C (Kd.int .i64) w A3 l3.length l3) (hc3 : l3.length ≤ c3) (h : impl_OrderSigns.f l0_0 l1 a2 l3 = some (r1, r2)) :
    Calls Try.prog 21 #[.agg #[.slice A0_0 l0_0.length c0_0], .slice A1 l1.length c1, .int .i64 a2, .slice A3 l3.length c3] w fun e w' => ∃ v0_ : Value, e = .returned (.tuple #[v0_, .int .i64 r2]) ∧ Kd.R (Kd.int .i64) 2 w' w.heap.size (fun _ => True) v0_ r1 ∧ Below w.heap.size w w' := by
  unfold impl_OrderSigns.f at h
  split at h
  · rename_i hl
    have h2 := Option.some.inj h
    have e1 : (orderR l0_0 l1 a2 l3).1 = r1 := by rw [h2]
    have e2 : (orderR l0_0 l1 a2 l3).2 = r2 := by rw [h2]
    subst e1 e2
    exact orderSigns_calls A0_0 c0_0 l0_0 A1 c1 l1 a2 A3 c3 l3 w hr0_0 hc0_0 hr1 hc1 hl.1 hr3 hc3 hl.2
  · cases h
end Go.Proofs.Ytccolbomlgokiaa.P
