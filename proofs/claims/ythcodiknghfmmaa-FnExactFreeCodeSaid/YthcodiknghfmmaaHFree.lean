/- The words of a free code: the functions that the program's FreeCode hands on, and the words whose digits are such. -/
import Derived.Test.YthcodiknghfmmaaHIdx
import Derived.Test.YthcodiknghfmmaaQBase
import Derived.Test.YthcodiknghfmmaaFimplisPlace
import Derived.BigQuiet
set_option linter.unusedVariables false
set_option linter.unusedSimpArgs false
namespace Go.Proofs.Ythcodiknghfmmaa.P
open Go.RowKit Go.Proofs.YthcodiknghfmmaaW.PrintWords Go.Proofs.YthcodiknghfmmaaW.PrintLast Go.Proofs.YthcodiknghfmmaaW.PrintMore CC

set_option maxHeartbeats 1000000 in
set_option maxRecDepth 100000 in
theorem free11_calls (gd : Nat) (y0 y1 y2 y3 y4 y5 y6 y7 x : Int) (w : World) (h0 : 0 ≤ x) (h1 : x < 8) (hd : w.heap[gd]? = some (.cells #[.int .u8 y0, .int .u8 y1, .int .u8 y2, .int .u8 y3, .int .u8 y4, .int .u8 y5, .int .u8 y6, .int .u8 y7] 52 (0, 0))) :
    Calls Try.prog 40 #[.int .i64 x, .pointer (some ⟨gd, 0, none⟩)] w
      fun e w' => e = .returned (.bool (decide (rd [y0, y1, y2, y3, y4, y5, y6, y7] x ≠ 0))) ∧ Below w.heap.size w w' := by
  have huD := Try.underlying52
  obtain ⟨n, rfl⟩ := Int.eq_ofNat_of_zero_le h0
  have hc := blk_cell hd n
  have hn : n < 8 := by omega
  have hv : (#[.int .u8 y0, .int .u8 y1, .int .u8 y2, .int .u8 y3, .int .u8 y4, .int .u8 y5, .int .u8 y6, .int .u8 y7] : Array Value)[n]? = some (.int .u8 (rd [y0, y1, y2, y3, y4, y5, y6, y7] (n : Int))) := by
    rcases n with _ | _ | _ | _ | _ | _ | _ | _ | n
    all_goals first | rfl | omega
  rw [hv] at hc
  generalize rd [y0, y1, y2, y3, y4, y5, y6, y7] (n : Int) = v at *
  clear hd hv
  go_enter Try.func40, Try.ntmps40
  by_cases hv0 : v = 0
  · subst hv0
    go_wp2
    go_ret
    exact ⟨rfl, Below.refl _ _⟩
  · have q1 : (v == 0) = false := by simpa using hv0
    have q2 : (v != 0) = true := by simp [hv0]
    go_wp2
    go_ret
    exact ⟨by simp [hv0], Below.refl _ _⟩

set_option maxHeartbeats 1000000 in
set_option maxRecDepth 100000 in
theorem contains11_calls (P1 : Option Addr) (p : Int → Bool) (A : Option Addr) (c : Nat) (xs : List Int) (w : World) (hr : Kd.C (Kd.int .i64) w A xs.length xs) (hc : xs.length ≤ c) (hl : xs.length ≤ 1048576)
    (hf : ∀ (x : Int) (W : World), x ∈ xs → Below w.heap.size w W → Calls Try.prog 40 #[.int .i64 x, .pointer P1] W fun e w' => e = .returned (.bool (p x)) ∧ Below W.heap.size W w') :
    Calls Try.prog 39 #[.slice A xs.length c, .func (Fn.func 40) #[] #[.pointer P1]] w
      fun e w' => e = .returned (.bool (xs.any p)) ∧ Below w.heap.size w w' := by
  have HR := Aside0.mk hr
  have HF := Aside0.mk hf
  clear hr hf
  go_enter Try.func39, Try.ntmps39
  go_wp2_with fail
  refine («FreeCode$1$1».index_calls P1 p A c xs _ HR.out hc hl HF.out).mono ?_
  rintro e w2 ⟨i, rfl, hi, hb⟩
  have HB := Aside0.mk hb
  clear hb
  rcases hi with ⟨rfl, hall⟩ | ⟨m, hm, rfl, hpre, hpm⟩
  · have HA : Aside0 (xs.any p = false) := ⟨by
      rw [List.any_eq_false]
      intro x hx
      obtain ⟨n, hn, rfl⟩ := List.getElem_of_mem hx
      have := hall n hn
      rw [show rd xs (n : Int) = xs[n] from by simp [rd, List.getD_eq_getElem?_getD, hn]] at this
      simp [this]⟩
    clear hall
    go_wp2
    go_ret
    rw [HA.out]
    exact ⟨rfl, HB.out⟩
  · have HA : Aside0 (xs.any p = true) := ⟨List.any_eq_true.2 ⟨_, rd_mem hm, hpm⟩⟩
    have hm0 : 0 ≤ (m : Int) := by omega
    clear hpre hpm
    go_wp2
    go_ret
    rw [HA.out]
    exact ⟨rfl, HB.out⟩

/-- Are all digits at these places nought? -/
def freeB (ws d : List Int) : Bool := !(ws.any fun x => decide (rd d x ≠ 0))
set_option maxHeartbeats 1000000 in
set_option maxRecDepth 100000 in
theorem free1_calls (gp : Nat) (A1 : Option Addr) (c1 : Nat) (ws : List Int) (e0 e1 e2 e3 e4 e5 e6 e7 : Int) (w : World) (hr1 : Kd.C (Kd.int .i64) w A1 ws.length ws) (hc1 : ws.length ≤ c1) (hl : ws.length ≤ 1048576) (hw : ∀ x ∈ ws, 0 ≤ x ∧ x < 8) (hp : w.cell? ⟨gp, 0, none⟩ = some (.slice A1 ws.length c1)) :
    Calls Try.prog 38 #[.agg #[.int .u8 e0, .int .u8 e1, .int .u8 e2, .int .u8 e3, .int .u8 e4, .int .u8 e5, .int .u8 e6, .int .u8 e7], .pointer (some ⟨gp, 0, none⟩)] w
      fun e w' => e = .returned (.bool (freeB ws [e0, e1, e2, e3, e4, e5, e6, e7])) ∧ Below w.heap.size w w' := by
  have huD := Try.underlying52
  have HC := Aside0.mk hr1
  have HW := Aside0.mk hw
  have H3 := Aside0.mk (blk_new w (.cells #[.int .u8 e0, .int .u8 e1, .int .u8 e2, .int .u8 e3, .int .u8 e4, .int .u8 e5, .int .u8 e6, .int .u8 e7] 52))
  have hB : Below w.heap.size w (w.alloc (.cells #[.int .u8 e0, .int .u8 e1, .int .u8 e2, .int .u8 e3, .int .u8 e4, .int .u8 e5, .int .u8 e6, .int .u8 e7] 52)) := (Below.refl _ _).alloc (Nat.le_refl _) _
  have hp2 : (w.alloc (.cells #[.int .u8 e0, .int .u8 e1, .int .u8 e2, .int .u8 e3, .int .u8 e4, .int .u8 e5, .int .u8 e6, .int .u8 e7] 52)).cell? ⟨gp, 0, none⟩ = some (.slice A1 ws.length c1) := pw_cell_below hB hp
  clear hr1 hw
  go_enter Try.func38, Try.ntmps38
  go_wp2_with fail
  refine (contains11_calls (some ⟨w.heap.size, 0, none⟩) (fun x => decide (rd [e0, e1, e2, e3, e4, e5, e6, e7] x ≠ 0)) A1 c1 ws _ (Kd.C_below HC.out hB) hc1 hl (fun x W hx hb => free11_calls w.heap.size e0 e1 e2 e3 e4 e5 e6 e7 x W (HW.out x hx).1 (HW.out x hx).2 (blk_below H3.out hb))).mono ?_
  rintro e w2 ⟨rfl, hb⟩
  have HB := Aside0.mk (below_then hB hB.size hb)
  clear hb
  cases hq : ws.any (fun x => decide (rd [e0, e1, e2, e3, e4, e5, e6, e7] x ≠ 0)) with
  | false =>
    go_wp2
    go_ret
    exact ⟨by rw [freeB, hq]; rfl, HB.out⟩
  | true =>
    go_wp2
    go_ret
    exact ⟨by rw [freeB, hq]; rfl, HB.out⟩

set_option maxHeartbeats 4000000 in
set_option maxRecDepth 100000 in
theorem «FreeCode$1».those_calls (P1 : Option Addr) (p : List Int → Bool) (A : Option Addr) (c : Nat) (s : List Int) (w : World) (hr : Kd.C (Kd.int .i64) w A s.length s) (hc : s.length ≤ c) (hs : isSp s = true) (kc : Nat) (hcount : impl_count.f kc s = some (prd s))
    (hf : ∀ (y0 y1 y2 y3 y4 y5 y6 y7 : Int) (W : World), Below w.heap.size w W → Calls Try.prog 38 #[.agg #[.int .u8 y0, .int .u8 y1, .int .u8 y2, .int .u8 y3, .int .u8 y4, .int .u8 y5, .int .u8 y6, .int .u8 y7], .pointer P1] W fun e w' => e = .returned (.bool (p [y0, y1, y2, y3, y4, y5, y6, y7])) ∧ Below W.heap.size W w') :
    Calls Try.prog 37 #[.agg #[.slice A s.length c], .func (Fn.func 38) #[] #[.pointer P1]] w
      fun e w' => ∃ v, e = .returned v ∧ w'.ownsRow w.heap.size 2 1 v (thoseL s p (prd s).toNat).length (nums .i64 (thoseL s p (prd s).toNat)) ∧ Below w.heap.size w w' := by
  have huS := Try.underlying28
  have huD := Try.underlying52
  have HR := Aside0.mk hr
  have HS := Aside0.mk hs
  have p0 := isSp_prd1 hs
  have p1 := isSp_prd hs
  have HK := Aside0.mk hcount
  have HF := Aside0.mk hf
  clear hr hs hcount hf
  obtain ⟨i0, hi, hz0, hz1, hz2⟩ := info_parts infoI
  have HI := Aside0.mk (And.intro hi (And.intro hz0 (And.intro hz1 hz2)))
  clear hi hz0 hz1 hz2
  obtain ⟨P, hP⟩ : ∃ P : Nat, prd s = (P : Int) := ⟨(prd s).toNat, by omega⟩
  have hP2 : (prd s).toNat = P := by omega
  have pP : P ≤ 1024 := by omega
  have pP0 : 1 ≤ P := by omega
  rw [hP2]
  have HP := Aside0.mk hP
  clear hP hP2 p0 p1
  go_enter Try.func37, Try.ntmps37
  go_wp2_with fail
  have hcell : ((w.alloc (.cells #[.slice A s.length c] 28)).alloc (.cells #[] 2)).heap[w.heap.size]? = some (.cells #[.slice A s.length c] 28 (0, 0)) := blk_alloc (blk_new _ _) _
  have hB : Below w.heap.size w ((w.alloc (.cells #[.slice A s.length c] 28)).alloc (.cells #[] 2)) := ((Below.refl _ _).alloc (Nat.le_refl _) _).alloc (by simp) _
  have hO : ((w.alloc (.cells #[.slice A s.length c] 28)).alloc (.cells #[] 2)).ownsRow w.heap.size 2 1 (.slice (some ⟨w.heap.size + 1, 0, none⟩) 0 0) 0 [] :=
    ⟨rfl, .inr ⟨w.heap.size + 1, 0, #[], rfl, by omega, by simpa using blk_new (w.alloc (.cells #[.slice A s.length c] 28)) (.cells #[] 2), by omega, by unfold maxLen; omega, rfl, rfl⟩⟩
  refine (allDigits_calls A c s _ (Kd.C_below HR.out hB) hc HS.out kc HK.out).mono ?_
  rintro e w1 ⟨v1, rfl, hD, hb⟩
  rw [show (prd s).toNat = P from by have := HP.out; omega] at hD
  have B1 := Aside0.mk (below_then hB hB.size hb)
  have O1 := Aside0.mk (pw_own_below hO hb)
  obtain ⟨g, cap, rfl, hcap⟩ : ∃ g cap, v1 = .slice (some ⟨g, 0, none⟩) P cap ∧ P ≤ cap := by
    rcases hD.2 with ⟨_, h⟩ | ⟨g, cap, _, h, _, _, h2, _⟩
    · omega
    · exact ⟨g, cap, h, h2⟩
  have D1 := Aside0.mk hD
  clear hcell hB hO hb hD
  go_wp2_with fail
  go_loopw [5, 12] (fun v i W => ∃ (n : Nat), n ≤ P ∧ i = .int .i64 n ∧ Aside0 (W.ownsRow w.heap.size 2 1 v (thoseL s p n).length (nums .i64 (thoseL s p n))) ∧ Aside0 (W.ownsRow w.heap.size 52 8 (.slice (some ⟨g, 0, none⟩) P cap) P (flat8 (all8 s P))) ∧ Aside0 (Below w.heap.size w W)) (fun _ i _ => P - (intOf i).toNat)
  case atStart => exact ⟨0, by omega, rfl, ⟨O1.out⟩, ⟨own_weaken D1.out (by simp; omega)⟩, B1⟩
  case round =>
    obtain ⟨n, hn, rfl, HO, HD, HB⟩ := hrel
    clear B1 O1 D1
    by_cases hlt : n < P
    · obtain ⟨y0, y1, y2, y3, y4, y5, y6, y7, hy⟩ := eight (dig8_length s (n : Int))
      obtain ⟨k0, k1, k2, k3, k4, k5, k6, k7⟩ := row8 HD.out hlt hy
      have HY := Aside0.mk hy
      clear hy
      go_wp2_with fail
      refine (HF.out y0 y1 y2 y3 y4 y5 y6 y7 _ (below_alloc HB.out _)).mono ?_
      rintro e w2 ⟨rfl, hb2⟩
      have O2 := Aside0.mk (pw_own_below (own_alloc HO.out _) hb2)
      have D2 := Aside0.mk (pw_own_below (own_alloc HD.out _) hb2)
      have B2 := Aside0.mk (below_then (below_alloc HB.out _) (below_alloc HB.out _).size hb2)
      clear hb2 k0 k1 k2 k3 k4 k5 k6 k7
      have hs1 := thoseL_succ s p n
      rw [HY.out] at hs1
      have hl := thoseL_len s p n
      cases hp : p [y0, y1, y2, y3, y4, y5, y6, y7] with
      | false =>
        rw [hp] at hs1
        have HL : Aside0 (thoseL s p (n + 1) = thoseL s p n) := ⟨by simpa using hs1⟩
        clear hs1 hp
        go_wp2
        go_roundw
        case rel => exact ⟨n + 1, by omega, by go_num, ⟨by rw [HL.out]; exact O2.out⟩, D2, B2⟩
        case measure => simp [intOf]; omega
      | true =>
        rw [hp] at hs1
        have HL : Aside0 (thoseL s p (n + 1) = thoseL s p n ++ [(n : Int)]) := ⟨by simpa using hs1⟩
        clear hs1 hp
        go_wp2_with (at_builtin; obtain ⟨hi, hz0, hz1, hz2⟩ := HI.out; refine wpList_append_own _ rfl _ _ 22 rfl w.heap.size 2 i0 (.int .i64 0) 1 8 Try.underlying22 hi hz0 hz1 hz2 rfl (by decide) _ (thoseL s p n).length (nums .i64 (thoseL s p n)) rfl (O2.out.alloc _) ⟨w2.heap.size, 0, none⟩ 1 1 [.int .i64 (n : Int)] rfl ?c0 ?c1 ?c2 ?c3 ?c4 ?c5 ?_; clear hi hz0 hz1 hz2)
        case c0 => rfl
        case c1 =>
          intro j u hj
          have hb := blk_cell (blk_new w2 (.cells #[.int .i64 (n : Int)] 2)) j
          rw [add_plain, hb]
          simpa using hj
        case c2 => intro u hu; simp only [List.mem_cons, List.not_mem_nil, or_false] at hu; rcases hu with rfl; rfl
        case c3 => unfold maxLen; omega
        case c4 => omega
        case c5 => have := B2.out.size; simp; omega
        intro v' w3 O3 G3 _
        have O4 : Aside0 (w3.ownsRow w.heap.size 2 1 v' (thoseL s p (n + 1)).length (nums .i64 (thoseL s p (n + 1)))) := ⟨by rw [HL.out, nums_append, List.length_append]; exact O3⟩
        have D3 := Aside0.mk (own_other (own_alloc D2.out _) G3 (own_type_ne D2.out O2.out (by decide)))
        have B3 := Aside0.mk (pw_below_grown (below_alloc B2.out _) _ (by have := B2.out.size; simp; omega) G3 (fun k hk => own_base O2.out k hk))
        clear O3 G3 O2 D2 B2
        go_wp2
        go_roundw
        case rel => exact ⟨n + 1, by omega, by go_num, O4, D3, B3⟩
        case measure => simp [intOf]; omega
    · go_wp2
      go_ret
      have hn : n = P := by omega
      subst hn
      exact ⟨_, rfl, HO.out, HB.out⟩

theorem isPlace_eq (s : List Int) (x : Int) : impl_isPlace.f s x = some (decide (0 ≤ x ∧ x < s.length)) := by
  unfold impl_isPlace.f impl_places.f
  by_cases h : x ≥ 0
  · rw [if_pos h]
    simp only [Option.bind_some, Option.some.injEq, decide_eq_decide]
    omega
  · rw [if_neg h]
    have : ¬ (0 ≤ x ∧ x < s.length) := by omega
    simp [this]
/-- What is wrong with places: 0 nothing, 2 something. -/
def plQ (s ws : List Int) : Nat → Nat → Bool
  | _, 0 => true
  | n, k + 1 => if (0 ≤ rd ws (n : Int) ∧ rd ws (n : Int) < s.length) ∧ (n = 0 ∨ rd ws ((n : Int) - 1) < rd ws (n : Int)) then plQ s ws (n + 1) k else false
theorem plQ_all (s ws : List Int) : ∀ (k n : Nat), plQ s ws n k = true → ∀ j : Nat, n ≤ j → j < n + k → 0 ≤ rd ws (j : Int) ∧ rd ws (j : Int) < s.length
  | 0, n, _, j, h1, h2 => by omega
  | k + 1, n, h, j, h1, h2 => by
    rw [plQ] at h
    split at h
    · rename_i hc
      by_cases hj : j = n
      · subst hj
        exact hc.1
      · exact plQ_all s ws k (n + 1) h j (by omega) (by omega)
    · cases h
def freeR (s ws : List Int) : List Int × Int := if isSp s = true then if plQ s ws 0 ws.length = true then (thoseL s (freeB ws) (prd s).toNat, 0) else ([], 2) else ([], 1)

set_option maxHeartbeats 3000000 in
set_option maxRecDepth 100000 in
theorem free_calls (A : Option Addr) (c : Nat) (s : List Int) (A1 : Option Addr) (c1 : Nat) (ws : List Int) (w : World) (hr : Kd.C (Kd.int .i64) w A s.length s) (hc : s.length ≤ c) (hr1 : Kd.C (Kd.int .i64) w A1 ws.length ws) (hc1 : ws.length ≤ c1) (hl : ws.length ≤ 1048576) :
    Calls Try.prog 13 #[.agg #[.slice A s.length c], .slice A1 ws.length c1] w
      fun e w' => ∃ v, e = .returned (.tuple #[v, .int .i64 (freeR s ws).2]) ∧ Kd.R (Kd.int .i64) 2 w' w.heap.size (fun _ => True) v (freeR s ws).1 ∧ Below w.heap.size w w' := by
  have huS := Try.underlying28
  have HR := Aside0.mk hr
  have HR1 := Aside0.mk hr1
  obtain ⟨kb, hbc⟩ := (Q.isSpace_ev s).rounds
  have HBC := Aside0.mk hbc
  clear hr hr1 hbc
  go_enter Try.func13, Try.ntmps13
  go_wp2_with fail
  have hcell : ((w.alloc (.cells #[.slice A s.length c] 28)).alloc (.cells #[.slice A1 ws.length c1] 22)).heap[w.heap.size]? = some (.cells #[.slice A s.length c] 28 (0, 0)) := blk_alloc (blk_new _ _) _
  have hcell2 : ((w.alloc (.cells #[.slice A s.length c] 28)).alloc (.cells #[.slice A1 ws.length c1] 22)).heap[w.heap.size + 1]? = some (.cells #[.slice A1 ws.length c1] 22 (0, 0)) := by simpa using blk_new (w.alloc (.cells #[.slice A s.length c] 28)) (.cells #[.slice A1 ws.length c1] 22)
  have hB : Below w.heap.size w ((w.alloc (.cells #[.slice A s.length c] 28)).alloc (.cells #[.slice A1 ws.length c1] 22)) := ((Below.refl _ _).alloc (Nat.le_refl _) _).alloc (by simp) _
  refine (impl_IsSpace.calls kb A c s (isSp s) _ (Kd.C_below HR.out hB) hc HBC.out).mono ?_
  rintro e w0 ⟨rfl, hb⟩
  have K1 := Aside0.mk (blk_below hcell hb)
  have K2 := Aside0.mk (blk_below hcell2 hb)
  have B1 := Aside0.mk (below_then hB hB.size hb)
  clear hcell hcell2 hB hb HBC
  cases hs : isSp s with
  | false =>
    have HZ : Aside0 (freeR s ws = ([], 1)) := ⟨by unfold freeR; rw [if_neg (by simp [hs])]⟩
    clear hs
    go_wp2
    go_ret2
    rw [HZ.out]
    exact ⟨_, rfl, Kd.R_nil _ _ _ _ _, B1.out⟩
  | true =>
    have HZ : Aside0 (freeR s ws = if plQ s ws 0 ws.length = true then (thoseL s (freeB ws) (prd s).toNat, 0) else ([], 2)) := ⟨by unfold freeR; rw [if_pos hs]⟩
    have HS := Aside0.mk hs
    have hsl := isSp_len hs
    clear hs
    have hcz : w0.cell? ⟨w.heap.size, 0, none⟩ = some (.slice A s.length c) := blk_cell K1.out 0
    have hcz2 : w0.cell? ⟨w.heap.size + 1, 0, none⟩ = some (.slice A1 ws.length c1) := blk_cell K2.out 0
    go_wp2_with fail
    go_loopw [13] (fun i W => ∃ (n : Nat), n ≤ ws.length ∧ i = .int .i64 n ∧ Aside0 (plQ s ws 0 ws.length = plQ s ws n (ws.length - n)) ∧ Aside0 (W.heap[w.heap.size]? = some (.cells #[.slice A s.length c] 28 (0, 0))) ∧ Aside0 (W.heap[w.heap.size + 1]? = some (.cells #[.slice A1 ws.length c1] 22 (0, 0))) ∧ Aside0 (Below w.heap.size w W)) (fun i _ => ws.length - (intOf i).toNat)
    case atStart => exact ⟨0, by omega, rfl, ⟨rfl⟩, K1, K2, B1⟩
    case round =>
      clear hcz hcz2 K1 K2 B1
      obtain ⟨n, hn, rfl, HQ, K1, K2, HB⟩ := hrel
      have hcz : wr.cell? ⟨w.heap.size, 0, none⟩ = some (.slice A s.length c) := blk_cell K1.out 0
      have hcz2 : wr.cell? ⟨w.heap.size + 1, 0, none⟩ = some (.slice A1 ws.length c1) := blk_cell K2.out 0
      by_cases hlt : n < ws.length
      · obtain ⟨ad1, e1, _⟩ := Kd.at_int HR1.out (n : Int) (by omega) (by omega)
        subst e1
        have hx := rd_cell HR1.out HB.out n hlt
        have HN : Aside0 (plQ s ws n (ws.length - n) = if (0 ≤ rd ws (n : Int) ∧ rd ws (n : Int) < s.length) ∧ (n = 0 ∨ rd ws ((n : Int) - 1) < rd ws (n : Int)) then plQ s ws (n + 1) (ws.length - (n + 1)) else false) := ⟨by rw [show ws.length - n = (ws.length - (n + 1)) + 1 by omega, plQ]⟩
        have hnl : (n : Int) < 1048576 := by omega
        by_cases hp : 0 ≤ rd ws (n : Int) ∧ rd ws (n : Int) < s.length
        · have hip : impl_isPlace.f s (rd ws (n : Int)) = some true := by rw [isPlace_eq]; simp [hp]
          go_wp2_with fail
          refine (impl_isPlace.calls A c s (rd ws (n : Int)) true _ (Kd.C_below HR.out HB.out) hc hip).mono ?_
          rintro e w2 ⟨rfl, hb⟩
          have L1 := Aside0.mk (blk_below K1.out hb)
          have L2 := Aside0.mk (blk_below K2.out hb)
          have B2 := Aside0.mk (below_then HB.out HB.out.size hb)
          have hcz2' : w2.cell? ⟨w.heap.size + 1, 0, none⟩ = some (.slice (some ad1) ws.length c1) := blk_cell L2.out 0
          clear hb hx hcz hcz2 K1 K2 HB hip
          by_cases hn0 : n = 0
          · subst hn0
            have HQ2 : Aside0 (plQ s ws 0 ws.length = plQ s ws (0 + 1) (ws.length - (0 + 1))) := ⟨by rw [HQ.out, HN.out, if_pos ⟨hp, .inl rfl⟩]⟩
            clear HN HQ
            go_wp2
            go_roundw
            case rel => exact ⟨1, by omega, by go_num, HQ2, L1, L2, B2⟩
            case measure => simp [intOf]; omega
          · obtain ⟨m, rfl⟩ : ∃ m, n = m + 1 := ⟨n - 1, by omega⟩
            have hx1 := rd_cell HR1.out B2.out m (by omega)
            have hnp : (0 : Int) < ((m + 1 : Nat) : Int) := by omega
            have hm1 : (((m + 1 : Nat) : Int) - 1) = (m : Int) := by omega
            have hx2 := rd_cell HR1.out B2.out (m + 1) hlt
            by_cases hcmp : rd ws (m : Int) < rd ws ((m + 1 : Nat) : Int)
            · have HQ2 : Aside0 (plQ s ws 0 ws.length = plQ s ws (m + 1 + 1) (ws.length - (m + 1 + 1))) := ⟨by rw [HQ.out, HN.out, if_pos ⟨hp, .inr (by rw [hm1]; exact hcmp)⟩]⟩
              clear HN HQ hp
              have hq1 : ¬ rd ws ((m + 1 : Nat) : Int) ≤ rd ws (m : Int) := by omega
              generalize rd ws ((m + 1 : Nat) : Int) = x at *
              generalize rd ws (m : Int) = y at *
              have hq2 : decide (x ≤ y) = false := decide_eq_false hq1
              go_wp2
              go_roundw
              case rel => exact ⟨m + 1 + 1, by omega, by go_num, HQ2, L1, L2, B2⟩
              case measure => simp [intOf]; omega
            · have HQ2 : Aside0 (plQ s ws 0 ws.length = false) := ⟨by rw [HQ.out, HN.out, if_neg (fun z => by rw [hm1] at z; omega)]⟩
              clear HN HQ hp
              have hq1 : rd ws ((m + 1 : Nat) : Int) ≤ rd ws (m : Int) := by omega
              generalize rd ws ((m + 1 : Nat) : Int) = x at *
              generalize rd ws (m : Int) = y at *
              have hq2 : decide (x ≤ y) = true := decide_eq_true hq1
              go_wp2
              go_ret2
              rw [HZ.out, HQ2.out]
              exact ⟨_, rfl, Kd.R_nil _ _ _ _ _, B2.out⟩
        · have hip : impl_isPlace.f s (rd ws (n : Int)) = some false := by rw [isPlace_eq]; simp [hp]
          go_wp2_with fail
          refine (impl_isPlace.calls A c s (rd ws (n : Int)) false _ (Kd.C_below HR.out HB.out) hc hip).mono ?_
          rintro e w2 ⟨rfl, hb⟩
          have B2 := Aside0.mk (below_then HB.out HB.out.size hb)
          have HQ2 : Aside0 (plQ s ws 0 ws.length = false) := ⟨by rw [HQ.out, HN.out, if_neg (fun z => hp z.1)]⟩
          clear hb hx hcz hcz2 K1 K2 HB hip HN HQ hp
          generalize rd ws (n : Int) = x at *
          go_wp2
          go_ret2
          rw [HZ.out, HQ2.out]
          exact ⟨_, rfl, Kd.R_nil _ _ _ _ _, B2.out⟩
      · have hn2 : n = ws.length := by omega
        subst hn2
        have HQ2 : Aside0 (plQ s ws 0 ws.length = true) := ⟨by rw [HQ.out, Nat.sub_self]; rfl⟩
        have hall : ∀ x ∈ ws, 0 ≤ x ∧ x < 8 := fun x hx => by
          obtain ⟨j, hj, rfl⟩ := List.getElem_of_mem hx
          have := plQ_all s ws ws.length 0 HQ2.out j (by omega) (by omega)
          rw [show rd ws (j : Int) = ws[j] from by simp [rd, List.getD_eq_getElem?_getD, hj]] at this
          omega
        have HA := Aside0.mk hall
        obtain ⟨kc, hcount⟩ := (Q.count_sp HS.out).rounds
        have HK := Aside0.mk hcount
        clear hall HQ hcount
        go_wp2_with fail
        refine («FreeCode$1».those_calls (some ⟨w.heap.size + 1, 0, none⟩) (freeB ws) A c s _ (Kd.C_below HR.out HB.out) hc HS.out kc HK.out ?hf).mono ?_
        case hf =>
          intro e0 e1 e2 e3 e4 e5 e6 e7 W hW
          exact free1_calls (w.heap.size + 1) A1 c1 ws e0 e1 e2 e3 e4 e5 e6 e7 W (Kd.C_below HR1.out (below_then HB.out HB.out.size hW)) hc1 hl HA.out (blk_cell (blk_below K2.out hW) 0)
        rintro e w2 ⟨v, rfl, hO, hb⟩
        have O2 := Aside0.mk (own_weaken hO HB.out.size)
        have B3 := Aside0.mk (below_then HB.out HB.out.size hb)
        clear hO hb hcz hcz2
        go_wp2
        go_ret2
        rw [HZ.out, HQ2.out]
        exact ⟨_, rfl, Kd.R_of_own O2.out (fun _ _ => trivial), B3.out⟩

/-- What the program's FreeCode returns. -/
def impl_FreeCode.f (l0_0 l1 : List Int) : Option (List Int × Int) := if l1.length ≤ 1048576 then some (freeR l0_0 l1) else none

theorem impl_FreeCode.calls (A0_0 : Option Addr) (c0_0 : Nat) (l0_0 : List Int) (A1 : Option Addr) (c1 : Nat) (l1 : List Int) (r1 : List Int) (r2 : Int) (w : World) (hr0_0 : Kd.C (Kd.int .i64) w A0_0 l0_0.length l0_0) (hc0_0 : l0_0.length ≤ c0_0) (hr1 : Kd.C (Kd.int .i64) w A1 l1.length l1) (hc1 : l1.length ≤ c1) (h : impl_FreeCode.f l0_0 l1 = some (r1, r2)) :
    Calls Try.prog 13 #[.agg #[.slice A0_0 l0_0.length c0_0], .slice A1 l1.length c1] w fun e w' => ∃ v0_ : Value, e = .returned (.tuple #[v0_, .int .i64 r2]) ∧ Kd.R (Kd.int .i64) 2 w' w.heap.size (fun _ => True) v0_ r1 ∧ Below w.heap.size w w' := by
  unfold impl_FreeCode.f at h
  split at h
  · rename_i hl
    have h2 := Option.some.inj h
    have e1 : (freeR l0_0 l1).1 = r1 := by rw [h2]
    have e2 : (freeR l0_0 l1).2 = r2 := by rw [h2]
    subst e1 e2
    exact free_calls A0_0 c0_0 l0_0 A1 c1 l1 w hr0_0 hc0_0 hr1 hc1 hl
  · cases h
end Go.Proofs.Ythcodiknghfmmaa.P
