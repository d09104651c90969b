/- What the law FnForms needs, part 14: words, walks of functions (each says that a call returns what the plain Lean function beside it says), plain lemmas. -/
import Derived.Test.YtnkndaapamenmaaGreatKFnFormsM
import Derived.Deep.Cut
set_option linter.unusedVariables false
set_option linter.unusedSimpArgs false
namespace Go.Proofs.YtnkndaapamenmaaGreat.P
open Go.RowKit Go.Proofs.YtnkndaapamenmaaGreatW.PrintWords Go.Proofs.YtnkndaapamenmaaGreatW.PrintLast Go.Proofs.YtnkndaapamenmaaGreatW.PrintMore CC
def setV (l : List Int) : Value := .agg #[.int .u64 (lo l), .int .u64 (hi l)]
theorem bits_or_u64 (a b : Nat) (ha : a < 18446744073709551616) (hb : b < 18446744073709551616) : bits .or .u64 (a : Int) (b : Int) = ((a ||| b : Nat) : Int) := by
  have hx : a ||| b < 2 ^ 64 := Nat.or_lt_two_pow (by omega) (by omega)
  have h1 : (BitVec.ofInt 64 (a : Int)).toNat = a := by
    rw [BitVec.ofInt_natCast, BitVec.toNat_ofNat]; exact Nat.mod_eq_of_lt (by omega)
  have h2 : (BitVec.ofInt 64 (b : Int)).toNat = b := by
    rw [BitVec.ofInt_natCast, BitVec.toNat_ofNat]; exact Nat.mod_eq_of_lt (by omega)
  show IntKind.u64.wrap ((BitVec.ofInt 64 (a : Int) ||| BitVec.ofInt 64 (b : Int)).toNat : Int) = _
  rw [BitVec.toNat_or, h1, h2, IntKind.wrap_u64]
  omega
theorem bits_and_u64 (a b : Nat) (ha : a < 18446744073709551616) (hb : b < 18446744073709551616) : bits .and .u64 (a : Int) (b : Int) = ((a &&& b : Nat) : Int) := by
  have hx : a &&& b < 2 ^ 64 := Nat.and_lt_two_pow _ (by omega)
  have h1 : (BitVec.ofInt 64 (a : Int)).toNat = a := by
    rw [BitVec.ofInt_natCast, BitVec.toNat_ofNat]; exact Nat.mod_eq_of_lt (by omega)
  have h2 : (BitVec.ofInt 64 (b : Int)).toNat = b := by
    rw [BitVec.ofInt_natCast, BitVec.toNat_ofNat]; exact Nat.mod_eq_of_lt (by omega)
  show IntKind.u64.wrap ((BitVec.ofInt 64 (a : Int) &&& BitVec.ofInt 64 (b : Int)).toNat : Int) = _
  rw [BitVec.toNat_and, h1, h2, IntKind.wrap_u64]
  omega
theorem or_two {a k : Nat} (ha : a < 18446744073709551616) (hk : k < 64) : bits .or .u64 (a : Int) (IntKind.u64.wrap (2 ^ k)) = ((a ||| 2 ^ k : Nat) : Int) := by
  have h2 : 2 ^ k < 18446744073709551616 := Nat.pow_lt_pow_right (by decide) hk
  have e : IntKind.u64.wrap (2 ^ k) = ((2 ^ k : Nat) : Int) := by
    have h3 : ((2 ^ k : Nat) : Int) = (2 : Int) ^ k := Int.natCast_pow 2 k
    rw [IntKind.wrap_u64, ← h3]
    have h4 : ((2 ^ k : Nat) : Int) < ((18446744073709551616 : Nat) : Int) := Int.ofNat_lt.2 h2
    exact Int.emod_eq_of_lt (Int.natCast_nonneg _) h4
  rw [e]
  exact bits_or_u64 a _ ha h2
theorem rd_getE {l : List Int} {n : Nat} (h : n < l.length) : rd l (n : Int) = l[n] := by simp [rd, List.getD_eq_getElem?_getD, h]
set_option maxHeartbeats 4000000 in
set_option maxRecDepth 100000 in
theorem setOf_calls (A : Option Addr) (c : Nat) (C : List Int) (w : World) (hr : Kd.C (Kd.int .i64) w A C.length C) (hc : C.length ≤ c) (hs : small C) (hl : C.length ≤ 1048576) :
    Calls Tryz.prog 27 #[.slice A C.length c] w
      fun e w' => e = .returned (setV C) ∧ Below w.heap.size w w' := by
  have huT := Tryz.underlying42
  have HR := Aside0.mk hr
  have HS := Aside0.mk hs
  clear hr hs
  go_enter Tryz.func27, Tryz.ntmps27
  go_wp2
  go_loopw [9] (fun i W => ∃ (n : Nat), n ≤ C.length ∧ i = .int .i64 n ∧ Aside0 (W.heap[w.heap.size]? = some (.cells #[.int .u64 0, .int .u64 0] 42 (0, 0))) ∧ Aside0 (W.heap[w.heap.size + 1]? = some (.cells #[.int .u64 (lo (C.take n)), .int .u64 (hi (C.take n))] 42 (0, 0))) ∧ Aside0 (Below w.heap.size w W)) (fun i _ => C.length - (intOf i).toNat)
  case atStart =>
    refine ⟨0, by omega, rfl, ⟨?_⟩, ⟨?_⟩, ⟨?_⟩⟩
    · exact blk_alloc (blk_new w (.cells #[.int .u64 0, .int .u64 0] 42)) _
    · simpa [lo, hi] using blk_new (w.alloc (.cells #[.int .u64 0, .int .u64 0] 42)) (.cells #[.int .u64 0, .int .u64 0] 42)
    · exact below_alloc ((Below.refl _ _).alloc (Nat.le_refl _) _) _
  case round =>
    obtain ⟨n, hn, rfl, B0, B1, HB⟩ := hrel
    by_cases hlt : n < C.length
    · obtain ⟨ad, e, _⟩ := Kd.at_int HR.out (n : Int) (by omega) (by omega)
      subst e
      have hx := rd_cell HR.out HB.out n hlt
      have HT := Aside0.mk (take_rd C hlt)
      have hxs : 0 ≤ rd C (n : Int) ∧ rd C (n : Int) < 128 := HS.out _ (by rw [rd_getE hlt]; exact List.getElem_mem _)
      have HTS : Aside0 (small (C.take n)) := ⟨fun y hy => HS.out y (List.mem_of_mem_take hy)⟩
      have hla := lo_lt HTS.out
      have hha := hi_lt HTS.out
      have HLS := Aside0.mk (lo_snoc (C.take n) (rd C (n : Int)))
      have HHS := Aside0.mk (hi_snoc (C.take n) (rd C (n : Int)))
      rw [← HT.out] at HLS HHS
      generalize rd C (n : Int) = x at *
      generalize lo (C.take n) = a at *
      generalize hi (C.take n) = b at *
      by_cases h64 : x < 64
      · have hq : Int.tdiv x 64 = 0 := by rw [Int.tdiv_eq_ediv_of_nonneg hxs.1]; omega
        have hm : Int.tmod x 64 = x := by rw [Int.tmod_eq_emod_of_nonneg hxs.1]; omega
        have hc1 : wr.cell? ⟨w.heap.size + 1, 0, none⟩ = some (.int .u64 a) := blk_cell B1.out 0
        have hf1 := blk_frozen B1.out 0
        rw [if_pos h64] at HLS HHS
        have HE := Aside0.mk (or_two hla (show x.toNat < 64 by omega))
        go_wp2
        go_region
        rw [HE.out]
        go_wp2
        go_roundw
        case rel =>
          refine ⟨n + 1, by omega, by go_num, ⟨blk_far B0.out (by simp) _⟩, ⟨?_⟩, ⟨below_drew (below_set HB.out (by omega))⟩⟩
          rw [HLS.out, HHS.out]
          exact blk_put B1.out 0 _ rfl
        case measure => simp [intOf]; omega
      · have hq : Int.tdiv x 64 = 1 := by rw [Int.tdiv_eq_ediv_of_nonneg hxs.1]; omega
        have hm : Int.tmod x 64 = x - 64 := by rw [Int.tmod_eq_emod_of_nonneg hxs.1]; omega
        have hc1 : wr.cell? ⟨w.heap.size + 1, 1, none⟩ = some (.int .u64 b) := blk_cell B1.out 1
        have hf1 := blk_frozen B1.out 1
        rw [if_neg h64] at HLS HHS
        have HE := Aside0.mk (or_two hha (show (x - 64).toNat < 64 by omega))
        go_wp2
        go_region
        rw [HE.out]
        go_wp2
        go_roundw
        case rel =>
          refine ⟨n + 1, by omega, by go_num, ⟨blk_far B0.out (by simp) _⟩, ⟨?_⟩, ⟨below_drew (below_set HB.out (by omega))⟩⟩
          rw [HLS.out, HHS.out]
          exact blk_put B1.out 1 _ rfl
        case measure => simp [intOf]; omega
    · obtain rfl : n = C.length := by omega
      have HT : Aside0 (C.take C.length = C) := ⟨List.take_length⟩
      rw [HT.out] at B1
      have k0 : wr.cell? ⟨w.heap.size + 1, 0, none⟩ = some (.int .u64 (lo C)) := blk_cell B1.out 0
      have k1 : wr.cell? ⟨w.heap.size + 1, 1, none⟩ = some (.int .u64 (hi C)) := blk_cell B1.out 1
      have q0 : wr.cell? ⟨w.heap.size, 0, none⟩ = some (.int .u64 0) := blk_cell B0.out 0
      have q1 : wr.cell? ⟨w.heap.size, 1, none⟩ = some (.int .u64 0) := blk_cell B0.out 1
      have hf := fun i => blk_frozen B0.out i
      go_wp2
      refine bodyPost_ret (v := setV C) (by simp [results, Tryz.results27, go_sem, setV, q0, q1]) rfl ⟨rfl, ?_⟩
      repeat (refine below_set ?_ (by omega))
      exact HB.out
theorem neg_u64 {d : Nat} (h0 : d ≠ 0) (h : d < 18446744073709551616) : IntKind.u64.wrap (-(d : Int)) = ((18446744073709551616 - d : Nat) : Int) := by
  rw [IntKind.wrap_u64]
  omega
theorem cb_bits {a b : Nat} (ha : a < 18446744073709551616) (hb : b < 18446744073709551616) (hd : a ^^^ b ≠ 0) :
    (bits .and .u64 (bits .and .u64 (a : Int) ((a ^^^ b : Nat) : Int)) (IntKind.u64.wrap (-((a ^^^ b : Nat) : Int))) != 0) = cbA a b := by
  have hx : a ^^^ b < 2 ^ 64 := Nat.xor_lt_two_pow (by omega) (by omega)
  have hx : a ^^^ b < 18446744073709551616 := hx
  have hy : a &&& (a ^^^ b) < 2 ^ 64 := Nat.and_lt_two_pow _ (by omega)
  have hy : a &&& (a ^^^ b) < 18446744073709551616 := hy
  rw [bits_and_u64 a _ ha hx, neg_u64 hd hx, bits_and_u64 _ _ hy (by omega)]
  unfold cbA
  generalize (a &&& (a ^^^ b)) &&& (18446744073709551616 - (a ^^^ b)) = z
  by_cases hz : z = 0
  · subst hz
    rfl
  · rw [decide_eq_true hz, bne_iff_ne]
    omega
set_option maxHeartbeats 4000000 in
set_option maxRecDepth 100000 in
theorem comesBefore_calls (a0 a1 b0 b1 : Nat) (ha0 : a0 < 18446744073709551616) (ha1 : a1 < 18446744073709551616) (hb0 : b0 < 18446744073709551616) (hb1 : b1 < 18446744073709551616) (w : World) :
    Calls Tryz.prog 60 #[.agg #[.int .u64 a0, .int .u64 a1], .agg #[.int .u64 b0, .int .u64 b1]] w
      fun e w' => e = .returned (.bool (cbf a0 a1 b0 b1)) ∧ Below w.heap.size w w' := by
  have huT := Tryz.underlying42
  have HX0 := Aside0.mk (bits_xor_u64_nat a0 b0 ha0 hb0)
  have HX1 := Aside0.mk (bits_xor_u64_nat a1 b1 ha1 hb1)
  go_enter Tryz.func60, Tryz.ntmps60
  go_wp2
  have B0 := blk_alloc (blk_new w (.cells #[.int .u64 a0, .int .u64 a1] 42)) (.cells #[.int .u64 b0, .int .u64 b1] 42)
  have B1 : ((w.alloc (.cells #[.int .u64 a0, .int .u64 a1] 42)).alloc (.cells #[.int .u64 b0, .int .u64 b1] 42)).heap[w.heap.size + 1]? = some (.cells #[.int .u64 b0, .int .u64 b1] 42 (0, 0)) := by simpa using blk_new (w.alloc (.cells #[.int .u64 a0, .int .u64 a1] 42)) (.cells #[.int .u64 b0, .int .u64 b1] 42)
  have hB : Below w.heap.size w ((w.alloc (.cells #[.int .u64 a0, .int .u64 a1] 42)).alloc (.cells #[.int .u64 b0, .int .u64 b1] 42)) := below_alloc ((Below.refl _ _).alloc (Nat.le_refl _) _) _
  generalize (w.alloc (.cells #[.int .u64 a0, .int .u64 a1] 42)).alloc (.cells #[.int .u64 b0, .int .u64 b1] 42) = W at *
  go_loopw [7] (fun i W' => ∃ (n : Nat), n ≤ 2 ∧ i = .int .i64 n ∧ Aside0 (1 ≤ n → a0 ^^^ b0 = 0) ∧ Aside0 (2 ≤ n → a1 ^^^ b1 = 0) ∧ Aside0 (W'.heap[w.heap.size]? = some (.cells #[.int .u64 a0, .int .u64 a1] 42 (0, 0))) ∧ Aside0 (W'.heap[w.heap.size + 1]? = some (.cells #[.int .u64 b0, .int .u64 b1] 42 (0, 0))) ∧ Aside0 (Below w.heap.size w W')) (fun i _ => 2 - (intOf i).toNat)
  case atStart => exact ⟨0, by omega, rfl, ⟨by omega⟩, ⟨by omega⟩, ⟨B0⟩, ⟨B1⟩, ⟨hB⟩⟩
  case round =>
    clear B0 B1 hB
    obtain ⟨n, hn, rfl, Z0, Z1, B0, B1, HB⟩ := hrel
    rcases (show n = 0 ∨ n = 1 ∨ n = 2 by omega) with rfl | rfl | rfl
    · have k0 : wr.cell? ⟨w.heap.size, 0, none⟩ = some (.int .u64 a0) := blk_cell B0.out 0
      have k1 : wr.cell? ⟨w.heap.size + 1, 0, none⟩ = some (.int .u64 b0) := blk_cell B1.out 0
      go_wp2
      go_region
      rw [HX0.out]
      have hd0 : ((a0 ^^^ b0 : Nat) : Int) = 0 ∨ a0 ^^^ b0 ≠ 0 := by omega
      by_cases hz : a0 ^^^ b0 = 0
      · have HZ := Aside0.mk hz
        rw [hz]
        clear hz
        go_wp2
        go_roundw
        case rel => exact ⟨1, by omega, by rfl, ⟨fun _ => HZ.out⟩, ⟨by omega⟩, ⟨blk_drew B0.out⟩, ⟨blk_drew B1.out⟩, ⟨below_drew HB.out⟩⟩
        case measure => simp [intOf]
      · have HC := Aside0.mk (cb_bits ha0 hb0 hz)
        have HG : Aside0 (cbf a0 a1 b0 b1 = cbA a0 b0) := ⟨by unfold cbf; rw [if_pos hz]⟩
        have hzi : ((a0 ^^^ b0 : Nat) : Int) ≠ 0 := by omega
        have hzb : (((a0 ^^^ b0 : Nat) : Int) != 0) = true := by rw [bne_iff_ne]; exact hzi
        generalize ((a0 ^^^ b0 : Nat) : Int) = d at *
        have k0 : wr.drew.cell? ⟨w.heap.size, 0, none⟩ = some (.int .u64 a0) := blk_cell (blk_drew B0.out) 0
        go_wp2
        rw [HC.out]
        go_ret
        exact ⟨by rw [HG.out]; rfl, below_drew HB.out⟩
    · have k0 : wr.cell? ⟨w.heap.size, 1, none⟩ = some (.int .u64 a1) := blk_cell B0.out 1
      have k1 : wr.cell? ⟨w.heap.size + 1, 1, none⟩ = some (.int .u64 b1) := blk_cell B1.out 1
      go_wp2
      go_region
      rw [HX1.out]
      have hd0 : ((a1 ^^^ b1 : Nat) : Int) = 0 ∨ a1 ^^^ b1 ≠ 0 := by omega
      by_cases hz : a1 ^^^ b1 = 0
      · have HZ := Aside0.mk hz
        have Z0' : Aside0 (1 ≤ 2 → a0 ^^^ b0 = 0) := ⟨fun _ => Z0.out (by omega)⟩
        rw [hz]
        clear hz
        go_wp2
        go_roundw
        case rel => exact ⟨2, by omega, by rfl, Z0', ⟨fun _ => HZ.out⟩, ⟨blk_drew B0.out⟩, ⟨blk_drew B1.out⟩, ⟨below_drew HB.out⟩⟩
        case measure => simp [intOf]
      · have HC := Aside0.mk (cb_bits ha1 hb1 hz)
        have HG : Aside0 (cbf a0 a1 b0 b1 = cbA a1 b1) := ⟨by unfold cbf; rw [if_neg (by rw [Z0.out (by omega)]; simp), if_pos hz]⟩
        have hzi : ((a1 ^^^ b1 : Nat) : Int) ≠ 0 := by omega
        have hzb : (((a1 ^^^ b1 : Nat) : Int) != 0) = true := by rw [bne_iff_ne]; exact hzi
        generalize ((a1 ^^^ b1 : Nat) : Int) = d at *
        have k0 : wr.drew.cell? ⟨w.heap.size, 1, none⟩ = some (.int .u64 a1) := blk_cell (blk_drew B0.out) 1
        go_wp2
        rw [HC.out]
        go_ret
        exact ⟨by rw [HG.out]; rfl, below_drew HB.out⟩
    · go_wp2
      go_ret
      refine ⟨?_, HB.out⟩
      have h : cbf a0 a1 b0 b1 = false := by unfold cbf; rw [if_neg (by rw [Z0.out (by omega)]; simp), if_neg (by rw [Z1.out (by omega)]; simp)]
      rw [h]
      rfl
def bitQ (a b : Nat) (x : Int) : Bool := if x < 64 then a.testBit x.toNat else b.testBit (x - 64).toNat
theorem shr_and {a k : Nat} (ha : a < 18446744073709551616) (hk : k < 64) : (bits .and .u64 ((a : Int) / 2 ^ k) 1 == 1) = a.testBit k := by
  have h3 : ((2 ^ k : Nat) : Int) = (2 : Int) ^ k := Int.natCast_pow 2 k
  have e : (a : Int) / (2 ^ k) = ((a / 2 ^ k : Nat) : Int) := by
    rw [← h3]
    rfl
  have hd : a / 2 ^ k < 18446744073709551616 := Nat.lt_of_le_of_lt (Nat.div_le_self _ _) ha
  have e2 := bits_and_u64 (a / 2 ^ k) 1 hd (by decide)
  rw [e, show (1 : Int) = ((1 : Nat) : Int) from rfl, e2, Nat.testBit_eq_decide_div_mod_eq, Nat.and_one_is_mod]
  by_cases h : a / 2 ^ k % 2 = 1
  · rw [h, decide_eq_true rfl]
    rfl
  · rw [decide_eq_false h]
    have : a / 2 ^ k % 2 = 0 := by omega
    rw [this]
    rfl
theorem bitQ_lo (a b : Nat) {n : Nat} (h : n < 64) : bitQ a b (n : Int) = a.testBit n := by unfold bitQ; rw [if_pos (by omega), Int.toNat_natCast]
theorem bitQ_hi (a b : Nat) {n : Nat} (h : ¬ n < 64) : bitQ a b (n : Int) = b.testBit (n - 64) := by unfold bitQ; rw [if_neg (by omega), show ((n : Int) - 64).toNat = n - 64 by omega]
set_option maxHeartbeats 4000000 in
set_option maxRecDepth 100000 in
theorem list_calls (a0 a1 : Nat) (ha0 : a0 < 18446744073709551616) (ha1 : a1 < 18446744073709551616) (w : World) :
    Calls Tryz.prog 26 #[.agg #[.int .u64 a0, .int .u64 a1]] w
      fun e w' => ∃ v, e = .returned v ∧ Kd.R (Kd.int .i64) 2 w' w.heap.size (fun _ => True) v (Q.selL (bitQ a0 a1) 128) ∧ Below w.heap.size w w' := by
  have huT := Tryz.underlying42
  obtain ⟨i0, hi, hz0, hz1, hz2⟩ := info_parts infoI
  have HI := Aside0.mk (And.intro hi (And.intro hz0 (And.intro hz1 hz2)))
  clear hi hz0 hz1 hz2
  go_enter Tryz.func26, Tryz.ntmps26
  go_wp2
  have B0 := Aside0.mk (blk_alloc (blk_new w (.cells #[.int .u64 a0, .int .u64 a1] 42)) (.cells #[] 2))
  have hO : ((w.alloc (.cells #[.int .u64 a0, .int .u64 a1] 42)).alloc (.cells #[] 2)).ownsRow (w.heap.size + 1) 2 1 (.slice (some ⟨w.heap.size + 1, 0, none⟩) 0 0) (Q.selL (bitQ a0 a1) 0).length (nums .i64 (Q.selL (bitQ a0 a1) 0)) :=
    ⟨rfl, .inr ⟨w.heap.size + 1, 0, #[], rfl, by omega, by simpa using blk_new (w.alloc (.cells #[.int .u64 a0, .int .u64 a1] 42)) (.cells #[] 2), by simp [Q.selL], by unfold maxLen; omega, rfl, rfl⟩⟩
  have HO := Aside0.mk hO
  have HB : Aside0 (Below w.heap.size w ((w.alloc (.cells #[.int .u64 a0, .int .u64 a1] 42)).alloc (.cells #[] 2))) := ⟨below_alloc ((Below.refl _ _).alloc (Nat.le_refl _) _) _⟩
  clear hO
  go_loopw [3, 6] (fun v i W => ∃ (n : Nat) (vo : Value), n ≤ 128 ∧ vo = v ∧ i = .int .i64 n ∧ Aside0 (W.heap[w.heap.size]? = some (.cells #[.int .u64 a0, .int .u64 a1] 42 (0, 0))) ∧ Aside0 (W.ownsRow (w.heap.size + 1) 2 1 vo (Q.selL (bitQ a0 a1) n).length (nums .i64 (Q.selL (bitQ a0 a1) n))) ∧ Aside0 (Below w.heap.size w W)) (fun _ i _ => 128 - (intOf i).toNat)
  case atStart => exact ⟨0, _, by omega, rfl, rfl, B0, HO, HB⟩
  case round =>
    clear B0 HO HB
    obtain ⟨n, vo, hn, rfl, rfl, B0, HO, HB⟩ := hrel
    by_cases hlt : n < 128
    · by_cases h64 : n < 64
      · have hq : Int.tdiv (n : Int) 64 = 0 := by rw [Int.tdiv_eq_ediv_of_nonneg (by omega)]; omega
        have hm : Int.tmod (n : Int) 64 = n := by rw [Int.tmod_eq_emod_of_nonneg (by omega)]; omega
        have k0 : wr.cell? ⟨w.heap.size, 0, none⟩ = some (.int .u64 a0) := blk_cell B0.out 0
        have ht := shr_and ha0 h64
        have HQ : Aside0 (Q.selL (bitQ a0 a1) (n + 1) = Q.selL (bitQ a0 a1) n ++ if a0.testBit n = true then [(n : Int)] else []) := ⟨by rw [Q.selL_succ, bitQ_lo a0 a1 h64]⟩
        have hlen := Q.selL_len (bitQ a0 a1) n
        have hsz : w.heap.size < wr.heap.size := by
          have := B0.out
          rcases Nat.lt_or_ge w.heap.size wr.heap.size with h | h
          · exact h
          · rw [Array.getElem?_eq_none h] at this
            cases this
        by_cases hb : a0.testBit n = true
        · rw [hb] at ht
          rw [if_pos hb] at HQ
          clear hb
          go_wp2_with (at_builtin; obtain ⟨hi, hz0, hz1, hz2⟩ := HI.out; refine wpList_append_own _ rfl _ _ 24 rfl (w.heap.size + 1) 2 i0 (.int .i64 0) 1 8 Tryz.underlying24 hi hz0 hz1 hz2 rfl (by decide) _ (Q.selL (bitQ a0 a1) n).length (nums .i64 (Q.selL (bitQ a0 a1) n)) rfl (HO.out.alloc _) ⟨wr.heap.size, 0, none⟩ 1 1 [.int .i64 (n : Int)] rfl ?c0 ?c1 ?c2 ?c3 ?c4 ?c5 ?_; clear hi hz0 hz1 hz2)
          case c0 => rfl
          case c1 =>
            intro j u hj
            have hb := blk_cell (blk_new wr (.cells #[.int .i64 (n : Int)] 2)) j
            rw [add_plain, hb]
            simpa using hj
          case c2 => intro u hu; simp only [List.mem_cons, List.not_mem_nil, or_false] at hu; rcases hu with rfl; rfl
          case c3 => unfold maxLen; omega
          case c4 => omega
          case c5 => have := hsz; simp; omega
          intro v' w3 O3 G3 _
          have O4 : Aside0 (w3.ownsRow (w.heap.size + 1) 2 1 v' (Q.selL (bitQ a0 a1) (n + 1)).length (nums .i64 (Q.selL (bitQ a0 a1) (n + 1)))) := ⟨by rw [HQ.out, nums_append, List.length_append]; exact O3⟩
          have B3 := Aside0.mk (pw_below_grown (below_alloc HB.out _) _ (by have := HB.out.size; simp; omega) G3 (fun k hk => by have := own_base HO.out k hk; omega))
          have B4 : Aside0 (w3.heap[w.heap.size]? = some (.cells #[.int .u64 a0, .int .u64 a1] 42 (0, 0))) := ⟨by
            have hne : some w.heap.size ≠ vo.ownBlock := fun e => by have := own_base HO.out _ e.symm; omega
            rw [G3.block _ (by simp; omega) hne]
            exact blk_alloc B0.out _⟩
          clear O3 G3 HO HB B0 k0 ht
          go_wp2
          go_roundw
          case rel => exact ⟨n + 1, _, by omega, rfl, by go_num, B4, O4, B3⟩
          case measure => simp [intOf]; omega
        · have hb := Bool.eq_false_iff.2 hb
          rw [hb] at ht
          rw [if_neg (by rw [hb]; simp), List.append_nil] at HQ
          clear hb
          go_wp2
          go_roundw
          case rel => exact ⟨n + 1, _, by omega, rfl, by go_num, B0, ⟨by rw [HQ.out]; exact HO.out⟩, HB⟩
          case measure => simp [intOf]; omega
      · have hq : Int.tdiv (n : Int) 64 = 1 := by rw [Int.tdiv_eq_ediv_of_nonneg (by omega)]; omega
        have hm : Int.tmod (n : Int) 64 = ((n - 64 : Nat) : Int) := by rw [Int.tmod_eq_emod_of_nonneg (by omega)]; omega
        have k0 : wr.cell? ⟨w.heap.size, 1, none⟩ = some (.int .u64 a1) := blk_cell B0.out 1
        have ht := shr_and ha1 (show n - 64 < 64 by omega)
        have HQ : Aside0 (Q.selL (bitQ a0 a1) (n + 1) = Q.selL (bitQ a0 a1) n ++ if a1.testBit (n - 64) = true then [(n : Int)] else []) := ⟨by rw [Q.selL_succ, bitQ_hi a0 a1 h64]⟩
        have hlen := Q.selL_len (bitQ a0 a1) n
        have hsz : w.heap.size < wr.heap.size := by
          have := B0.out
          rcases Nat.lt_or_ge w.heap.size wr.heap.size with h | h
          · exact h
          · rw [Array.getElem?_eq_none h] at this
            cases this
        by_cases hb : a1.testBit (n - 64) = true
        · rw [hb] at ht
          rw [if_pos hb] at HQ
          clear hb
          go_wp2_with (at_builtin; obtain ⟨hi, hz0, hz1, hz2⟩ := HI.out; refine wpList_append_own _ rfl _ _ 24 rfl (w.heap.size + 1) 2 i0 (.int .i64 0) 1 8 Tryz.underlying24 hi hz0 hz1 hz2 rfl (by decide) _ (Q.selL (bitQ a0 a1) n).length (nums .i64 (Q.selL (bitQ a0 a1) n)) rfl (HO.out.alloc _) ⟨wr.heap.size, 0, none⟩ 1 1 [.int .i64 (n : Int)] rfl ?c0 ?c1 ?c2 ?c3 ?c4 ?c5 ?_; clear hi hz0 hz1 hz2)
          case c0 => rfl
          case c1 =>
            intro j u hj
            have hb := blk_cell (blk_new wr (.cells #[.int .i64 (n : Int)] 2)) j
            rw [add_plain, hb]
            simpa using hj
          case c2 => intro u hu; simp only [List.mem_cons, List.not_mem_nil, or_false] at hu; rcases hu with rfl; rfl
          case c3 => unfold maxLen; omega
          case c4 => omega
          case c5 => have := hsz; simp; omega
          intro v' w3 O3 G3 _
          have O4 : Aside0 (w3.ownsRow (w.heap.size + 1) 2 1 v' (Q.selL (bitQ a0 a1) (n + 1)).length (nums .i64 (Q.selL (bitQ a0 a1) (n + 1)))) := ⟨by rw [HQ.out, nums_append, List.length_append]; exact O3⟩
          have B3 := Aside0.mk (pw_below_grown (below_alloc HB.out _) _ (by have := HB.out.size; simp; omega) G3 (fun k hk => by have := own_base HO.out k hk; omega))
          have B4 : Aside0 (w3.heap[w.heap.size]? = some (.cells #[.int .u64 a0, .int .u64 a1] 42 (0, 0))) := ⟨by
            have hne : some w.heap.size ≠ vo.ownBlock := fun e => by have := own_base HO.out _ e.symm; omega
            rw [G3.block _ (by simp; omega) hne]
            exact blk_alloc B0.out _⟩
          clear O3 G3 HO HB B0 k0 ht
          go_wp2
          go_roundw
          case rel => exact ⟨n + 1, _, by omega, rfl, by go_num, B4, O4, B3⟩
          case measure => simp [intOf]; omega
        · have hb := Bool.eq_false_iff.2 hb
          rw [hb] at ht
          rw [if_neg (by rw [hb]; simp), List.append_nil] at HQ
          clear hb
          go_wp2
          go_roundw
          case rel => exact ⟨n + 1, _, by omega, rfl, by go_num, B0, ⟨by rw [HQ.out]; exact HO.out⟩, HB⟩
          case measure => simp [intOf]; omega
    · obtain rfl : n = 128 := by omega
      go_wp2
      go_ret
      exact ⟨_, rfl, Kd.R_of_own (own_weaken HO.out (by omega)) (fun _ _ => trivial), HB.out⟩
end Go.Proofs.YtnkndaapamenmaaGreat.P
