/- The digits of the words of a code: what the program's digitsOfAll returns. -/
import Derived.Test.YthcodiknghfmmaaHAll
set_option linter.unusedVariables false
set_option linter.unusedSimpArgs false
namespace Go.Proofs.Ythcodiknghfmmaa.P
open Go.RowKit Go.Proofs.YthcodiknghfmmaaW.PrintWords Go.Proofs.YthcodiknghfmmaaW.PrintLast Go.Proofs.YthcodiknghfmmaaW.PrintMore CC

/-- The digits of a code's first words. -/
def allOf (s C : List Int) (n : Nat) : List (List Int) := (C.take n).map fun x => dig8 s x
theorem take_rdO {d : List Int} {n : Nat} (hn : n < d.length) : d.take (n + 1) = d.take n ++ [rd d (n : Int)] := by
  rw [List.take_add_one]
  simp [rd, List.getD_eq_getElem?_getD, hn]
theorem flat8_of {s C : List Int} {n : Nat} (h : n < C.length) : flat8 (allOf s C (n + 1)) = flat8 (allOf s C n) ++ nums .u8 (dig8 s (rd C (n : Int))) := by
  simp [flat8, allOf, take_rdO h]
theorem code_rdO {s c : List Int} (hc : c.all (isW s) = true) {n : Nat} (h : n < c.length) : 0 ≤ rd c (n : Int) ∧ rd c (n : Int) < prd s := by
  have : rd c (n : Int) = c[n] := by simp [rd, List.getD_eq_getElem?_getD, h]
  rw [this, ← isW_iff]
  exact List.all_eq_true.1 hc _ (List.getElem_mem h)

set_option maxHeartbeats 4000000 in
set_option maxRecDepth 100000 in
theorem digitsOfAll_calls (A : Option Addr) (c : Nat) (s : List Int) (A1 : Option Addr) (c1 : Nat) (C : List Int) (w : World) (hr : Kd.C (Kd.int .i64) w A s.length s) (hc : s.length ≤ c) (hr1 : Kd.C (Kd.int .i64) w A1 C.length C) (hc1 : C.length ≤ c1) (hs : isSp s = true) (hC : C.all (isW s) = true) (hCl : C.length ≤ 1048576) :
    Calls Try.prog 79 #[.agg #[.slice A s.length c], .slice A1 C.length c1] w
      fun e w' => ∃ v, e = .returned v ∧ w'.ownsRow w.heap.size 52 8 v C.length (flat8 (allOf s C C.length)) ∧ Below w.heap.size w w' := by
  have huS := Try.underlying28
  have huD := Try.underlying52
  have HR := Aside0.mk hr
  have HR1 := Aside0.mk hr1
  have HS := Aside0.mk hs
  have HC := Aside0.mk hC
  have p1 := isSp_prd hs
  clear hr hr1 hs hC
  obtain ⟨i0, hi, hz0, hz1, hz2⟩ := info_parts infoD
  have HI := Aside0.mk (And.intro hi (And.intro hz0 (And.intro hz1 hz2)))
  clear hi hz0 hz1 hz2
  go_enter Try.func79, Try.ntmps79
  go_wp2_with fail
  have hcell : ((w.alloc (.cells #[.slice A s.length c] 28)).alloc (.cells #[] 52)).heap[w.heap.size]? = some (.cells #[.slice A s.length c] 28 (0, 0)) := blk_alloc (blk_new _ _) _
  have hB : Below w.heap.size w ((w.alloc (.cells #[.slice A s.length c] 28)).alloc (.cells #[] 52)) := ((Below.refl _ _).alloc (Nat.le_refl _) _).alloc (by simp) _
  have hO : ((w.alloc (.cells #[.slice A s.length c] 28)).alloc (.cells #[] 52)).ownsRow w.heap.size 52 8 (.slice (some ⟨w.heap.size + 1, 0, none⟩) 0 0) 0 [] :=
    ⟨rfl, .inr ⟨w.heap.size + 1, 0, #[], rfl, by omega, by simpa using blk_new (w.alloc (.cells #[.slice A s.length c] 28)) (.cells #[] 52), by omega, by unfold maxLen; omega, rfl, rfl⟩⟩
  have K1 := Aside0.mk hcell
  have B1 := Aside0.mk hB
  have O1 := Aside0.mk hO
  clear hcell hB hO
  go_loopw [5, 11] (fun v i W => ∃ (n : Nat), n ≤ C.length ∧ i = .int .i64 n ∧ Aside0 (W.ownsRow w.heap.size 52 8 v n (flat8 (allOf s C n))) ∧ Aside0 (W.heap[w.heap.size]? = some (.cells #[.slice A s.length c] 28 (0, 0))) ∧ Aside0 (Below w.heap.size w W)) (fun _ i _ => C.length - (intOf i).toNat)
  case atStart => exact ⟨0, by omega, rfl, ⟨O1.out⟩, K1, B1⟩
  case round =>
    obtain ⟨n, hn, rfl, HO, HK, HB⟩ := hrel
    clear K1 B1 O1
    by_cases hlt : n < C.length
    · obtain ⟨ad1, e1, _⟩ := Kd.at_int HR1.out (n : Int) (by omega) (by omega)
      subst e1
      have hx := rd_cell HR1.out HB.out n hlt
      obtain ⟨c0, c1'⟩ := code_rdO HC.out hlt
      have F8 := Aside0.mk (flat8_of (s := s) hlt)
      generalize rd C (n : Int) = x at *
      have hcz : wr.cell? ⟨w.heap.size, 0, none⟩ = some (.slice A s.length c) := blk_cell HK.out 0
      go_wp2_with fail
      refine (digitsOf_calls A c s x _ (Kd.C_below HR.out HB.out) hc HS.out (by omega) (by omega)).mono ?_
      rintro e w2 ⟨rfl, hb2⟩
      have O2 := Aside0.mk (pw_own_below HO.out hb2)
      have C2 := Aside0.mk (blk_below HK.out hb2)
      have B2 := Aside0.mk (below_then HB.out HB.out.size hb2)
      clear HO HK HB hcz hb2 hx
      have E8 := Aside0.mk (dig8_length s x)
      have hd8 : dloop s s.length x (List.replicate 8 0) = dig8 s x := rfl
      rw [hd8]
      clear hd8
      generalize dig8 s x = d at *
      obtain ⟨y0, y1, y2, y3, y4, y5, y6, y7, rfl⟩ := eight E8.out
      have ea : arr8 [y0, y1, y2, y3, y4, y5, y6, y7] = .agg #[.int .u8 y0, .int .u8 y1, .int .u8 y2, .int .u8 y3, .int .u8 y4, .int .u8 y5, .int .u8 y6, .int .u8 y7] := rfl
      rw [ea]
      clear ea
      go_wp2_with (at_builtin; obtain ⟨hi, hz0, hz1, hz2⟩ := HI.out; refine wpList_append_own _ rfl _ _ 72 rfl w.heap.size 52 i0 (.agg #[.int .u8 0, .int .u8 0, .int .u8 0, .int .u8 0, .int .u8 0, .int .u8 0, .int .u8 0, .int .u8 0]) 8 8 Try.underlying72 hi hz0 hz1 hz2 rfl (by decide) _ n (flat8 (allOf s C n)) rfl (O2.out.alloc _) ⟨w2.heap.size, 0, none⟩ 1 1 [.int .u8 y0, .int .u8 y1, .int .u8 y2, .int .u8 y3, .int .u8 y4, .int .u8 y5, .int .u8 y6, .int .u8 y7] rfl ?c0 ?c1 ?c2 ?c3 ?c4 ?c5 ?_; clear hi hz0 hz1 hz2)
      case c0 => rfl
      case c1 =>
        intro j u hj
        have hb := blk_cell (blk_new w2 (.cells #[.int .u8 y0, .int .u8 y1, .int .u8 y2, .int .u8 y3, .int .u8 y4, .int .u8 y5, .int .u8 y6, .int .u8 y7] 52)) j
        rw [add_plain, hb]
        simpa using hj
      case c2 => intro u hu; simp only [List.mem_cons, List.not_mem_nil, or_false] at hu; rcases hu with rfl | rfl | rfl | rfl | rfl | rfl | rfl | rfl <;> rfl
      case c3 => unfold maxLen; omega
      case c4 => omega
      case c5 => have := B2.out.size; simp; omega
      intro v' w3 O3 G3 _
      have O4 : Aside0 (w3.ownsRow w.heap.size 52 8 v' (n + 1) (flat8 (allOf s C (n + 1)))) := ⟨by rw [F8.out]; exact O3⟩
      have C3 := Aside0.mk (blk_grown (blk_alloc C2.out _) G3 (own_ne O2.out C2.out (by decide)))
      have B3 := Aside0.mk (pw_below_grown (below_alloc B2.out _) _ (by have := B2.out.size; simp; omega) G3 (fun k hk => own_base O2.out k hk))
      clear O3 G3 O2 C2 B2 F8 E8
      go_wp2
      go_roundw
      case rel => exact ⟨n + 1, by omega, by go_num, O4, C3, B3⟩
      case measure => simp [intOf]; omega
    · go_wp2
      go_ret
      have hn : n = C.length := by omega
      subst hn
      exact ⟨_, rfl, HO.out, HB.out⟩
end Go.Proofs.Ythcodiknghfmmaa.P
