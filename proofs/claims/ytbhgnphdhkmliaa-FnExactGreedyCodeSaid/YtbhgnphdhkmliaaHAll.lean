/- The digits of all words: what the program's allDigits returns. -/
import Derived.Test.YtbhgnphdhkmliaaHArr
import Derived.Test.YtbhgnphdhkmliaaFBase
set_option linter.unusedVariables false
set_option linter.unusedSimpArgs false
namespace Go.Proofs.Ytbhgnphdhkmliaa.P
open Go.RowKit Go.Proofs.YtbhgnphdhkmliaaW.PrintWords Go.Proofs.YtbhgnphdhkmliaaW.PrintLast Go.Proofs.YtbhgnphdhkmliaaW.PrintMore CC


theorem infoD : (Try.prog.info? 60).map (fun i => (i.zero, i.size, i.bytes)) = some (some (.agg #[.int .u8 0, .int .u8 0, .int .u8 0, .int .u8 0, .int .u8 0, .int .u8 0, .int .u8 0, .int .u8 0]), 8, 8) := by kernel_rfl

/-- The cells of a row of arrays. -/
def flat8 (L : List (List Int)) : List Value := (L.map (nums .u8)).flatten

/-- The digits of the first words. -/
def all8 (s : List Int) (n : Nat) : List (List Int) := (List.range n).map fun (i : Nat) => dig8 s (i : Int)
theorem all8_succ (s : List Int) (n : Nat) : all8 s (n + 1) = all8 s n ++ [dig8 s (n : Int)] := by simp [all8, List.range_succ]
theorem flat8_succ (s : List Int) (n : Nat) : flat8 (all8 s (n + 1)) = flat8 (all8 s n) ++ nums .u8 (dig8 s (n : Int)) := by simp [flat8, all8_succ]

set_option maxHeartbeats 4000000 in
set_option maxRecDepth 100000 in
theorem allDigits_calls (A : Option Addr) (c : Nat) (s : List Int) (w : World) (hr : Kd.C (Kd.int .i64) w A s.length s) (hc : s.length ≤ c) (hs : isSp s = true) (kc : Nat) (hcount : impl_count.f kc s = some (prd s)) :
    Calls Try.prog 67 #[.agg #[.slice A s.length c]] w
      fun e w' => ∃ v, e = .returned v ∧ w'.ownsRow w.heap.size 60 8 v (prd s).toNat (flat8 (all8 s (prd s).toNat)) ∧ Below w.heap.size w w' := by
  have huS := Try.underlying26
  have huD := Try.underlying60
  have HR := Aside0.mk hr
  have HS := Aside0.mk hs
  have p0 := isSp_prd1 hs
  have p1 := isSp_prd hs
  have HK := Aside0.mk hcount
  clear hr hs hcount
  obtain ⟨i0, hi, hz0, hz1, hz2⟩ := info_parts infoD
  have HI := Aside0.mk (And.intro hi (And.intro hz0 (And.intro hz1 hz2)))
  clear hi hz0 hz1 hz2
  go_enter Try.func67, Try.ntmps67
  go_wp2_with fail
  have hcell : ((w.alloc (.cells #[.slice A s.length c] 26)).alloc (.cells #[] 60)).heap[w.heap.size]? = some (.cells #[.slice A s.length c] 26 (0, 0)) := blk_alloc (blk_new _ _) _
  have hB : Below w.heap.size w ((w.alloc (.cells #[.slice A s.length c] 26)).alloc (.cells #[] 60)) := ((Below.refl _ _).alloc (Nat.le_refl _) _).alloc (by simp) _
  have hO : ((w.alloc (.cells #[.slice A s.length c] 26)).alloc (.cells #[] 60)).ownsRow w.heap.size 60 8 (.slice (some ⟨w.heap.size + 1, 0, none⟩) 0 0) 0 [] :=
    ⟨rfl, .inr ⟨w.heap.size + 1, 0, #[], rfl, by omega, by simpa using blk_new (w.alloc (.cells #[.slice A s.length c] 26)) (.cells #[] 60), by omega, by unfold maxLen; omega, rfl, rfl⟩⟩
  refine (impl_count.calls kc A c s (prd s) _ (Kd.C_below HR.out hB) hc HK.out).mono ?_
  rintro e w1 ⟨rfl, hb⟩
  have K1 := Aside0.mk (blk_below hcell hb)
  have B1 := Aside0.mk (below_then hB hB.size hb)
  have O1 := Aside0.mk (pw_own_below hO hb)
  clear hcell hB hO hb
  obtain ⟨P, hP⟩ : ∃ P : Nat, prd s = (P : Int) := ⟨(prd s).toNat, by omega⟩
  have HP := Aside0.mk hP
  have p2 : P ≤ 1024 := by omega
  rw [hP]
  clear hP
  have hk1 : w1.cell? ⟨w.heap.size, 0, none⟩ = some (.slice A s.length c) := blk_cell K1.out 0
  go_wp2_with fail
  clear hk1
  go_loopw [3, 8] (fun v i W => ∃ (n : Nat), n ≤ P ∧ i = .int .i64 n ∧ Aside0 (W.ownsRow w.heap.size 60 8 v n (flat8 (all8 s n))) ∧ Aside0 (W.heap[w.heap.size]? = some (.cells #[.slice A s.length c] 26 (0, 0))) ∧ Aside0 (Below w.heap.size w W)) (fun _ i _ => P - (intOf i).toNat)
  case atStart => exact ⟨0, by omega, rfl, ⟨O1.out⟩, K1, B1⟩
  case round =>
    obtain ⟨n, hn, rfl, HO, HC, HB⟩ := hrel
    clear K1 B1 O1
    by_cases hlt : n < P
    · have hcz : wr.cell? ⟨w.heap.size, 0, none⟩ = some (.slice A s.length c) := blk_cell HC.out 0
      go_wp2_with fail
      refine (digitsOf_calls A c s (n : Int) _ (Kd.C_below HR.out HB.out) hc HS.out (by omega) (by omega)).mono ?_
      rintro e w2 ⟨rfl, hb2⟩
      have O2 := Aside0.mk (pw_own_below HO.out hb2)
      have C2 := Aside0.mk (blk_below HC.out hb2)
      have B2 := Aside0.mk (below_then HB.out HB.out.size hb2)
      clear HO HC HB hcz hb2
      have E8 := Aside0.mk (dig8_length s (n : Int))
      have F8 := Aside0.mk (flat8_succ s n)
      change Aside0 ((dig8 s (n : Int)).length = 8) at E8
      have hd8 : dloop s s.length (n : Int) (List.replicate 8 0) = dig8 s (n : Int) := rfl
      rw [hd8]
      clear hd8
      generalize dig8 s (n : Int) = d at *
      obtain ⟨y0, y1, y2, y3, y4, y5, y6, y7, rfl⟩ := eight E8.out
      have ea : arr8 [y0, y1, y2, y3, y4, y5, y6, y7] = .agg #[.int .u8 y0, .int .u8 y1, .int .u8 y2, .int .u8 y3, .int .u8 y4, .int .u8 y5, .int .u8 y6, .int .u8 y7] := rfl
      rw [ea]
      clear ea
      go_wp2_with (at_builtin; obtain ⟨hi, hz0, hz1, hz2⟩ := HI.out; refine wpList_append_own _ rfl _ _ 79 rfl w.heap.size 60 i0 (.agg #[.int .u8 0, .int .u8 0, .int .u8 0, .int .u8 0, .int .u8 0, .int .u8 0, .int .u8 0, .int .u8 0]) 8 8 Try.underlying79 hi hz0 hz1 hz2 rfl (by decide) _ n (flat8 (all8 s n)) rfl (O2.out.alloc _) ⟨w2.heap.size, 0, none⟩ 1 1 [.int .u8 y0, .int .u8 y1, .int .u8 y2, .int .u8 y3, .int .u8 y4, .int .u8 y5, .int .u8 y6, .int .u8 y7] rfl ?c0 ?c1 ?c2 ?c3 ?c4 ?c5 ?_; clear hi hz0 hz1 hz2)
      case c0 => rfl
      case c1 =>
        intro j u hj
        have hb := blk_cell (blk_new w2 (.cells #[.int .u8 y0, .int .u8 y1, .int .u8 y2, .int .u8 y3, .int .u8 y4, .int .u8 y5, .int .u8 y6, .int .u8 y7] 60)) j
        rw [add_plain, hb]
        simpa using hj
      case c2 => intro u hu; simp only [List.mem_cons, List.not_mem_nil, or_false] at hu; rcases hu with rfl | rfl | rfl | rfl | rfl | rfl | rfl | rfl <;> rfl
      case c3 => unfold maxLen; omega
      case c4 => omega
      case c5 => have := B2.out.size; simp; omega
      intro v' w3 O3 G3 _
      have O4 : Aside0 (w3.ownsRow w.heap.size 60 8 v' (n + 1) (flat8 (all8 s (n + 1)))) := ⟨by rw [F8.out]; exact O3⟩
      have C3 := Aside0.mk (blk_grown (blk_alloc C2.out _) G3 (own_ne O2.out C2.out (by decide)))
      have B3 := Aside0.mk (pw_below_grown (below_alloc B2.out _) _ (by have := B2.out.size; simp; omega) G3 (fun k hk => own_base O2.out k hk))
      clear O3 G3 O2 C2 B2 F8 E8
      go_wp2
      go_roundw
      case rel => exact ⟨n + 1, by omega, by go_num, O4, C3, B3⟩
      case measure => simp [intOf]; omega
    · go_wp2
      go_ret
      have hn : n = P := by omega
      subst hn
      have e : (prd s).toNat = n := by have := HP.out; omega
      rw [e]
      exact ⟨_, rfl, HO.out, HB.out⟩
end Go.Proofs.Ytbhgnphdhkmliaa.P
