/- The words of a ball: what the program's ball returns. -/
import Derived.Test.YtbhgnphdhkmliaaHThose
import Derived.Test.YtbhgnphdhkmliaaQBase
set_option linter.unusedVariables false
set_option linter.unusedSimpArgs false
namespace Go.Proofs.Ytbhgnphdhkmliaa.P
open Go.RowKit Go.Proofs.YtbhgnphdhkmliaaW.PrintWords Go.Proofs.YtbhgnphdhkmliaaW.PrintLast Go.Proofs.YtbhgnphdhkmliaaW.PrintMore CC


set_option maxHeartbeats 8000000 in
set_option maxRecDepth 100000 in
theorem ball1_calls (g7 g5 : Nat) (d0 d1 d2 d3 d4 d5 d6 d7 e0 e1 e2 e3 e4 e5 e6 e7 r : Int) (w : World) (h7 : w.heap[g7]? = some (.cells #[.int .u8 d0, .int .u8 d1, .int .u8 d2, .int .u8 d3, .int .u8 d4, .int .u8 d5, .int .u8 d6, .int .u8 d7] 60 (0, 0))) (h5 : w.heap[g5]? = some (.cells #[.int .i64 r] 2 (0, 0))) :
    Calls Try.prog 87 #[.agg #[.int .u8 e0, .int .u8 e1, .int .u8 e2, .int .u8 e3, .int .u8 e4, .int .u8 e5, .int .u8 e6, .int .u8 e7], .pointer (some ⟨g7, 0, none⟩), .pointer (some ⟨g5, 0, none⟩)] w fun e w' => e = .returned (.bool (decide (ham [d0, d1, d2, d3, d4, d5, d6, d7] [e0, e1, e2, e3, e4, e5, e6, e7] ≤ r))) ∧ Below w.heap.size w w' := by
  have huD := Try.underlying60
  have H7 := Aside0.mk (blk_alloc h7 (.cells #[.int .u8 e0, .int .u8 e1, .int .u8 e2, .int .u8 e3, .int .u8 e4, .int .u8 e5, .int .u8 e6, .int .u8 e7] 60))
  have H5 := Aside0.mk (blk_alloc h5 (.cells #[.int .u8 e0, .int .u8 e1, .int .u8 e2, .int .u8 e3, .int .u8 e4, .int .u8 e5, .int .u8 e6, .int .u8 e7] 60))
  have H3 := Aside0.mk (blk_new w (.cells #[.int .u8 e0, .int .u8 e1, .int .u8 e2, .int .u8 e3, .int .u8 e4, .int .u8 e5, .int .u8 e6, .int .u8 e7] 60))
  clear h7 h5
  have hB : Below w.heap.size w (w.alloc (.cells #[.int .u8 e0, .int .u8 e1, .int .u8 e2, .int .u8 e3, .int .u8 e4, .int .u8 e5, .int .u8 e6, .int .u8 e7] 60)) := (Below.refl _ _).alloc (Nat.le_refl _) _
  go_enter Try.func87, Try.ntmps87
  go_wp2_with fail
  generalize w.alloc (.cells #[.int .u8 e0, .int .u8 e1, .int .u8 e2, .int .u8 e3, .int .u8 e4, .int .u8 e5, .int .u8 e6, .int .u8 e7] 60) = W at *
  have hd0 : W.cell? ⟨g7, 0, none⟩ = some (.int .u8 d0) := blk_cell H7.out 0
  have hd1 : W.cell? ⟨g7, 1, none⟩ = some (.int .u8 d1) := blk_cell H7.out 1
  have hd2 : W.cell? ⟨g7, 2, none⟩ = some (.int .u8 d2) := blk_cell H7.out 2
  have hd3 : W.cell? ⟨g7, 3, none⟩ = some (.int .u8 d3) := blk_cell H7.out 3
  have hd4 : W.cell? ⟨g7, 4, none⟩ = some (.int .u8 d4) := blk_cell H7.out 4
  have hd5 : W.cell? ⟨g7, 5, none⟩ = some (.int .u8 d5) := blk_cell H7.out 5
  have hd6 : W.cell? ⟨g7, 6, none⟩ = some (.int .u8 d6) := blk_cell H7.out 6
  have hd7 : W.cell? ⟨g7, 7, none⟩ = some (.int .u8 d7) := blk_cell H7.out 7
  have he0 : W.cell? ⟨w.heap.size, 0, none⟩ = some (.int .u8 e0) := blk_cell H3.out 0
  have he1 : W.cell? ⟨w.heap.size, 1, none⟩ = some (.int .u8 e1) := blk_cell H3.out 1
  have he2 : W.cell? ⟨w.heap.size, 2, none⟩ = some (.int .u8 e2) := blk_cell H3.out 2
  have he3 : W.cell? ⟨w.heap.size, 3, none⟩ = some (.int .u8 e3) := blk_cell H3.out 3
  have he4 : W.cell? ⟨w.heap.size, 4, none⟩ = some (.int .u8 e4) := blk_cell H3.out 4
  have he5 : W.cell? ⟨w.heap.size, 5, none⟩ = some (.int .u8 e5) := blk_cell H3.out 5
  have he6 : W.cell? ⟨w.heap.size, 6, none⟩ = some (.int .u8 e6) := blk_cell H3.out 6
  have he7 : W.cell? ⟨w.heap.size, 7, none⟩ = some (.int .u8 e7) := blk_cell H3.out 7
  have hr : W.cell? ⟨g5, 0, none⟩ = some (.int .i64 r) := blk_cell H5.out 0
  go_region_held3 (fun w' => w'.cell? ⟨g7, 0, none⟩ = some (.int .u8 d0) ∧ w'.cell? ⟨g7, 1, none⟩ = some (.int .u8 d1) ∧ w'.cell? ⟨g7, 2, none⟩ = some (.int .u8 d2) ∧ w'.cell? ⟨g7, 3, none⟩ = some (.int .u8 d3) ∧ w'.cell? ⟨g7, 4, none⟩ = some (.int .u8 d4) ∧ w'.cell? ⟨g7, 5, none⟩ = some (.int .u8 d5) ∧ w'.cell? ⟨g7, 6, none⟩ = some (.int .u8 d6) ∧ w'.cell? ⟨g7, 7, none⟩ = some (.int .u8 d7) ∧ w'.cell? ⟨w.heap.size, 0, none⟩ = some (.int .u8 e0) ∧ w'.cell? ⟨w.heap.size, 1, none⟩ = some (.int .u8 e1) ∧ w'.cell? ⟨w.heap.size, 2, none⟩ = some (.int .u8 e2) ∧ w'.cell? ⟨w.heap.size, 3, none⟩ = some (.int .u8 e3) ∧ w'.cell? ⟨w.heap.size, 4, none⟩ = some (.int .u8 e4) ∧ w'.cell? ⟨w.heap.size, 5, none⟩ = some (.int .u8 e5) ∧ w'.cell? ⟨w.heap.size, 6, none⟩ = some (.int .u8 e6) ∧ w'.cell? ⟨w.heap.size, 7, none⟩ = some (.int .u8 e7) ∧ w'.cell? ⟨g5, 0, none⟩ = some (.int .i64 r) ∧ Below w.heap.size w w') (first | exact ⟨hd0, hd1, hd2, hd3, hd4, hd5, hd6, hd7, he0, he1, he2, he3, he4, he5, he6, he7, hr, below_drew hB⟩ | exact (And.imp (pw_cell_below hb) (And.imp (pw_cell_below hb) (And.imp (pw_cell_below hb) (And.imp (pw_cell_below hb) (And.imp (pw_cell_below hb) (And.imp (pw_cell_below hb) (And.imp (pw_cell_below hb) (And.imp (pw_cell_below hb) (And.imp (pw_cell_below hb) (And.imp (pw_cell_below hb) (And.imp (pw_cell_below hb) (And.imp (pw_cell_below hb) (And.imp (pw_cell_below hb) (And.imp (pw_cell_below hb) (And.imp (pw_cell_below hb) (And.imp (pw_cell_below hb) (And.imp (pw_cell_below hb) (fun hS => below_then hS hS.size hb)))))))))))))))))) (by assumption))
    (first
      | (go_at_call 71; refine (far_calls8 d0 d1 d2 d3 d4 d5 d6 d7 e0 e1 e2 e3 e4 e5 e6 e7 _).mono ?_; rintro e w' ⟨rfl, hb⟩))
  obtain ⟨_, _, _, _, _, _, _, _, _, _, _, _, _, _, _, _, _, hBB⟩ := (by assumption : w'.cell? ⟨g7, 0, none⟩ = some (.int .u8 d0) ∧ _)
  go_wp2
  go_ret
  exact ⟨rfl, hBB⟩


set_option maxHeartbeats 4000000 in
set_option maxRecDepth 100000 in
theorem ball_calls (A : Option Addr) (c : Nat) (s : List Int) (x r : Int) (w : World) (hr : Kd.C (Kd.int .i64) w A s.length s) (hc : s.length ≤ c) (hs : isSp s = true) (h0 : 0 ≤ x) (h1 : x ≤ 1024) :
    Calls Try.prog 69 #[.agg #[.slice A s.length c], .int .i64 x, .int .i64 r] w
      fun e w' => ∃ v, e = .returned v ∧ Kd.R (Kd.int .i64) 2 w' w.heap.size (fun _ => True) v (thoseL s (fun e => decide (ham (dig8 s x) e ≤ r)) (prd s).toNat) ∧ Below w.heap.size w w' := by
  have huS := Try.underlying26
  have huD := Try.underlying60
  have HR := Aside0.mk hr
  have HS := Aside0.mk hs
  obtain ⟨kc, hcount⟩ := (Q.count_sp hs).rounds
  have HK := Aside0.mk hcount
  clear hr hs hcount
  go_enter Try.func69, Try.ntmps69
  go_wp2_with fail
  have hcell : ((w.alloc (.cells #[.slice A s.length c] 26)).alloc (.cells #[.int .i64 r] 2)).heap[w.heap.size]? = some (.cells #[.slice A s.length c] 26 (0, 0)) := blk_alloc (blk_new _ _) _
  have hcell2 : ((w.alloc (.cells #[.slice A s.length c] 26)).alloc (.cells #[.int .i64 r] 2)).heap[w.heap.size + 1]? = some (.cells #[.int .i64 r] 2 (0, 0)) := by simpa using blk_new (w.alloc (.cells #[.slice A s.length c] 26)) (.cells #[.int .i64 r] 2)
  have hB : Below w.heap.size w ((w.alloc (.cells #[.slice A s.length c] 26)).alloc (.cells #[.int .i64 r] 2)) := ((Below.refl _ _).alloc (Nat.le_refl _) _).alloc (by simp) _
  refine (digitsOf_calls A c s x _ (Kd.C_below HR.out hB) hc HS.out h0 h1).mono ?_
  rintro e w1 ⟨rfl, hb⟩
  have K1 := Aside0.mk (blk_below hcell hb)
  have K2 := Aside0.mk (blk_below hcell2 hb)
  have B1 := Aside0.mk (below_then hB hB.size hb)
  clear hcell hcell2 hB hb
  have hd8 : dloop s s.length x (List.replicate 8 0) = dig8 s x := rfl
  rw [hd8]
  clear hd8
  have E8 := Aside0.mk (dig8_length s x)
  generalize hd : dig8 s x = d at *
  have HD := Aside0.mk hd
  clear hd
  obtain ⟨y0, y1, y2, y3, y4, y5, y6, y7, rfl⟩ := eight E8.out
  have ea : arr8 [y0, y1, y2, y3, y4, y5, y6, y7] = .agg #[.int .u8 y0, .int .u8 y1, .int .u8 y2, .int .u8 y3, .int .u8 y4, .int .u8 y5, .int .u8 y6, .int .u8 y7] := rfl
  rw [ea]
  clear ea
  have hk : w1.cell? ⟨w.heap.size, 0, none⟩ = some (.slice A s.length c) := blk_cell K1.out 0
  have hk2 : (w1.alloc (.cells #[.int .u8 y0, .int .u8 y1, .int .u8 y2, .int .u8 y3, .int .u8 y4, .int .u8 y5, .int .u8 y6, .int .u8 y7] 60)).cell? ⟨w.heap.size, 0, none⟩ = some (.slice A s.length c) := blk_cell (blk_alloc K1.out _) 0
  go_wp2_with fail
  have R2 := Aside0.mk (blk_alloc K2.out (.cells #[.int .u8 y0, .int .u8 y1, .int .u8 y2, .int .u8 y3, .int .u8 y4, .int .u8 y5, .int .u8 y6, .int .u8 y7] 60))
  have R7 := Aside0.mk (blk_new w1 (.cells #[.int .u8 y0, .int .u8 y1, .int .u8 y2, .int .u8 y3, .int .u8 y4, .int .u8 y5, .int .u8 y6, .int .u8 y7] 60))
  have RB := Aside0.mk (below_alloc B1.out (.cells #[.int .u8 y0, .int .u8 y1, .int .u8 y2, .int .u8 y3, .int .u8 y4, .int .u8 y5, .int .u8 y6, .int .u8 y7] 60))
  refine («ball$1».those_calls (some ⟨w1.heap.size, 0, none⟩) (some ⟨w.heap.size + 1, 0, none⟩) (fun e => decide (ham [y0, y1, y2, y3, y4, y5, y6, y7] e ≤ r)) A c s _ (Kd.C_below HR.out RB.out) hc HS.out kc HK.out ?hf).mono ?_
  case hf =>
    intro e0 e1 e2 e3 e4 e5 e6 e7 W hW
    exact ball1_calls _ _ y0 y1 y2 y3 y4 y5 y6 y7 e0 e1 e2 e3 e4 e5 e6 e7 r W (blk_below R7.out hW) (blk_below R2.out hW)
  rintro e w2 ⟨v, rfl, hO, hb⟩
  have O2 := Aside0.mk (own_weaken hO RB.out.size)
  have B2 := Aside0.mk (below_then RB.out RB.out.size hb)
  clear hO hb
  go_wp2
  go_ret
  refine ⟨_, rfl, ?_, B2.out⟩
  rw [HD.out]
  exact Kd.R_of_own O2.out (fun _ _ => trivial)

/-- What the program's ball returns where it is asked of a word of a space. -/
def impl_ball.f (l0_0 : List Int) (a1 a2 : Int) : Option (List Int) := if isSp l0_0 = true ∧ isW l0_0 a1 = true then some (thoseL l0_0 (fun e => decide (ham (dig8 l0_0 a1) e ≤ a2)) (prd l0_0).toNat) else none

theorem isW_sm {s : List Int} (hs : isSp s = true) {x : Int} (h : isW s x = true) : 0 ≤ x ∧ x ≤ 1024 := by
  have h1 := (isW_iff s x).1 h
  have h2 := isSp_prd hs
  omega

theorem impl_ball.calls (A0_0 : Option Addr) (c0_0 : Nat) (l0_0 : List Int) (a1 : Int) (a2 : Int) (r : List Int) (w : World) (hr0_0 : Kd.C (Kd.int .i64) w A0_0 l0_0.length l0_0) (hc0_0 : l0_0.length ≤ c0_0) (h : impl_ball.f l0_0 a1 a2 = some r) :
    Calls Try.prog 69 #[.agg #[.slice A0_0 l0_0.length c0_0], .int .i64 a1, .int .i64 a2] w fun e w' => ∃ v0_ : Value, e = .returned (v0_) ∧ Kd.R (Kd.int .i64) 2 w' w.heap.size (fun _ => True) v0_ r ∧ Below w.heap.size w w' := by
  unfold impl_ball.f at h
  split at h
  · rename_i hc
    obtain rfl := Option.some.inj h
    obtain ⟨hs, h1⟩ := hc
    obtain ⟨g0, g1⟩ := isW_sm hs h1
    exact ball_calls A0_0 c0_0 l0_0 a1 a2 w hr0_0 hc0_0 hs g0 g1
  · cases h
end Go.Proofs.Ytbhgnphdhkmliaa.P
