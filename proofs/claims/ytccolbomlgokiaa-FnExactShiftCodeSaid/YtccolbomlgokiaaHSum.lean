/- Sums of digits: what the program's sumOf and sumWords return. -/
import Derived.Test.YtccolbomlgokiaaHUpd
set_option linter.unusedVariables false
set_option linter.unusedSimpArgs false
namespace Go.Proofs.Ytccolbomlgokiaa.P
open Go.RowKit Go.Proofs.YtccolbomlgokiaaW.PrintWords Go.Proofs.YtccolbomlgokiaaW.PrintLast Go.Proofs.YtccolbomlgokiaaW.PrintMore CC

def sum8 (s a b : List Int) : List Int := upd8 (fun k => (rd a (k : Int) + rd b (k : Int)) % rd s (k : Int)) s.length
theorem sum8_inR {s : List Int} (hs : isSp s = true) (a b : List Int) : inR s (sum8 s a b) = true := by
  refine inR_of _ _ fun k h1 h2 => ?_
  have hl := isSp_len hs
  obtain ⟨q0, q1⟩ := size_rd (isSp_all hs) h1
  rw [sum8, upd8_rd _ _ h1 (by omega)]
  exact ⟨Int.emod_nonneg _ (by omega), Int.emod_lt_of_pos _ (by omega)⟩

set_option maxHeartbeats 4000000 in
set_option maxRecDepth 100000 in
theorem sumOf_calls (A : Option Addr) (c : Nat) (s d d2 : List Int) (w : World) (hr : Kd.C (Kd.int .i64) w A s.length s) (hc : s.length ≤ c) (hs : isSp s = true) (hd : d.length = 8) (hin : inR s d = true) (hd2 : d2.length = 8) (hin2 : inR s d2 = true) :
    Calls Try.prog 69 #[.agg #[.slice A s.length c], arr8 d, arr8 d2] w
      fun e w' => e = .returned (arr8 (sum8 s d d2)) ∧ Below w.heap.size w w' := by
  have huS := Try.underlying28
  have huD := Try.underlying58
  have HR := Aside0.mk hr
  have HS := Aside0.mk (isSp_all hs)
  have hl := isSp_len hs
  have HD := Aside0.mk hd
  have HI := Aside0.mk hin
  have HD2 := Aside0.mk hd2
  have HI2 := Aside0.mk hin2
  clear hr hs hd hin hd2 hin2
  have HX : Aside0 (sum8 s d d2 = upd8 (fun k => (rd d (k : Int) + rd d2 (k : Int)) % rd s (k : Int)) s.length) := ⟨rfl⟩
  generalize sum8 s d d2 = R at *
  unfold arr8
  go_enter Try.func69, Try.ntmps69
  go_wp2
  have HB : Aside0 (Below w.heap.size w (((((w.alloc (.cells #[.slice A s.length c] 28)).alloc (.cells (nums .u8 d).toArray 58)).alloc (.cells (nums .u8 d2).toArray 58)).alloc (.cells #[.int .u8 0, .int .u8 0, .int .u8 0, .int .u8 0, .int .u8 0, .int .u8 0, .int .u8 0, .int .u8 0] 58)).alloc (.cells #[.int .u8 0, .int .u8 0, .int .u8 0, .int .u8 0, .int .u8 0, .int .u8 0, .int .u8 0, .int .u8 0] 58))) := ⟨below_alloc (below_alloc (below3 _ _ _ _) _) _⟩
  have b1 : (((((w.alloc (.cells #[.slice A s.length c] 28)).alloc (.cells (nums .u8 d).toArray 58)).alloc (.cells (nums .u8 d2).toArray 58)).alloc (.cells #[.int .u8 0, .int .u8 0, .int .u8 0, .int .u8 0, .int .u8 0, .int .u8 0, .int .u8 0, .int .u8 0] 58)).alloc (.cells #[.int .u8 0, .int .u8 0, .int .u8 0, .int .u8 0, .int .u8 0, .int .u8 0, .int .u8 0, .int .u8 0] 58)).heap[w.heap.size + 1]? = some (.cells (nums .u8 d).toArray 58 (0, 0)) :=
    blk_alloc (blk_alloc (blk_alloc (by simpa using blk_new (w.alloc (.cells #[.slice A s.length c] 28)) (.cells (nums .u8 d).toArray 58)) _) _) _
  have b1b : (((((w.alloc (.cells #[.slice A s.length c] 28)).alloc (.cells (nums .u8 d).toArray 58)).alloc (.cells (nums .u8 d2).toArray 58)).alloc (.cells #[.int .u8 0, .int .u8 0, .int .u8 0, .int .u8 0, .int .u8 0, .int .u8 0, .int .u8 0, .int .u8 0] 58)).alloc (.cells #[.int .u8 0, .int .u8 0, .int .u8 0, .int .u8 0, .int .u8 0, .int .u8 0, .int .u8 0, .int .u8 0] 58)).heap[w.heap.size + 1 + 1]? = some (.cells (nums .u8 d2).toArray 58 (0, 0)) :=
    blk_alloc (blk_alloc (by simpa using blk_new ((w.alloc (.cells #[.slice A s.length c] 28)).alloc (.cells (nums .u8 d).toArray 58)) (.cells (nums .u8 d2).toArray 58)) _) _
  have b2 : (((((w.alloc (.cells #[.slice A s.length c] 28)).alloc (.cells (nums .u8 d).toArray 58)).alloc (.cells (nums .u8 d2).toArray 58)).alloc (.cells #[.int .u8 0, .int .u8 0, .int .u8 0, .int .u8 0, .int .u8 0, .int .u8 0, .int .u8 0, .int .u8 0] 58)).alloc (.cells #[.int .u8 0, .int .u8 0, .int .u8 0, .int .u8 0, .int .u8 0, .int .u8 0, .int .u8 0, .int .u8 0] 58)).heap[w.heap.size + 1 + 1 + 1]? = some (.cells (nums .u8 (List.replicate 8 0)).toArray 58 (0, 0)) := by
    rw [z8]
    exact blk_alloc (by simpa using blk_new (((w.alloc (.cells #[.slice A s.length c] 28)).alloc (.cells (nums .u8 d).toArray 58)).alloc (.cells (nums .u8 d2).toArray 58)) (.cells #[.int .u8 0, .int .u8 0, .int .u8 0, .int .u8 0, .int .u8 0, .int .u8 0, .int .u8 0, .int .u8 0] 58)) _
  have b3 : (((((w.alloc (.cells #[.slice A s.length c] 28)).alloc (.cells (nums .u8 d).toArray 58)).alloc (.cells (nums .u8 d2).toArray 58)).alloc (.cells #[.int .u8 0, .int .u8 0, .int .u8 0, .int .u8 0, .int .u8 0, .int .u8 0, .int .u8 0, .int .u8 0] 58)).alloc (.cells #[.int .u8 0, .int .u8 0, .int .u8 0, .int .u8 0, .int .u8 0, .int .u8 0, .int .u8 0, .int .u8 0] 58)).heap[w.heap.size + 1 + 1 + 1 + 1]? = some (.cells (nums .u8 (List.replicate 8 0)).toArray 58 (0, 0)) := by
    rw [z8]
    simpa using blk_new ((((w.alloc (.cells #[.slice A s.length c] 28)).alloc (.cells (nums .u8 d).toArray 58)).alloc (.cells (nums .u8 d2).toArray 58)).alloc (.cells #[.int .u8 0, .int .u8 0, .int .u8 0, .int .u8 0, .int .u8 0, .int .u8 0, .int .u8 0, .int .u8 0] 58)) (.cells #[.int .u8 0, .int .u8 0, .int .u8 0, .int .u8 0, .int .u8 0, .int .u8 0, .int .u8 0, .int .u8 0] 58)
  have B1 := Aside0.mk b1
  have B1b := Aside0.mk b1b
  have B2 := Aside0.mk b2
  have B3 := Aside0.mk b3
  clear b1 b1b b2 b3
  generalize ((((w.alloc (.cells #[.slice A s.length c] 28)).alloc (.cells (nums .u8 d).toArray 58)).alloc (.cells (nums .u8 d2).toArray 58)).alloc (.cells #[.int .u8 0, .int .u8 0, .int .u8 0, .int .u8 0, .int .u8 0, .int .u8 0, .int .u8 0, .int .u8 0] 58)).alloc (.cells #[.int .u8 0, .int .u8 0, .int .u8 0, .int .u8 0, .int .u8 0, .int .u8 0, .int .u8 0, .int .u8 0] 58) = W0 at *
  go_loopw [14] (fun i W => ∃ (n : Nat), n ≤ s.length ∧ i = .int .i64 n ∧ Aside0 (W.heap[w.heap.size + 1]? = some (.cells (nums .u8 d).toArray 58 (0, 0))) ∧ Aside0 (W.heap[w.heap.size + 1 + 1]? = some (.cells (nums .u8 d2).toArray 58 (0, 0))) ∧ Aside0 (W.heap[w.heap.size + 1 + 1 + 1]? = some (.cells (nums .u8 (List.replicate 8 0)).toArray 58 (0, 0))) ∧
      Aside0 (W.heap[w.heap.size + 1 + 1 + 1 + 1]? = some (.cells (nums .u8 (upd8 (fun k => (rd d (k : Int) + rd d2 (k : Int)) % rd s (k : Int)) n)).toArray 58 (0, 0))) ∧ Aside0 (Below w.heap.size w W)) (fun i _ => s.length - (intOf i).toNat)
  case atStart => exact ⟨0, by omega, rfl, B1, B1b, B2, ⟨by rw [upd8_zero]; exact B3.out⟩, HB⟩
  case round =>
    clear B1 B1b B2 B3 HB
    obtain ⟨n, hn, rfl, B1, B1b, B2, B3, HB⟩ := hrel
    by_cases hlt : n < s.length
    · obtain ⟨ad, e, _⟩ := Kd.at_int HR.out (n : Int) (by omega) (by omega)
      subst e
      have hx := rd_cell HR.out HB.out n (by omega)
      have hy := cell8 B1.out (i := n) (by have := HD.out; omega)
      have hy2 := cell8 B1b.out (i := n) (by have := HD2.out; omega)
      have hz := cell8 B3.out (i := n) (by rw [upd8_length]; omega)
      have hfz := blk_frozen B3.out n
      obtain ⟨r0, r1⟩ := inR_rd s d n HI.out hlt (by have := HD.out; omega)
      obtain ⟨r2, r3⟩ := inR_rd s d2 n HI2.out hlt (by have := HD2.out; omega)
      obtain ⟨q0, q1⟩ := size_rd HS.out hlt
      have HU := Aside0.mk (upd8_succ (fun k => (rd d (k : Int) + rd d2 (k : Int)) % rd s (k : Int)) n)
      obtain ⟨m0, m1⟩ := mod_small (x := rd d (n : Int) + rd d2 (n : Int)) q0 q1
      obtain ⟨q, hq⟩ : ∃ q, q = rd s (n : Int) := ⟨_, rfl⟩
      obtain ⟨x, hx2⟩ : ∃ x, x = rd d (n : Int) := ⟨_, rfl⟩
      obtain ⟨y, hy3⟩ : ∃ y, y = rd d2 (n : Int) := ⟨_, rfl⟩
      have HQ := Aside0.mk (And.intro hq (And.intro hx2 hy3))
      rw [← hq] at hx m0 m1 q0 q1 r1 r3
      rw [← hx2] at hy m0 m1 r0 r1
      rw [← hy3] at hy2 m0 m1 r2 r3
      clear hq hx2 hy3
      have hsum : 0 ≤ x + y ∧ x + y ≤ 6 := by omega
      obtain ⟨s0, s1⟩ := hsum
      go_wp2
      go_region
      all_goals go_wp2
      all_goals
        go_roundw
        case rel =>
          refine ⟨n + 1, by omega, by go_num, ⟨blk_drew (blk_far B1.out (by simp) _)⟩, ⟨blk_drew (blk_far B1b.out (by simp) _)⟩, ⟨blk_drew (blk_far B2.out (by simp) _)⟩, ⟨?_⟩, ⟨below_drew (below_set HB.out (by omega))⟩⟩
          have h8 := blk_set8 B3.out n ((x + y) % q)
          rw [HQ.out.1, HQ.out.2.1, HQ.out.2.2] at h8
          rw [HU.out] at h8
          rw [HQ.out.1, HQ.out.2.1, HQ.out.2.2]
          exact blk_drew h8
        case measure => simp [intOf]; omega
    · have hn : n = s.length := by omega
      subst hn
      have B3 := Aside0.mk B3.out
      rw [← HX.out] at B3
      obtain ⟨y0, y1, y2, y3, y4, y5, y6, y7, rfl⟩ := eight (l := R) (by rw [HX.out, upd8_length])
      have k0 : wr.cell? ⟨w.heap.size + 1 + 1 + 1 + 1, 0, none⟩ = some (.int .u8 y0) := blk_cell B3.out 0
      have k1 : wr.cell? ⟨w.heap.size + 1 + 1 + 1 + 1, 1, none⟩ = some (.int .u8 y1) := blk_cell B3.out 1
      have k2 : wr.cell? ⟨w.heap.size + 1 + 1 + 1 + 1, 2, none⟩ = some (.int .u8 y2) := blk_cell B3.out 2
      have k3 : wr.cell? ⟨w.heap.size + 1 + 1 + 1 + 1, 3, none⟩ = some (.int .u8 y3) := blk_cell B3.out 3
      have k4 : wr.cell? ⟨w.heap.size + 1 + 1 + 1 + 1, 4, none⟩ = some (.int .u8 y4) := blk_cell B3.out 4
      have k5 : wr.cell? ⟨w.heap.size + 1 + 1 + 1 + 1, 5, none⟩ = some (.int .u8 y5) := blk_cell B3.out 5
      have k6 : wr.cell? ⟨w.heap.size + 1 + 1 + 1 + 1, 6, none⟩ = some (.int .u8 y6) := blk_cell B3.out 6
      have k7 : wr.cell? ⟨w.heap.size + 1 + 1 + 1 + 1, 7, none⟩ = some (.int .u8 y7) := blk_cell B3.out 7
      have q0 : wr.cell? ⟨w.heap.size + 1 + 1 + 1, 0, none⟩ = some (.int .u8 0) := blk_cell B2.out 0
      have q1 : wr.cell? ⟨w.heap.size + 1 + 1 + 1, 1, none⟩ = some (.int .u8 0) := blk_cell B2.out 1
      have q2 : wr.cell? ⟨w.heap.size + 1 + 1 + 1, 2, none⟩ = some (.int .u8 0) := blk_cell B2.out 2
      have q3 : wr.cell? ⟨w.heap.size + 1 + 1 + 1, 3, none⟩ = some (.int .u8 0) := blk_cell B2.out 3
      have q4 : wr.cell? ⟨w.heap.size + 1 + 1 + 1, 4, none⟩ = some (.int .u8 0) := blk_cell B2.out 4
      have q5 : wr.cell? ⟨w.heap.size + 1 + 1 + 1, 5, none⟩ = some (.int .u8 0) := blk_cell B2.out 5
      have q6 : wr.cell? ⟨w.heap.size + 1 + 1 + 1, 6, none⟩ = some (.int .u8 0) := blk_cell B2.out 6
      have q7 : wr.cell? ⟨w.heap.size + 1 + 1 + 1, 7, none⟩ = some (.int .u8 0) := blk_cell B2.out 7
      have hf := fun i => blk_frozen B2.out i
      go_wp2
      refine bodyPost_ret (v := .agg #[.int .u8 y0, .int .u8 y1, .int .u8 y2, .int .u8 y3, .int .u8 y4, .int .u8 y5, .int .u8 y6, .int .u8 y7]) (by simp [results, Try.results69, go_sem, q0, q1, q2, q3, q4, q5, q6, q7]) rfl ⟨rfl, ?_⟩
      repeat (refine below_set ?_ (by omega))
      exact HB.out

theorem isW_sm3 {s : List Int} (hs : isSp s = true) {x : Int} (h : isW s x = true) : 0 ≤ x ∧ x ≤ 1024 := by
  have h1 := (isW_iff s x).1 h
  have h2 := isSp_prd hs
  omega

end Go.Proofs.Ytccolbomlgokiaa.P
