/- A space, and whether it is one: what the program's limitedSpace returns. -/
import Derived.Test.YtbhgnphdhkmliaaHThose0
import Derived.Test.YtbhgnphdhkmliaaQWords
import Derived.BigQuiet
set_option linter.unusedVariables false
set_option linter.unusedSimpArgs false
namespace Go.Proofs.Ytbhgnphdhkmliaa.P
open Go.RowKit Go.Proofs.YtbhgnphdhkmliaaW.PrintWords Go.Proofs.YtbhgnphdhkmliaaW.PrintLast Go.Proofs.YtbhgnphdhkmliaaW.PrintMore CC

/-- A row of one number that a call has just laid. -/
theorem C_box {W : World} {gb : Nat} {q : Int} (h : W.heap[gb]? = some (.cells #[.int .i64 q] 2 (0, 0))) : Kd.C (Kd.int .i64) W (some ⟨gb, 0, none⟩) 1 [q] := by
  refine Kd.C_of_reads (d := 0) (h1 := fun _ => rfl) ⟨rfl, by omega, fun _ => ⟨_, rfl, fun j hj => ?_⟩⟩
  obtain rfl : j = 0 := by omega
  exact blk_cell h 0

set_option maxHeartbeats 3000000 in
set_option maxRecDepth 100000 in
theorem limited_calls (A : Option Addr) (c : Nat) (s : List Int) (w : World) (hr : Kd.C (Kd.int .i64) w A s.length s) (hc : s.length ≤ c) (hsl : s.length ≤ 1048576) :
    Calls Try.prog 37 #[.slice A s.length c] w
      fun e w' => e = .returned (.tuple #[.agg #[.slice A s.length c], .bool (isSp s)]) ∧ Below w.heap.size w w' := by
  have huS := Try.underlying26
  have HR := Aside0.mk hr
  obtain ⟨ki, hki⟩ := (Q.isSpace_ev s).rounds
  have HKI := Aside0.mk hki
  clear hr hki
  go_enter Try.func37, Try.ntmps37
  go_wp2_with fail
  have k0 : ((w.alloc (.cells #[.slice none 0 0] 26)).alloc (.cells #[.slice A s.length c] 26)).heap[w.heap.size]? = some (.cells #[.slice none 0 0] 26 (0, 0)) := blk_alloc (blk_new _ _) _
  have k1 : ((w.alloc (.cells #[.slice none 0 0] 26)).alloc (.cells #[.slice A s.length c] 26)).heap[w.heap.size + 1]? = some (.cells #[.slice A s.length c] 26 (0, 0)) := by have h := blk_new (w.alloc (.cells #[.slice none 0 0] 26)) (.cells #[.slice A s.length c] 26); rwa [World.size_alloc] at h
  have hB : Below w.heap.size w ((w.alloc (.cells #[.slice none 0 0] 26)).alloc (.cells #[.slice A s.length c] 26)) := below_alloc ((Below.refl _ _).alloc (Nat.le_refl _) _) _
  have c1 := blk_cell k1 0
  have K0 := Aside0.mk k0
  have HB := Aside0.mk hB
  clear k0 k1 hB
  generalize (w.alloc (.cells #[.slice none 0 0] 26)).alloc (.cells #[.slice A s.length c] 26) = W at *
  go_region_held3 (fun w' => w'.cell? ⟨w.heap.size + 1, 0, none⟩ = some (.slice A s.length c))
    (first | exact c1 | exact pw_cell_below hb c1 | exact (cell_far (p := ⟨w.heap.size, _, none⟩) (Nat.ne_of_gt (Nat.lt_succ_self _)) _).trans (pw_cell_below hb c1))
    (first | (go_at_call 76; refine (impl_IsSpace.calls ki A c s (isSp s) _ (Kd.C_below HR.out (below_drew HB.out)) hc HKI.out).mono ?_; rintro e w' ⟨rfl, hb⟩; have hK := blk_below (blk_drew K0.out) hb; have hk := blk_cell hK 0; have hf := blk_frozen hK 0; have HK := Aside0.mk hK; clear hK))
  have KX := Aside0.mk (blk_put (cs := #[.slice none 0 0]) (cs' := #[.slice A s.length c]) HK.out 0 (.slice A s.length c) rfl)
  have BX := Aside0.mk (below_set (g := w.heap.size) (j := 0) (v := .slice A s.length c) (below_then (below_drew HB.out) (below_drew HB.out).size hb) (Nat.le_refl _))
  clear hb hk hf HK K0 HB
  go_wp2
  refine bodyPost_ret (results_ct rfl _ _ w.heap.size 26 #[.slice A s.length c] (0, 0) _ rfl KX.out huS rfl (by kernel_rfl)) rfl ?_
  exact ⟨rfl, BX.out⟩
end Go.Proofs.Ytbhgnphdhkmliaa.P
