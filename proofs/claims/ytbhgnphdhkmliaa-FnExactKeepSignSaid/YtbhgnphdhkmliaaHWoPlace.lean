/- A space without a place: what the program's withoutPlace returns. -/
import Derived.Test.YtbhgnphdhkmliaaHConcat
import Derived.Test.YtbhgnphdhkmliaaHDig
import Derived.Test.YtbhgnphdhkmliaaQBase
import Derived.BigQuiet
import Derived.IntWalk
set_option linter.unusedVariables false
set_option linter.unusedSimpArgs false
namespace Go.Proofs.Ytbhgnphdhkmliaa.P
open Go.RowKit Go.Proofs.YtbhgnphdhkmliaaW.PrintWords Go.Proofs.YtbhgnphdhkmliaaW.PrintLast Go.Proofs.YtbhgnphdhkmliaaW.PrintMore CC

set_option maxHeartbeats 3000000 in
set_option maxRecDepth 100000 in
theorem withoutPlace_calls (A : Option Addr) (c : Nat) (s : List Int) (n : Nat) (w : World) (hr : Kd.C (Kd.int .i64) w A s.length s) (hc : s.length ≤ c) (hn : n < s.length) (hsl : s.length ≤ 8) :
    Calls Try.prog 60 #[.agg #[.slice A s.length c], .int .i64 (n : Int)] w
      fun x w' => ∃ v, x = .returned (.agg #[v]) ∧ Kd.R (Kd.int .i64) 2 w' w.heap.size (fun _ => True) v (s.eraseIdx n) ∧ Below w.heap.size w w' := by
  have huS := Try.underlying26
  have HR := Aside0.mk hr
  clear hr
  obtain ⟨i0, hi, _, hsz, _⟩ := info_parts infoI
  obtain ⟨hcut1, hA1, hC1⟩ := print_take_of (P := Try.prog) (Value.int .i64) 0 22 2 .i64 Try.underlying22 hi hsz A c s (n : Int) (by omega) (by omega) hc
  obtain ⟨A2, hcut2, hA2, hC2⟩ := print_drop_of (P := Try.prog) (Value.int .i64) 0 22 2 .i64 Try.underlying22 hi hsz A c s ((n : Int) + 1) (by omega) (by omega) hc
  have HR1 := Aside0.mk (Kd.C_of_reads (h1 := fun _ => rfl) (hA1 _ (Kd.reads_of_C HR.out)))
  have HR2 := Aside0.mk (Kd.C_of_reads (h1 := fun _ => rfl) (hA2 _ (Kd.reads_of_C HR.out)))
  have HE : Aside0 (s.take (n : Int).toNat ++ s.drop ((n : Int) + 1).toNat = s.eraseIdx n) := ⟨by rw [List.eraseIdx_eq_take_drop_succ]; rfl⟩
  have hl1 : (s.take (n : Int).toNat).length ≤ 8 := by rw [List.length_take]; omega
  have hl2 : (s.drop ((n : Int) + 1).toNat).length ≤ 8 := by rw [List.length_drop]; omega
  have ew : IntKind.i64.wrap ((n : Int) + 1) = (n : Int) + 1 := IntWalk.i64_in _ (by omega)
  clear hA1 hA2 hi hsz
  generalize s.take (n : Int).toNat = s1 at *
  generalize s.drop ((n : Int) + 1).toNat = s2 at *
  generalize hc2g : c - ((n : Int) + 1).toNat = c2 at *
  clear hc2g
  go_enter Try.func60, Try.ntmps60
  go_wp2_with fail
  have K0 : ((w.alloc (.cells #[.slice A s.length c] 26)).alloc (.cells #[.slice none 0 0] 26)).heap[w.heap.size]? = some (.cells #[.slice A s.length c] 26 (0, 0)) := blk_alloc (blk_new _ _) _
  have K1 : ((w.alloc (.cells #[.slice A s.length c] 26)).alloc (.cells #[.slice none 0 0] 26)).heap[w.heap.size + 1]? = some (.cells #[.slice none 0 0] 26 (0, 0)) := by have h := blk_new (w.alloc (.cells #[.slice A s.length c] 26)) (.cells #[.slice none 0 0] 26); rwa [World.size_alloc] at h
  have hB : Below w.heap.size w ((w.alloc (.cells #[.slice A s.length c] 26)).alloc (.cells #[.slice none 0 0] 26)) := below_alloc ((Below.refl _ _).alloc (Nat.le_refl _) _) _
  have c0 := blk_cell K0 0
  have K1 := Aside0.mk K1
  have HB := Aside0.mk hB
  clear K0 hB
  generalize (w.alloc (.cells #[.slice A s.length c] 26)).alloc (.cells #[.slice none 0 0] 26) = W at *
  have hBW : Below W.heap.size W (W.alloc (.cells #[.slice A s1.length c, .slice A2 s2.length c2] 22)).drew := below_drew ((Below.refl _ _).alloc (Nat.le_refl _) _)
  have HBW := Aside0.mk hBW
  have c0b := pw_cell_below hBW c0
  have g0 : (W.alloc (.cells #[.slice A s1.length c, .slice A2 s2.length c2] 22)).drew.cell? ⟨W.heap.size, 0, none⟩ = some (.slice A s1.length c) := blk_cell (blk_drew (blk_new W _)) 0
  have g1 : (W.alloc (.cells #[.slice A s1.length c, .slice A2 s2.length c2] 22)).drew.cell? ⟨W.heap.size, 1, none⟩ = some (.slice A2 s2.length c2) := blk_cell (blk_drew (blk_new W _)) 1
  have G0 := Aside0.mk g0
  have G1 := Aside0.mk g1
  have C0 := Aside0.mk c0b
  clear g0 g1 hBW c0b
  go_region_held3 (fun w' => w'.cell? ⟨w.heap.size, 0, none⟩ = some (.slice A s.length c)) (first | exact c0 | exact C0.out | exact pw_cell_below hb C0.out | exact (cell_far (p := ⟨w.heap.size + 1, _, none⟩) (Nat.ne_of_lt (Nat.lt_succ_self _)) _).trans (pw_cell_below hb C0.out))
    (first | (go_at_call 38; refine (concat_calls W.heap.size A c s1 A2 c2 s2 _ (Kd.C_below HR1.out (below_then HB.out HB.out.size HBW.out)) hC1 (by omega) (Kd.C_below HR2.out (below_then HB.out HB.out.size HBW.out)) hC2 (by omega) G0.out G1.out).mono ?_; rintro e w' ⟨v, rfl, hR, hb⟩; obtain ⟨A3, c3, e3⟩ := Kd.R_slice hR; subst e3; have hK1 := blk_below (blk_drew (blk_alloc K1.out (.cells #[.slice A s1.length c, .slice A2 s2.length c2] 22))) hb; have hk1 := blk_cell hK1 0; have hf1 := blk_frozen hK1 0; have HK1 := Aside0.mk hK1; clear hK1))
  have hB2 := below_then (below_then HB.out HB.out.size HBW.out) (by have h1 := HB.out.size; have h2 := HBW.out.size; omega) hb
  have hR2 : Kd.R (Kd.int .i64) 2 w' w.heap.size (fun _ => True) (.slice A3 (s1.length + s2.length) c3) (s.eraseIdx n) := by
    rw [← HE.out]
    have h := Kd.R_lower hR (show w.heap.size ≤ _ by have h1 := HB.out.size; have h2 := HBW.out.size; omega)
    rwa [List.length_append] at h
  have hR3 := Kd.R_far (p := ⟨w.heap.size + 1, 0, none⟩) (Kd.R_types hR2 HK1.out (by decide)) (fun _ hk => hk.2) (.slice A3 (s1.length + s2.length) c3)
  have R3 := Aside0.mk (Kd.R_mono hR3 (fun _ _ => trivial))
  have hB3 : Below w.heap.size w (w'.setCell ⟨w.heap.size + 1, 0, none⟩ (.slice A3 (s1.length + s2.length) c3)) := below_set hB2 (by omega)
  have K3 := Aside0.mk (blk_put (cs := #[.slice none 0 0]) (cs' := #[.slice A3 (s1.length + s2.length) c3]) HK1.out 0 (.slice A3 (s1.length + s2.length) c3) rfl)
  have B3 := Aside0.mk hB3
  go_wp2
  refine bodyPost_ret (results_cell_row rfl _ _ (w.heap.size + 1) 26 #[.slice A3 (s1.length + s2.length) c3] (0, 0) _ rfl K3.out huS rfl (by kernel_rfl)) rfl ?_
  exact ⟨_, rfl, R3.out, B3.out⟩
end Go.Proofs.Ytbhgnphdhkmliaa.P
