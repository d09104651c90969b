/- What the law FnWords needs, part 9: words, walks of functions (each says that a call returns what the plain Lean function beside it says), plain lemmas. -/
import Derived.Test.YtlfipjdjmpdblaaKFnWordsH
import Derived.Deep.Cut
set_option linter.unusedVariables false
set_option linter.unusedSimpArgs false
namespace Go.Proofs.Ytlfipjdjmpdblaa.P
open Go.RowKit Go.Proofs.YtlfipjdjmpdblaaW.PrintWords Go.Proofs.YtlfipjdjmpdblaaW.PrintLast Go.Proofs.YtlfipjdjmpdblaaW.PrintMore
def spec_l01DrawRadius.f (k : Nat) (l0 : List Int) : Option (List Int × Int × Int) := (spec_l01With.f k l0).bind fun bx => ((spec_l01From.f k l0).bind fun s1 => ((spec_l01Pick.f s1.1 s1.2.1 s1.2.2 [1, 2, 3, 8]).bind fun v => ((spec_l01Near.f s1.1 s1.2.1 s1.2.2 v.1).bind fun r => some (bx.1, bx.2.1, r.1))))
theorem lit_reads {w : World} : Kd.C (Kd.int .i64) (w.alloc (.cells #[.int .i64 1, .int .i64 2, .int .i64 3, .int .i64 8] 2)) (some ⟨w.heap.size, 0, none⟩) 4 [1, 2, 3, 8] :=
  Kd.C_of_reads (d := (0 : Int)) (h1 := fun _ => rfl) ⟨rfl, by omega, fun _ => ⟨_, rfl, fun j hj => by
    have hb := blk_new w (.cells #[.int .i64 1, .int .i64 2, .int .i64 3, .int .i64 8] 2)
    rw [add_plain, blk_cell hb]
    match j, hj with
    | 0, _ => rfl
    | 1, _ => rfl
    | 2, _ => rfl
    | 3, _ => rfl⟩⟩
theorem lit_lt {w : World} {o : Obj} : w.heap.size < (w.alloc o).heap.size := blk_lt (blk_new w o)
theorem lit_lt' {w : World} {o : Obj} : w.heap.size < (w.alloc o).drew.heap.size := lit_lt
theorem drad_at {w0 W W2 : World} (hb : Below W.heap.size W W2) (h : Below w0.heap.size w0 W) : Below w0.heap.size w0 W := h
theorem drad_pick {g : Nat} {b : List Int} {a hs v a3 h3 : Int} {w0 w : World} {A : Addr} (hI : IsS91 w0 w g b a hs) (hB : Below w0.heap.size w0 w) (hr : Kd.C (Kd.int .i64) w (some A) 4 [1, 2, 3, 8]) (hf : A.block ≠ g) (h : spec_l01Pick.f b a hs [1, 2, 3, 8] = some (v, a3, h3)) :
    Calls Try.prog 82 #[.pointer (some ⟨g, 0, none⟩), .slice (some A) 4 4] w fun e w' => e = .returned (.int .i64 v) ∧ Below w0.heap.size w0 w' := by
  refine (spec_l01Pick.calls g b a hs (some A) 4 [1, 2, 3, 8] v a3 h3 w0 w hI hB hr (by simp) (by rintro ad h _; cases h; exact hf) h).mono ?_
  rintro e w' ⟨h1, _, h2, _⟩
  exact ⟨h1, h2⟩
theorem drad_near {g : Nat} {b : List Int} {a hs v r a4 h4 : Int} {w0 w : World} (hI : IsS91 w0 w g b a hs) (hB : Below w0.heap.size w0 w) (h : spec_l01Near.f b a hs v = some (r, a4, h4)) :
    Calls Try.prog 80 #[.pointer (some ⟨g, 0, none⟩), .int .i64 v] w fun e w' => e = .returned (.int .i64 r) ∧ Below w0.heap.size w0 w' := by
  refine (spec_l01Near.calls g b a hs v r a4 h4 w0 w hI hB h).mono ?_
  rintro e w' ⟨h1, _, h2, _⟩
  exact ⟨h1, h2⟩
theorem drad_new (k : Nat) (A0 : Option Addr) (c0 : Nat) (l0 r1 : List Int) (r2 r3 : Int) (w : World) (hr0 : Kd.C (Kd.int .u8) w A0 l0.length l0) (hc0 : l0.length ≤ c0) (h : spec_l01From.f k l0 = some (r1, r2, r3)) :
    Calls Try.prog 78 #[.slice A0 l0.length c0] w fun e w' => ∃ g : Nat, e = .returned (.pointer (some ⟨g, 0, none⟩)) ∧ IsS91 w w' g r1 r2 r3 ∧ Below w.heap.size w w' := by
  refine (spec_l01From.calls k A0 c0 l0 r1 r2 r3 w w (Below.refl _ _) hr0 hc0 h).mono ?_
  rintro e w' ⟨g, he, hi, hb, _⟩
  exact ⟨g, he, hi, hb⟩
set_option maxHeartbeats 8000000 in
set_option maxRecDepth 100000 in
theorem spec_l01DrawRadius.calls (k : Nat) (A0 : Option Addr) (c0 : Nat) (l0 : List Int) (r1 : List Int) (r2 : Int) (r3 : Int) (w : World) (hr0 : Kd.C (Kd.int .u8) w A0 l0.length l0) (hc0 : l0.length ≤ c0) (h : spec_l01DrawRadius.f k l0 = some (r1, r2, r3)) :
    Calls Try.prog 68 #[.slice A0 l0.length c0] w fun e w' => ∃ v0_ : Value, e = .returned (.tuple #[.agg #[v0_], .int .i64 r2, .int .i64 r3]) ∧ Kd.R (Kd.int .i64) 2 w' w.heap.size (fun _ => True) v0_ r1 ∧ Below w.heap.size w w' := by
  have hu26 := Try.underlying26
  have HR0 := Aside0.mk hr0
  have HC0 := Aside0.mk hc0
  clear hr0 hc0
  have HB := Aside0.mk (Below.refl w.heap.size w)
  unfold spec_l01DrawRadius.f at h
  obtain ⟨⟨x, u, u2⟩, A1, h⟩ := Option.bind_eq_some_iff.mp h
  obtain ⟨⟨b, a, hs⟩, A2, h⟩ := Option.bind_eq_some_iff.mp h
  obtain ⟨⟨v, a3, h3⟩, A3, h⟩ := Option.bind_eq_some_iff.mp h
  obtain ⟨⟨r, a4, h4⟩, A4, h⟩ := Option.bind_eq_some_iff.mp h
  dsimp only at A3 A4 h
  simp only [Option.some.injEq, Prod.mk.injEq] at h
  obtain ⟨rfl, rfl, rfl⟩ := h
  replace A1 := Aside0.mk A1
  replace A2 := Aside0.mk A2
  replace A3 := Aside0.mk A3
  replace A4 := Aside0.mk A4
  go_enter Try.func68, Try.ntmps68
  go_upto_region 2 with (first | ((with_reducible refine gate_dst (N := 2) rfl ?_); refine box_event ?hg (N := 2) ?hd (cs := #[.slice none 0 0]) (t := 26) ?hr ?_; (case hd => rfl); (case hg => rfl); (case hr => first | (go_simp; done) | (go_simp; rfl)); intro gb101 hg w3 hbox hb; have n0_ := Aside0.mk (below_step (gb_ HB.out) hb); have n1_ := Aside0.mk (hbox); have n2_ := Aside0.mk ((by rw [hg]; exact (below_size (gb_ HB.out)) : w.heap.size ≤ gb101)); have n3_ := Aside0.mk ((by rw [hg]; exact (below_size (gb_ HB.out)) : w.heap.size ≤ gb101)); clear HB; have HB := n0_; have BK101 := n1_; have GW101 := n2_; have GE101 := n3_; clear n0_ n1_ n2_ n3_ hb hbox hg) | ((with_reducible refine gate_callee (f := 55) rfl ?_); refine goesL_ (some 10) rfl rfl Try.func55 (by kernel_rfl) rfl #[.slice A0 l0.length c0] rfl (by (try simp only [List.map_toArray, List.map_cons, List.map_nil]); first | done | rfl | (simp only [List.length_drop, List.length_take]; rfl)) ?_; (with_reducible refine (spec_l01With.calls k _ _ l0 x u u2 _ ?side1 ?side2 A1.out).mono ?_); (case side1 => repeat (first | exact (Kd.C_below HR0.out HB.out) | (with_reducible refine Kd.C_alloc ?_ _) | (with_reducible refine Kd.C_drewN ?_ _) | (with_reducible refine Kd.C_drew ?_))); (case side2 => exact HC0.out); rintro e w4 ⟨v103, rfl, ho0, hb⟩; refine ⟨_, rfl, ?_⟩; have n0_ := Aside0.mk (Kd.R_lower ho0 (below_size (gb_ HB.out))); have n1_ := Aside0.mk (blk_below (g := gb101) (o := .cells #[.slice none 0 0] 26 (0, 0)) (bb_ BK101.out) hb); have n2_ := Aside0.mk (below_step (gb_ HB.out) hb); clear BK101 HB; have HO104 := n0_; have BK101 := n1_; have HB := n2_; clear n0_ n1_ n2_; (try clear hb); (try clear hb2); (try clear hk); (try clear hi); (try clear ho0)) | ((with_reducible refine gate_dst (N := 5) rfl ?_); refine box_event ?hg (N := 5) ?hd (cs := #[.slice none 0 0]) (t := 26) ?hr ?_; (case hd => rfl); (case hg => rfl); (case hr => first | (go_simp; done) | (go_simp; rfl)); intro gb107 hg w5 hbox hb; have n0_ := Aside0.mk (Kd.R_below (rb_ HO104.out) hb); have n1_ := Aside0.mk (blk_below (g := gb101) (o := .cells #[.slice none 0 0] 26 (0, 0)) (bb_ BK101.out) hb); have n2_ := Aside0.mk (below_step (gb_ HB.out) hb); have n3_ := Aside0.mk (hbox); have n4_ := Aside0.mk ((by rw [hg]; exact (below_size (gb_ HB.out)) : w.heap.size ≤ gb107)); have n5_ := Aside0.mk ((by rw [hg]; exact (below_size (gb_ HB.out)) : w.heap.size ≤ gb107)); have n6_ := Aside0.mk ((by rw [hg]; exact Nat.ne_of_lt (blk_lt (g := gb101) (o := .cells #[.slice none 0 0] 26 (0, 0)) (bb_ BK101.out)) : gb101 ≠ gb107)); have n7_ := Aside0.mk ((by rw [hg]; exact Nat.ne_of_gt (blk_lt (g := gb101) (o := .cells #[.slice none 0 0] 26 (0, 0)) (bb_ BK101.out)) : gb107 ≠ gb101)); clear HO104 BK101 HB; have HO104 := n0_; have BK101 := n1_; have HB := n2_; have BK107 := n3_; have GW107 := n4_; have GE107 := n5_; have NB101_107 := n6_; have NB107_101 := n7_; clear n0_ n1_ n2_ n3_ n4_ n5_ n6_ n7_ hb hbox hg; obtain ⟨Ao6, co6, eo6⟩ := Kd.R_slice HO104.out; subst eo6; have hnb7 := NB107_101.out; have hnc7 := NB101_107.out; have hcz8_0 : w5.cell? ⟨gb107, 0, none⟩ = some (.slice none 0 0) := (blk_cell BK107.out 0).trans rfl; have hfz8_0 := blk_frozen BK107.out 0; have hcz9_0 : w5.cell? ⟨gb101, 0, none⟩ = some (.slice none 0 0) := (blk_cell BK101.out 0).trans rfl; have hfz9_0 := blk_frozen BK101.out 0))
  have HR1 : Aside0 (Kd.R (Kd.int .i64) 2 (w5.setCell ⟨gb107, 0, none⟩ (.slice Ao6 x.length co6)) w.heap.size (fun _ => True) (.slice Ao6 x.length co6) x) := ⟨Kd.R_mono (Kd.R_far (p := ⟨gb107, 0, none⟩) (Kd.R_types HO104.out BK107.out (by decide)) (fun _ hk => hk.2) _) (fun _ _ => trivial)⟩
  have BK1 : Aside0 ((w5.setCell ⟨gb107, 0, none⟩ (.slice Ao6 x.length co6)).heap[gb101]? = some (.cells #[.slice none 0 0] 26 (0, 0))) := ⟨blk_far BK101.out (p := ⟨gb107, 0, none⟩) NB101_107.out _⟩
  have BK5 : Aside0 ((w5.setCell ⟨gb107, 0, none⟩ (.slice Ao6 x.length co6)).heap[gb107]? = some (.cells #[.slice Ao6 x.length co6] 26 (0, 0))) := ⟨blk_put (cs := #[.slice none 0 0]) BK107.out 0 _ rfl⟩
  have HB1 : Aside0 (Below w.heap.size w (w5.setCell ⟨gb107, 0, none⟩ (.slice Ao6 x.length co6))) := ⟨below_set HB.out GE107.out⟩
  clear HO104 BK101 BK107 HB hcz8_0 hfz8_0 hcz9_0 hfz9_0
  generalize w5.setCell ⟨gb107, 0, none⟩ (.slice Ao6 x.length co6) = W1 at *
  have HA := Aside0.mk (Below.refl W1.heap.size W1)
  have C5 := Aside0.mk ((blk_cell BK5.out 0).trans rfl : W1.cell? ⟨gb107, 0, none⟩ = some (.slice Ao6 x.length co6))
  have hc1 : W1.cell? ⟨gb101, 0, none⟩ = some (.slice none 0 0) := (blk_cell BK1.out 0).trans rfl
  have hf1 : W1.frozen? ⟨gb101, 0, none⟩ = false := blk_frozen BK1.out 0
  go_cut [3, 4] from 8 (fun s3 s4 wc => s3 = .int .i64 u ∧ s4 = .int .i64 r ∧ Aside0 (Below w.heap.size w wc) ∧ Aside0 (wc.heap[gb101]? = some (.cells #[.slice Ao6 x.length co6] 26 (0, 0))) ∧ Aside0 (Kd.R (Kd.int .i64) 2 wc w.heap.size (fun _ => True) (.slice Ao6 x.length co6) x))
  case first =>
    rename_i hJ hK
    go_region_held3 (fun w' => w'.cell? ⟨gb107, 0, none⟩ = some (.slice Ao6 x.length co6))
      (first | exact (blk_cell (blk_far (blk_below BK5.out HA.out) (p := ⟨gb101, 0, none⟩) NB107_101.out _) 0).trans rfl | exact ((gb_ HA.out).cell (World.block_lt_of_cell? _ _ C5.out)).trans C5.out)
      (first
        | (go_at_call 80; refine (drad_near (r := r) (a4 := a4) (h4 := h4) (by repeat (first | (with_reducible first | exact HS3.out | apply IsS91.alloc | apply IsS91.drewN | apply IsS91.drew) | exact HS3.out)) (gb_ HQ3.out) A4.out).mono ?_; rintro e wn ⟨rfl, hb⟩; have HA4 := Aside0.mk (below_step HAs.out hb); clear HA; have HA := HA4; clear HA4; have BKz := Aside0.mk (blk_below BK1.out HA.out); have hcz := ((blk_cell BKz.out 0).trans rfl : wn.cell? ⟨gb101, 0, none⟩ = some (.slice none 0 0)); have hfz := blk_frozen BKz.out 0)
        | (go_at_call 82; refine (drad_pick (b := b) (a := a) (hs := hs) (v := v) (a3 := a3) (h3 := h3) (by repeat (first | (with_reducible first | exact HS2.out | apply IsS91.alloc | apply IsS91.drewN | apply IsS91.drew) | exact HS2.out)) (gb_ HQ2.out) (by first | exact lit_reads | exact Kd.C_drew lit_reads | (repeat (first | exact HC.out | (with_reducible refine Kd.C_alloc ?_ _) | (with_reducible refine Kd.C_drewN ?_ _) | (with_reducible refine Kd.C_drew ?_)))) (by first | exact HNE.out | exact Nat.ne_of_gt (IsS91.lt HS2.out)) A3.out).mono ?_; rintro e wn ⟨rfl, hb⟩; have HS3 := Aside0.mk (IsS91.below (by repeat (first | (with_reducible first | exact HS1.out | apply IsS91.alloc | apply IsS91.drewN | apply IsS91.drew) | exact HS1.out)) hb); have HQ3 := Aside0.mk (below_step (gb_ HQ1.out) hb); have HA3 := Aside0.mk (below_step (gb_ HA0.out) hb); clear HA; have HA := HA3; clear HA3)
        | (go_at_call 78; (have HZ := HS1); (with_reducible refine (drad_new k _ _ l0 b a hs _ ?r0 HC0.out A2.out).mono ?_); (case r0 => exact c2_ HR0 (Aside0.mk (below_step HB1.out (gb_ HA.out)))); rintro e wn ⟨g2, rfl, hi, hb⟩; clear HZ; have HS2 := Aside0.mk hi; have HQ2 := Aside0.mk hb; (first | have HNE := Aside0.mk (Nat.ne_of_lt (Nat.lt_of_lt_of_le HL.out (Nat.le_trans (below_size (gb_ (Below.refl _ _))) (IsS91.ge hi)))) | have HNE := Aside0.mk (Nat.ne_of_lt (Nat.lt_of_lt_of_le lit_lt (IsS91.ge hi))) | have HNE := Aside0.mk (Nat.ne_of_lt (Nat.lt_of_lt_of_le lit_lt' (IsS91.ge hi))) | skip); (first | (have HC2 := Aside0.mk (Kd.C_below (show Kd.C (Kd.int .i64) _ _ _ _ from by (repeat (first | exact HC.out | (with_reducible refine Kd.C_alloc ?_ _) | (with_reducible refine Kd.C_drewN ?_ _) | (with_reducible refine Kd.C_drew ?_)))) hb); clear HC; have HC := HC2) | have HC := Aside0.mk (Kd.C_below lit_reads hb) | have HC := Aside0.mk (Kd.C_below (Kd.C_drew lit_reads) hb) | skip); have HA0 := HA; have HA' := Aside0.mk (below_step (gb_ HA.out) hb); clear HA; have HA := HA'; clear HA')
        | (go_at_call 78; (with_reducible refine (drad_new k _ _ l0 b a hs _ ?r0 HC0.out A2.out).mono ?_); (case r0 => exact c2_ HR0 (Aside0.mk (below_step HB1.out (gb_ HA.out)))); rintro e wn ⟨g1, rfl, hi, hb⟩; have HS1 := Aside0.mk hi; have HQ1 := Aside0.mk hb; have HAs := Aside0.mk (drad_at hb (gb_ HA.out)); (first | have HL := Aside0.mk (Nat.lt_of_lt_of_le lit_lt (below_size hb)) | have HL := Aside0.mk (Nat.lt_of_lt_of_le lit_lt' (below_size hb)) | skip); (first | have HC := Aside0.mk (Kd.C_below lit_reads hb) | have HC := Aside0.mk (Kd.C_below (Kd.C_drew lit_reads) hb) | skip); have HA' := Aside0.mk (below_step (gb_ HA.out) hb); clear HA; have HA := HA'; clear HA'))
    all_goals
      first
        | refine hK _ _ (Met.intro (hJ _ _ ?_))
        | refine hJ _ _ ?_
      (repeat apply Exists.intro)
      refine ⟨?rel, rfl⟩
      case rel => exact ⟨rfl, rfl, ⟨below_set (below_step HB1.out HA.out) GE101.out⟩, ⟨blk_put (cs := #[.slice none 0 0]) BKz.out 0 _ rfl⟩, ⟨Kd.R_mono (Kd.R_far (p := ⟨gb101, 0, none⟩) (Kd.R_types (Kd.R_below HR1.out HA.out) BKz.out (by decide)) (fun _ hk => hk.2) _) (fun _ _ => trivial)⟩⟩
  clear HA C5 hc1 hf1 BK1 BK5 HR1
  obtain ⟨rfl, rfl, HBz, BKz, HRz⟩ := hcut
  go_wp2
  refine bodyPost_ret (results_ctt rfl _ _ gb101 26 #[.slice Ao6 x.length co6] (0, 0) _ rfl (by (with_reducible repeat (first | refine blk_drewN ?_ _ | refine blk_drew ?_ | refine blk_alloc ?_ _)); exact BKz.out) Try.underlying26 rfl (by kernel_rfl)) rfl ?_
  exact ⟨_, rfl, HRz.out, gb_ HBz.out⟩
end Go.Proofs.Ytlfipjdjmpdblaa.P
namespace Go.Proofs.Ytlfipjdjmpdblaa.P
open Go.RowKit Go.Proofs.YtlfipjdjmpdblaaW.PrintWords Go.Proofs.YtlfipjdjmpdblaaW.PrintLast Go.Proofs.YtlfipjdjmpdblaaW.PrintMore
attribute [local go_sem] max2_int min2_int max_two min_two max_three min_three max_four min_four
set_option linter.unusedVariables false
set_option linter.unusedSimpArgs false
def spec_DrawBallOf.f (k : Nat) (l0 : List Int) : Option (List Int × Int × Int) := (spec_l01DrawRadius.f k l0).bind fun bt102 => (some (bt102.1, bt102.2.1, bt102.2.2))
set_option maxHeartbeats 8000000 in
set_option maxRecDepth 100000 in
theorem spec_DrawBallOf.calls (k : Nat) (A0 : Option Addr) (c0 : Nat) (l0 : List Int) (r1 : List Int) (r2 : Int) (r3 : Int) (w : World) (hr0 : Kd.C (Kd.int .u8) w A0 l0.length l0) (hc0 : l0.length ≤ c0) (h : spec_DrawBallOf.f k l0 = some (r1, r2, r3)) :
  Calls Try.prog 22 #[.slice A0 l0.length c0] w fun e w' => ∃ v0_ : Value, e = .returned (.tuple #[.agg #[v0_], .int .i64 r2, .int .i64 r3]) ∧ Kd.R (Kd.int .i64) 2 w' w.heap.size (fun _ => True) v0_ r1 ∧ Below w.heap.size w w' := by
 have hu26 := Try.underlying26
 have HR0 := Aside0.mk hr0
 have HC0 := Aside0.mk hc0
 clear hr0 hc0
 have HB := Aside0.mk (Below.refl w.heap.size w)
 have H : ((spec_l01DrawRadius.f k l0).bind fun bt102 => (some (bt102.1, bt102.2.1, bt102.2.2))) = some (r1, r2, r3) := h
 clear h
 replace H := Option.bind_eq_some_iff.mp H
 obtain ⟨⟨t102, t105, t106⟩, A20, H⟩ := H
 replace H : (some (t102, t105, t106)) = some (r1, r2, r3) := H
 have A2 := Aside0.mk A20
 clear A20
 simp only [Option.some.injEq, Prod.mk.injEq] at H
 obtain ⟨rfl, rfl, rfl⟩ := H
 go_enter Try.func22, Try.ntmps22
 go_wp2_with (first | ((with_reducible refine gate_dst (N := 2) rfl ?_); refine bx_ (N := 2) (cs := #[.slice none 0 0]) (t := 26) rfl rfl ?_; intro gb101 hg w3 hbox hb; have n0_ := b1_ HB hb; have n1_ := Aside0.mk (hbox); have n2_ := ge_ hg HB; have n3_ := ge_ hg HB; clear HB; have HB := n0_; have BK101 := n1_; have GW101 := n2_; have GE101 := n3_; clear n0_ n1_ n2_ n3_ hb hbox hg) | ((with_reducible refine gate_callee (f := 68) rfl ?_); refine gl_ (some 10) rfl rfl Try.func68 #[.slice A0 l0.length c0] rfl ?_; (with_reducible refine (spec_l01DrawRadius.calls k _ _ l0 t102 t105 t106 _ ?side1 ?side2 A2.out).mono ?_); (case side1 => exact c2_ HR0 HB); (case side2 => exact HC0.out); rintro e w4 ⟨v103, rfl, ho0, hb⟩; refine ⟨_, rfl, ?_⟩; have HO104 := Aside0.mk (Kd.R_lower ho0 (below_size (gb_ HB.out))); replace BK101 := a2_ BK101 hb; replace HB := b1_ HB hb; (try clear hb); (try clear hb2); (try clear hk); (try clear hi); (try clear ho0)) | ((with_reducible refine gate_dst (N := 5) rfl ?_); refine bx_ (N := 5) (cs := #[.slice none 0 0]) (t := 26) rfl rfl ?_; intro gb107 hg w5 hbox hb; have n0_ := a1_ HO104 hb; have n1_ := a2_ BK101 hb; have n2_ := b1_ HB hb; have n3_ := Aside0.mk (hbox); have n4_ := ge_ hg HB; have n5_ := ge_ hg HB; have n6_ := nl_ hg BK101; have n7_ := nr_ hg BK101; clear HO104 BK101 HB; have HO104 := n0_; have BK101 := n1_; have HB := n2_; have BK107 := n3_; have GW107 := n4_; have GE107 := n5_; have NB101_107 := n6_; have NB107_101 := n7_; clear n0_ n1_ n2_ n3_ n4_ n5_ n6_ n7_ hb hbox hg; obtain ⟨Ao6, co6, eo6⟩ := Kd.R_slice HO104.out; subst eo6; have hnb7 := NB107_101.out; have hnc7 := NB101_107.out; have hcz8_0 := hz_ BK107; have hfz8_0 := blk_frozen BK107.out 0; have hcz9_0 := hz_ BK101; have hfz9_0 := blk_frozen BK101.out 0))
 refine bodyPost_ret (results_ctt rfl _ _ gb101 26 #[.slice Ao6 t102.length co6] (0, 0) _ rfl (by (with_reducible repeat (first | refine blk_drewN ?_ _ | refine blk_drew ?_ | refine blk_alloc ?_ _)); refine blk_put (cs := #[.slice none 0 0]) ?_ 0 _ rfl; (with_reducible repeat (first | refine blk_drewN ?_ _ | refine blk_drew ?_ | refine blk_alloc ?_ _)); refine blk_far ?_ NB101_107.out _; (with_reducible repeat (first | refine blk_drewN ?_ _ | refine blk_drew ?_ | refine blk_alloc ?_ _)); exact BK101.out) Try.underlying26 rfl (by kernel_rfl)) rfl ?_
 exact ⟨_, t5_, by (with_reducible repeat (first | apply Kd.R_alloc | apply Kd.R_drewN | apply Kd.R_drew)); exact Kd.R_mono (Kd.R_far (p := ⟨gb101, 0, none⟩) (Kd.R_far (p := ⟨gb107, 0, none⟩) (Kd.R_types (Kd.R_types HO104.out BK107.out (by decide)) BK101.out (by decide)) (fun _ hk => hk.1.2) (.slice Ao6 t102.length co6)) (fun _ hk => hk.2) (.slice Ao6 t102.length co6)) (fun _ hk => trivial), gb_ HB.out⟩
end Go.Proofs.Ytlfipjdjmpdblaa.P
