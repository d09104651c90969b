/- The needed words: what the program's NeededWords returns. -/
import Derived.Test.YthcodiknghfmmaaHNeededC
import Derived.Test.YthcodiknghfmmaaHTimes
import Derived.Test.YthcodiknghfmmaaHDel
import Derived.Test.YthcodiknghfmmaaHClone
import Derived.Test.YthcodiknghfmmaaQCover
import Derived.RangeFuncBox
set_option linter.unusedVariables false
set_option linter.unusedSimpArgs false
namespace Go.Proofs.Ythcodiknghfmmaa.P
open Go.RowKit Go.Proofs.YthcodiknghfmmaaW.PrintWords Go.Proofs.YthcodiknghfmmaaW.PrintLast Go.Proofs.YthcodiknghfmmaaW.PrintMore CC

theorem box_cell {W : World} {k t : Nat} {v : Value} (f : W.heap[k]? = some (.cells #[v] t (0, 0))) : W.cell? ⟨k, 0, none⟩ = some v := blk_cell f 0
theorem far2 {W : World} {k k' t t' : Nat} {u u' : Value} (f : W.heap[k]? = some (.cells #[u] t (0, 0))) (f' : W.heap[k']? = some (.cells #[u'] t' (0, 0))) (hne : t ≠ t') (v : Value) : (W.setCell ⟨k, 0, none⟩ v).cell? ⟨k', 0, none⟩ = some u' ∧ (W.setCell ⟨k, 0, none⟩ v).frozen? ⟨k', 0, none⟩ = false :=
  have h := blk_far f' (p := ⟨k, 0, none⟩) (blk_ne f' f (fun e => hne e.symm)) v
  ⟨blk_cell h 0, blk_frozen h 0⟩
theorem blk_newK {W : World} {k : Nat} {o : Obj} (hk : k = W.heap.size) : (W.alloc o).heap[k]? = some o := by subst hk; exact blk_new W o
theorem blk_farK {W : World} {g k t : Nat} {cs : Array Value} (h : W.heap[g]? = some (.cells cs t (0, 0))) (hne : g ≠ k) (v : Value) : (W.setCell ⟨k, 0, none⟩ v).heap[g]? = some (.cells cs t (0, 0)) := blk_far h (p := ⟨k, 0, none⟩) hne v
theorem cell_lt {w : World} {k i : Nat} {v : Value} (h : w.cell? ⟨k, i, none⟩ = some v) : k < w.heap.size := by
  by_cases hk : k < w.heap.size
  · exact hk
  · have : w.heap[k]? = none := Array.getElem?_eq_none (by omega)
    simp [World.cell?, this] at h
theorem cell_grown {w w1 : World} {row : Option Nat} {k i : Nat} {v : Value} (h : w.cell? ⟨k, i, none⟩ = some v) (hg : w.grownBy w1 row) (hne : some k ≠ row) : w1.cell? ⟨k, i, none⟩ = some v := (World.cell?_of_block (hg.block k (cell_lt h) hne)).trans h
theorem box_set {W : World} {k t : Nat} {u : Value} (f : W.heap[k]? = some (.cells #[u] t (0, 0))) (v : Value) : (W.setCell ⟨k, 0, none⟩ v).heap[k]? = some (.cells #[v] t (0, 0)) := blk_put f 0 v rfl
theorem own_lt {W : World} {b e sz n g len cap : Nat} {xs : List Value} (h : W.ownsRow b e sz (.slice (some ⟨g, 0, none⟩) len cap) n xs) : g < W.heap.size ∧ ∃ cells, W.heap[g]? = some (.cells cells e (0, 0)) := by
  rcases h.2 with ⟨hv, _⟩ | ⟨g', cap', cells, hv, _, hb, _⟩
  · cases hv
  · injection hv with h1
    injection h1 with h1
    injection h1 with h1
    subst h1
    exact ⟨blk_lt hb, cells, hb⟩
theorem own_ne_box {W : World} {b e sz n g len cap k t : Nat} {cs : Array Value} {xs : List Value} (h : W.ownsRow b e sz (.slice (some ⟨g, 0, none⟩) len cap) n xs) (f : W.heap[k]? = some (.cells cs t (0, 0))) (hne : e ≠ t) : g ≠ k := by
  obtain ⟨_, cells, hb⟩ := own_lt h
  exact blk_ne hb f hne
theorem own_setfar {W : World} {b e sz n g len cap k : Nat} {xs : List Value} (h : W.ownsRow b e sz (.slice (some ⟨g, 0, none⟩) len cap) n xs) (hne : g ≠ k) (v : Value) : (W.setCell ⟨k, 0, none⟩ v).ownsRow b e sz (.slice (some ⟨g, 0, none⟩) len cap) n xs :=
  own_other h (grownBy_setCell' W k v) (.inr (fun e => hne (by simpa [Value.ownBlock] using e)))
theorem S_r {W w : World} {a b : Addr} {x y : Value} (h : W.cell? a = some x ∧ W.cell? b = some y ∧ Below w.heap.size w W) : W.cell? b = some y := h.2.1
theorem S_b {W w : World} {a b : Addr} {x y : Value} (h : W.cell? a = some x ∧ W.cell? b = some y ∧ Below w.heap.size w W) : Below w.heap.size w W := h.2.2
theorem S_set {w w1 : World} {x y : Value} {k : Nat} (h : w1.cell? ⟨w.heap.size, 0, none⟩ = some x ∧ w1.cell? ⟨w.heap.size + 1, 0, none⟩ = some y ∧ Below w.heap.size w w1) (hk : w.heap.size + 1 < k) (v : Value) : (w1.setCell ⟨k, 0, none⟩ v).cell? ⟨w.heap.size, 0, none⟩ = some x ∧ (w1.setCell ⟨k, 0, none⟩ v).cell? ⟨w.heap.size + 1, 0, none⟩ = some y ∧ Below w.heap.size w (w1.setCell ⟨k, 0, none⟩ v) :=
  ⟨by rw [World.cell?_setCell_other]; (· exact h.1); (· intro e; injection e with e1; omega), by rw [World.cell?_setCell_other]; (· exact h.2.1); (· intro e; injection e with e1; omega), below_set h.2.2 (by omega)⟩
theorem S_step {w w1 w2 : World} {a b : Addr} {x y : Value} (h : w1.cell? a = some x ∧ w1.cell? b = some y ∧ Below w.heap.size w w1) (hb : Below w1.heap.size w1 w2) : w2.cell? a = some x ∧ w2.cell? b = some y ∧ Below w.heap.size w w2 :=
  ⟨pw_cell_below hb h.1, pw_cell_below hb h.2.1, below_then h.2.2 h.2.2.size hb⟩
def neededR (s C : List Int) (r : Int) : List Int × Int := if Q.rCover s C r = 0 then (C.filter (fun x => needQ s (timesL s C r) x r 0 (prd s).toNat), 0) else ([], Q.rCover s C r)

set_option maxHeartbeats 3000000 in
set_option maxRecDepth 100000 in
theorem neededW_calls (A : Option Addr) (c : Nat) (s : List Int) (A1 : Option Addr) (c1 : Nat) (C : List Int) (r : Int) (w : World) (hr : Kd.C (Kd.int .i64) w A s.length s) (hc : s.length ≤ c) (hr1 : Kd.C (Kd.int .i64) w A1 C.length C) (hc1 : C.length ≤ c1) (hCl : C.length ≤ 1048576) :
    Calls Try.prog 27 #[.agg #[.slice A s.length c], .slice A1 C.length c1, .int .i64 r] w
      fun e w' => ∃ v, e = .returned (.tuple #[v, .int .i64 (neededR s C r).2]) ∧ Kd.R (Kd.int .i64) 2 w' w.heap.size (fun _ => True) v (neededR s C r).1 ∧ Below w.heap.size w w' := by
  have huS := Try.underlying28
  have huD := Try.underlying52
  have HR := Aside0.mk hr
  have HR1 := Aside0.mk hr1
  obtain ⟨kb, hbc⟩ := (Q.coverCode_ev s (c := C) hCl r).rounds
  have HBC := Aside0.mk hbc
  clear hr hr1 hbc
  go_enter Try.func27, Try.ntmps27
  go_wp2_with fail
  have hcell : ((w.alloc (.cells #[.slice A s.length c] 28)).alloc (.cells #[.int .i64 r] 2)).heap[w.heap.size]? = some (.cells #[.slice A s.length c] 28 (0, 0)) := blk_alloc (blk_new _ _) _
  have hcell2 : ((w.alloc (.cells #[.slice A s.length c] 28)).alloc (.cells #[.int .i64 r] 2)).heap[w.heap.size + 1]? = some (.cells #[.int .i64 r] 2 (0, 0)) := by simpa using blk_new (w.alloc (.cells #[.slice A s.length c] 28)) (.cells #[.int .i64 r] 2)
  have hB : Below w.heap.size w ((w.alloc (.cells #[.slice A s.length c] 28)).alloc (.cells #[.int .i64 r] 2)) := ((Below.refl _ _).alloc (Nat.le_refl _) _).alloc (by simp) _
  refine (impl_coverCode.calls kb A c s A1 c1 C r (Q.rCover s C r) _ (Kd.C_below HR.out hB) hc (Kd.C_below HR1.out hB) hc1 HBC.out).mono ?_
  rintro e w0 ⟨rfl, hb⟩
  have K1 := Aside0.mk (blk_below hcell hb)
  have K2 := Aside0.mk (blk_below hcell2 hb)
  have B1 := Aside0.mk (below_then hB hB.size hb)
  clear hcell hcell2 hB hb
  by_cases hz : Q.rCover s C r = 0
  · have HZ : Aside0 (neededR s C r = (C.filter (fun x => needQ s (timesL s C r) x r 0 (prd s).toNat), 0)) := ⟨by unfold neededR; rw [if_pos hz]⟩
    obtain ⟨hs, hC, _⟩ := Q.rCover_zero hz
    have HS := Aside0.mk hs
    have hC2 : C.all (isW s) = true := by rw [List.all_eq_true]; exact Q.isC_words hC
    have HC := Aside0.mk hC2
    have hCl2 := Q.isC_len hs hC
    obtain ⟨kc, hcount⟩ := (Q.count_sp hs).rounds
    have HK := Aside0.mk hcount
    rw [hz]
    clear hs hC hC2 hz HBC hcount
    have hcz : w0.cell? ⟨w.heap.size, 0, none⟩ = some (.slice A s.length c) := blk_cell K1.out 0
    have hcr : w0.cell? ⟨w.heap.size + 1, 0, none⟩ = some (.int .i64 r) := blk_cell K2.out 0
    have hB1 : Below w.heap.size w w0 := B1.out
    have hw0 : w.heap.size + 1 < w0.heap.size := blk_lt K2.out
    have p0 := isSp_prd1 HS.out
    have p1 := isSp_prd HS.out
    obtain ⟨P, hP⟩ : ∃ P : Nat, prd s = (P : Int) := ⟨(prd s).toNat, by omega⟩
    have hP2 : (prd s).toNat = P := by omega
    have pP : P ≤ 1024 := by omega
    have pP0 : 1 ≤ P := by omega
    have HP := Aside0.mk hP
    have HP2 := Aside0.mk hP2
    have HTL : Aside0 ((timesL s C r).length = P) := ⟨by simp [timesL, hP2]⟩
    clear hP hP2 p0 p1
    go_upto_region 4 with (fail)
    go_cut [9, 10] (fun v9 v10 W => ∃ ga gb g cap g8 cap8, v9 = .pointer (some ⟨ga, 0, none⟩) ∧ v10 = .pointer (some ⟨gb, 0, none⟩) ∧ Aside0 (P ≤ cap) ∧ Aside0 (W.cell? ⟨ga, 0, none⟩ = some (.slice (some ⟨g, 0, none⟩) P cap)) ∧ Aside0 (W.cell? ⟨gb, 0, none⟩ = some (.slice (some ⟨g8, 0, none⟩) P cap8)) ∧ Aside0 (W.ownsRow w.heap.size 52 8 (.slice (some ⟨g, 0, none⟩) P cap) P (flat8 (all8 s P))) ∧ Aside0 (Kd.R (Kd.int .i64) 2 W w.heap.size (fun _ => True) (.slice (some ⟨g8, 0, none⟩) P cap8) (timesL s C r)) ∧ Aside0 (W.cell? ⟨w.heap.size + 1, 0, none⟩ = some (.int .i64 r)) ∧ Aside0 (Below w.heap.size w W))
    case first =>
      go_region_held3 (fun w' => w'.cell? ⟨w.heap.size, 0, none⟩ = some (.slice A s.length c) ∧ w'.cell? ⟨w.heap.size + 1, 0, none⟩ = some (.int .i64 r) ∧ Below w.heap.size w w') (first | exact ⟨hcz, hcr, below_drew hB1⟩ | exact S_step (by assumption) hb | exact S_step (by assumption) ((Below.refl _ _).alloc (Nat.le_refl _) _) | exact S_set (by assumption) (by omega) _ | exact S_step (by assumption) (((Below.refl _ _).alloc (Nat.le_refl _) _).alloc (by simp) _))
        (first
          | (go_at_call 60; refine (allDigits_calls A c s _ ?k1 hc HS.out kc ?k2).mono ?_; (case k1 => exact Kd.C_below HR.out (by first | assumption | exact (by assumption : _ ∧ _ ∧ Below _ _ _).2.2)); (case k2 => exact HK.out); rintro e w' ⟨v1, rfl, hD, hb⟩; rw [HP2.out] at hD; obtain ⟨g, cap, rfl, hcap⟩ : ∃ g cap, v1 = .slice (some ⟨g, 0, none⟩) P cap ∧ P ≤ cap := (by rcases hD.2 with ⟨_, h⟩ | ⟨g, cap, _, h, _, _, h2, _⟩; (· omega); (· exact ⟨g, cap, h, h2⟩)); have hz1 := hb.size; (try simp at hz1); obtain ⟨wd, hwd⟩ : ∃ wd : World, wd = w' := ⟨_, rfl⟩; have hbd := hb; have hSd := S_step (w := w) (by assumption) hb; (first | (have e9 : _ = some (Obj.cells #[Value.slice none 0 0] 72 (0, 0)) := blk_below (blk_new _ _) hb) | (have e9 : _ = some (Obj.cells #[Value.slice none 0 0] 72 (0, 0)) := blk_below (blk_drew (blk_new _ _)) hb) | (have e9 : _ = some (Obj.cells #[Value.slice none 0 0] 72 (0, 0)) := blk_below (blk_drew (blk_alloc (blk_new _ _) _)) hb) | (have e9 : _ = some (Obj.cells #[Value.slice none 0 0] 72 (0, 0)) := blk_below (blk_alloc (blk_new _ _) _) hb) | skip); (first | (have e10 : _ = some (Obj.cells #[Value.slice none 0 0] 22 (0, 0)) := blk_below (blk_new _ _) hb) | (have e10 : _ = some (Obj.cells #[Value.slice none 0 0] 22 (0, 0)) := blk_below (blk_drew (blk_new _ _)) hb) | (have e10 : _ = some (Obj.cells #[Value.slice none 0 0] 22 (0, 0)) := blk_below (blk_drew (blk_alloc (blk_new _ _) _)) hb) | (have e10 : _ = some (Obj.cells #[Value.slice none 0 0] 22 (0, 0)) := blk_below (blk_alloc (blk_new _ _) _) hb) | skip))
          | (go_at_call 61; refine (times_calls A c s A1 c1 C r _ ?k1 hc ?k2 hc1 HS.out HC.out hCl).mono ?_; (case k1 => exact Kd.C_below HR.out (by first | assumption | exact (by assumption : _ ∧ _ ∧ Below _ _ _).2.2)); (case k2 => exact Kd.C_below HR1.out (by first | assumption | exact (by assumption : _ ∧ _ ∧ Below _ _ _).2.2)); rintro e w' ⟨v2, rfl, hT, hb⟩; obtain ⟨g8, cap8, e8, hb8, hl8, hc8⟩ := Kd.R_form hT (by rw [HTL.out]; omega); rw [HTL.out] at e8; subst e8; have hz2 := hb.size; (try simp at hz2); obtain ⟨wt, hwt⟩ : ∃ wt : World, wt = w' := ⟨_, rfl⟩; have hbt := hb; have hSt := S_step (w := w) (by assumption) hb; (first | (have f9 : _ = some (Obj.cells #[Value.slice none 0 0] 72 (0, 0)) := blk_below (blk_new _ _) hb) | (have f9 : _ = some (Obj.cells #[Value.slice none 0 0] 72 (0, 0)) := blk_below (blk_alloc (blk_new _ _) _) hb) | (have f9 : _ = some (Obj.cells #[Value.slice none 0 0] 72 (0, 0)) := blk_below e9 hb) | (have f9 : _ = some (Obj.cells #[Value.slice none 0 0] 72 (0, 0)) := blk_below (blk_alloc e9 _) hb) | skip); (first | (have f10 : _ = some (Obj.cells #[Value.slice none 0 0] 22 (0, 0)) := blk_below (blk_new _ _) hb) | (have f10 : _ = some (Obj.cells #[Value.slice none 0 0] 22 (0, 0)) := blk_below (blk_alloc (blk_new _ _) _) hb) | (have f10 : _ = some (Obj.cells #[Value.slice none 0 0] 22 (0, 0)) := blk_below e10 hb) | (have f10 : _ = some (Obj.cells #[Value.slice none 0 0] 22 (0, 0)) := blk_below (blk_alloc e10 _) hb) | skip); (try rw [World.size_alloc] at f9); (try rw [World.size_drew] at f9); (try rw [World.size_drew] at f10); (try rw [World.size_alloc] at f10); (try have c9 := box_cell f9); (try have z9 := blk_frozen f9 0); (try have c10 := box_cell f10); (try have z10 := blk_frozen f10 0); (try have q1 := (far2 f9 f10 (by decide) (Value.slice (some ⟨g, 0, none⟩) P cap)).1); (try have q1' := (far2 f9 f10 (by decide) (Value.slice (some ⟨g, 0, none⟩) P cap)).2); (try have q2 := box_cell (blk_alloc f9 (Obj.cells #[Value.slice none 0 0] 22 (0, 0)))); (try have q3 := blk_frozen (blk_alloc f9 (Obj.cells #[Value.slice none 0 0] 22 (0, 0))) 0); (try have q4 := (far2 (blk_alloc f9 (Obj.cells #[Value.slice none 0 0] 22 (0, 0))) (blk_new w' (Obj.cells #[Value.slice none 0 0] 22 (0, 0))) (by decide) (Value.slice (some ⟨g, 0, none⟩) P cap)).1); (try have q4' := (far2 (blk_alloc f9 (Obj.cells #[Value.slice none 0 0] 22 (0, 0))) (blk_new w' (Obj.cells #[Value.slice none 0 0] 22 (0, 0))) (by decide) (Value.slice (some ⟨g, 0, none⟩) P cap)).2); (try have q5 := box_cell (blk_alloc f10 (Obj.cells #[(Value.slice (some ⟨g, 0, none⟩) P cap)] 72 (0, 0)))); (try have q6 := blk_frozen (blk_alloc f10 (Obj.cells #[(Value.slice (some ⟨g, 0, none⟩) P cap)] 72 (0, 0))) 0); (first | have HDt := pw_own_below hD hb | have HDt := pw_own_below (own_alloc hD _) hb | have HDt := pw_own_below (own_alloc (own_alloc hD _) _) hb); have HTt := Kd.own_of_R hT; have gl := Aside0.mk ((own_lt HDt).1); have gl8 := Aside0.mk ((own_lt HTt).1); (try have l9 := Aside0.mk (blk_lt f9)); (try have l10 := Aside0.mk (blk_lt f10)); (try have m9 := Aside0.mk (own_ne_box HDt f9 (by decide))); (try have m10 := Aside0.mk (own_ne_box HDt f10 (by decide))); (try have m89 := Aside0.mk (own_ne_box HTt f9 (by decide))); (try have m810 := Aside0.mk (own_ne_box HTt f10 (by decide))); (try have n910 := Aside0.mk (blk_ne f9 f10 (by decide)))))
      all_goals go_wp2
      all_goals go_meet
      all_goals
        have hz0 := hB1.size
        try have gl := gl.out
        try have gl8 := gl8.out
        try have l9 := l9.out
        try have l10 := l10.out
        try have m9 := m9.out
        try have m10 := m10.out
        try have m89 := m89.out
        try have m810 := m810.out
        try have n910 := n910.out
        refine ⟨_, _, g, cap, g8, cap8, rfl, rfl, ⟨hcap⟩, ⟨box_cell (t := 72) ?_⟩, ⟨box_cell (t := 22) ?_⟩, ⟨?_⟩, ⟨Kd.R_of_own ?_ (fun _ _ => trivial)⟩, ⟨S_r (by assumption)⟩, ⟨S_b (by assumption)⟩⟩
        · repeat (with_reducible first | exact f9 | exact f10 | exact blk_new _ _ | exact blk_newK (by rw [World.size_alloc]) | refine box_set (u := Value.slice none 0 0) ?_ _ | refine blk_farK ?_ (by omega) _ | refine blk_alloc ?_ _)
        · repeat (with_reducible first | exact f9 | exact f10 | exact blk_new _ _ | exact blk_newK (by rw [World.size_alloc]) | refine box_set (u := Value.slice none 0 0) ?_ _ | refine blk_farK ?_ (by omega) _ | refine blk_alloc ?_ _)
        · refine own_weaken (base := ?_) ?_ ?_
          rotate_left 1
          · repeat (with_reducible first | exact HDt | refine own_alloc ?_ _ | refine own_setfar ?_ (by omega) _)
          · first | omega | (simp; omega)
        · rw [HTL.out]
          refine own_weaken (base := ?_) ?_ ?_
          rotate_left 1
          · rw [HTL.out] at HTt
            repeat (with_reducible first | exact HTt | refine own_alloc ?_ _ | refine own_setfar ?_ (by omega) _)
          · first | omega | (simp; omega)
    case rest =>
      obtain ⟨ga, gb, g, cap, g8, cap8, rfl, rfl, HCAP, KA, KB, HD, HT, KR, HB⟩ := hcut
      clear hcz hcr hB1
      have HCW : Aside0 (∀ x ∈ C, 0 ≤ x ∧ x < (P : Int)) := ⟨fun x hx => by have := (isW_iff s x).1 (List.all_eq_true.1 HC.out x hx); rw [HP.out] at this; exact this⟩
      have HFI : Aside0 ((C.filter fun x => !(!needQ s (timesL s C r) x r 0 P)) = C.filter fun x => needQ s (timesL s C r) x r 0 P) := ⟨by simp only [Bool.not_not]⟩
      rw [HP2.out] at HZ
      go_wp2_with fail
      refine (clone_calls A1 c1 C _ (Kd.C_below HR1.out HB.out) hc1 hCl).mono ?_
      rintro e w2 ⟨v2, rfl, hR, hb⟩
      obtain ⟨A3, c3, rfl⟩ := Kd.R_slice hR
      have KA2 := Aside0.mk (pw_cell_below hb KA.out)
      have KB2 := Aside0.mk (pw_cell_below hb KB.out)
      have KR2 := Aside0.mk (pw_cell_below hb KR.out)
      have LA := Aside0.mk (cell_lt KA.out)
      have LB := Aside0.mk (cell_lt KB.out)
      have LR := Aside0.mk (cell_lt KR.out)
      have HD2 := Aside0.mk (pw_own_below HD.out hb)
      have HDN := Aside0.mk (own_type_ne HD2.out (Kd.own_of_R hR) (by decide))
      have HT2 := Aside0.mk (Kd.R_elder HT.out hR hb)
      have HBS := Aside0.mk (Kd.R_base hR)
      have HO := Aside0.mk (own_weaken (Kd.own_of_R hR) HB.out.size)
      have HB2 := Aside0.mk (below_then HB.out HB.out.size hb)
      have HSZ := Aside0.mk HB.out.size
      clear hR hb KA KB KR HD HT HB
      go_wp2_with fail
      refine («NeededWords$1».delete_calls (some ⟨ga, 0, none⟩) (some ⟨gb, 0, none⟩) (some ⟨w.heap.size + 1, 0, none⟩) (fun x => !needQ s (timesL s C r) x r 0 P) w.heap.size A3 c3 C w2 HO.out hCl ?hf).mono ?_
      case hf =>
        intro x W hx hg
        have hT3 := Kd.R_grown HT2.out hg (fun k hk => hk.2)
        have hTC := Kd.R_reads' hT3
        have a1 := cell_grown KA2.out hg (fun e => by have := HBS.out _ e.symm; have := LA.out; omega)
        have a2 := cell_grown KB2.out hg (fun e => by have := HBS.out _ e.symm; have := LB.out; omega)
        have a3 := cell_grown KR2.out hg (fun e => by have := HBS.out _ e.symm; have := LR.out; omega)
        exact neededW_closure s (timesL s C r) P g cap w.heap.size ga gb (w.heap.size + 1) (some ⟨g8, 0, none⟩) cap8 x r W (own_other HD2.out hg HDN.out) HCAP.out hTC.2.2 (by rw [← hTC.1]; exact hTC.2.1) HTL.out pP (HCW.out x hx).1 (HCW.out x hx).2 a1 (by rw [HTL.out]; exact a2) a3
      rintro e w3 ⟨v3, rfl, hR, hg⟩
      have R3 := Aside0.mk hR
      have B5 := Aside0.mk (pw_below_grown HB2.out _ HB2.out.size hg (fun k hk => by have := HBS.out k hk; have := HSZ.out; omega))
      clear hR hg
      go_wp2
      go_ret2
      rw [HZ.out]
      refine ⟨_, rfl, ?_, B5.out⟩
      have := R3.out
      rw [HFI.out] at this
      exact this
  · have HZ : Aside0 (neededR s C r = ([], Q.rCover s C r)) := ⟨by unfold neededR; rw [if_neg hz]⟩
    clear HBC
    generalize Q.rCover s C r = z at *
    go_wp2
    go_ret2
    rw [HZ.out]
    exact ⟨_, rfl, Kd.R_nil _ _ _ _ _, B1.out⟩

/-- What the program's NeededWords returns. -/
def impl_NeededWords.f (l0_0 l1 : List Int) (a2 : Int) : Option (List Int × Int) := if l1.length ≤ 1048576 then some (neededR l0_0 l1 a2) else none

theorem impl_NeededWords.calls (A0_0 : Option Addr) (c0_0 : Nat) (l0_0 : List Int) (A1 : Option Addr) (c1 : Nat) (l1 : List Int) (a2 : Int) (r1 : List Int) (r2 : Int) (w : World) (hr0_0 : Kd.C (Kd.int .i64) w A0_0 l0_0.length l0_0) (hc0_0 : l0_0.length ≤ c0_0) (hr1 : Kd.C (Kd.int .i64) w A1 l1.length l1) (hc1 : l1.length ≤ c1) (h : impl_NeededWords.f l0_0 l1 a2 = some (r1, r2)) :
    Calls Try.prog 27 #[.agg #[.slice A0_0 l0_0.length c0_0], .slice A1 l1.length c1, .int .i64 a2] w fun e w' => ∃ v0_ : Value, e = .returned (.tuple #[v0_, .int .i64 r2]) ∧ Kd.R (Kd.int .i64) 2 w' w.heap.size (fun _ => True) v0_ r1 ∧ Below w.heap.size w w' := by
  unfold impl_NeededWords.f at h
  split at h
  · rename_i hl
    have h2 := Option.some.inj h
    have e1 : (neededR l0_0 l1 a2).1 = r1 := by rw [h2]
    have e2 : (neededR l0_0 l1 a2).2 = r2 := by rw [h2]
    subst e1 e2
    exact neededW_calls A0_0 c0_0 l0_0 A1 c1 l1 a2 w hr0_0 hc0_0 hr1 hc1 hl
  · cases h
end Go.Proofs.Ythcodiknghfmmaa.P
