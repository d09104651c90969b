/- What the law FnCovers needs, part 13: words, walks of functions (each says that a call returns what the plain Lean function beside it says), plain lemmas. -/
import Derived.Test.YtlfipjdjmpdblaaKFnCoversL
import Derived.RangeFuncBox
set_option linter.unusedVariables false
set_option linter.unusedSimpArgs false
namespace Go.Proofs.Ytlfipjdjmpdblaa.P
open Go.RowKit Go.Proofs.YtlfipjdjmpdblaaW.PrintWords Go.Proofs.YtlfipjdjmpdblaaW.PrintLast Go.Proofs.YtlfipjdjmpdblaaW.PrintMore CC
theorem box_cell {W : World} {k t : Nat} {v : Value} (f : W.heap[k]? = some (.cells #[v] t (0, 0))) : W.cell? ⟨k, 0, none⟩ = some v := blk_cell f 0
theorem far2 {W : World} {k k' t t' : Nat} {u u' : Value} (f : W.heap[k]? = some (.cells #[u] t (0, 0))) (f' : W.heap[k']? = some (.cells #[u'] t' (0, 0))) (hne : t ≠ t') (v : Value) : (W.setCell ⟨k, 0, none⟩ v).cell? ⟨k', 0, none⟩ = some u' ∧ (W.setCell ⟨k, 0, none⟩ v).frozen? ⟨k', 0, none⟩ = false :=
  have h := blk_far f' (p := ⟨k, 0, none⟩) (blk_ne f' f (fun e => hne e.symm)) v
  ⟨blk_cell h 0, blk_frozen h 0⟩
theorem blk_newK {W : World} {k : Nat} {o : Obj} (hk : k = W.heap.size) : (W.alloc o).heap[k]? = some o := by subst hk; exact blk_new W o
theorem blk_farK {W : World} {g k t : Nat} {cs : Array Value} (h : W.heap[g]? = some (.cells cs t (0, 0))) (hne : g ≠ k) (v : Value) : (W.setCell ⟨k, 0, none⟩ v).heap[g]? = some (.cells cs t (0, 0)) := blk_far h (p := ⟨k, 0, none⟩) hne v
theorem cell_lt {w : World} {k i : Nat} {v : Value} (h : w.cell? ⟨k, i, none⟩ = some v) : k < w.heap.size := by
  by_cases hk : k < w.heap.size
  · exact hk
  · have : w.heap[k]? = none := Array.getElem?_eq_none (by omega)
    simp [World.cell?, this] at h
theorem cell_grown {w w1 : World} {row : Option Nat} {k i : Nat} {v : Value} (h : w.cell? ⟨k, i, none⟩ = some v) (hg : w.grownBy w1 row) (hne : some k ≠ row) : w1.cell? ⟨k, i, none⟩ = some v := (World.cell?_of_block (hg.block k (cell_lt h) hne)).trans h
theorem box_set {W : World} {k t : Nat} {u : Value} (f : W.heap[k]? = some (.cells #[u] t (0, 0))) (v : Value) : (W.setCell ⟨k, 0, none⟩ v).heap[k]? = some (.cells #[v] t (0, 0)) := blk_put f 0 v rfl
theorem own_lt {W : World} {b e sz n g len cap : Nat} {xs : List Value} (h : W.ownsRow b e sz (.slice (some ⟨g, 0, none⟩) len cap) n xs) : g < W.heap.size ∧ ∃ cells, W.heap[g]? = some (.cells cells e (0, 0)) := by
  rcases h.2 with ⟨hv, _⟩ | ⟨g', cap', cells, hv, _, hb, _⟩
  · cases hv
  · injection hv with h1
    injection h1 with h1
    injection h1 with h1
    subst h1
    exact ⟨blk_lt hb, cells, hb⟩
theorem own_ne_box {W : World} {b e sz n g len cap k t : Nat} {cs : Array Value} {xs : List Value} (h : W.ownsRow b e sz (.slice (some ⟨g, 0, none⟩) len cap) n xs) (f : W.heap[k]? = some (.cells cs t (0, 0))) (hne : e ≠ t) : g ≠ k := by
  obtain ⟨_, cells, hb⟩ := own_lt h
  exact blk_ne hb f hne
theorem own_setfar {W : World} {b e sz n g len cap k : Nat} {xs : List Value} (h : W.ownsRow b e sz (.slice (some ⟨g, 0, none⟩) len cap) n xs) (hne : g ≠ k) (v : Value) : (W.setCell ⟨k, 0, none⟩ v).ownsRow b e sz (.slice (some ⟨g, 0, none⟩) len cap) n xs :=
  own_other h (grownBy_setCell' W k v) (.inr (fun e => hne (by simpa [Value.ownBlock] using e)))
theorem S_r {W w : World} {a b : Addr} {x y : Value} (h : W.cell? a = some x ∧ W.cell? b = some y ∧ Below w.heap.size w W) : W.cell? b = some y := h.2.1
theorem S_b {W w : World} {a b : Addr} {x y : Value} (h : W.cell? a = some x ∧ W.cell? b = some y ∧ Below w.heap.size w W) : Below w.heap.size w W := h.2.2
theorem S_set {w w1 : World} {x y : Value} {k : Nat} (h : w1.cell? ⟨w.heap.size, 0, none⟩ = some x ∧ w1.cell? ⟨w.heap.size + 1, 0, none⟩ = some y ∧ Below w.heap.size w w1) (hk : w.heap.size + 1 < k) (v : Value) : (w1.setCell ⟨k, 0, none⟩ v).cell? ⟨w.heap.size, 0, none⟩ = some x ∧ (w1.setCell ⟨k, 0, none⟩ v).cell? ⟨w.heap.size + 1, 0, none⟩ = some y ∧ Below w.heap.size w (w1.setCell ⟨k, 0, none⟩ v) :=
  ⟨by rw [World.cell?_setCell_other]; (· exact h.1); (· intro e; injection e with e1; omega), by rw [World.cell?_setCell_other]; (· exact h.2.1); (· intro e; injection e with e1; omega), below_set h.2.2 (by omega)⟩
theorem S_step {w w1 w2 : World} {a b : Addr} {x y : Value} (h : w1.cell? a = some x ∧ w1.cell? b = some y ∧ Below w.heap.size w w1) (hb : Below w1.heap.size w1 w2) : w2.cell? a = some x ∧ w2.cell? b = some y ∧ Below w.heap.size w w2 :=
  ⟨pw_cell_below hb h.1, pw_cell_below hb h.2.1, below_then h.2.2 h.2.2.size hb⟩
def neededR (s C : List Int) (r : Int) : List Int × Int := if Q.rCover s C r = 0 then (C.filter (fun x => needQ s (timesL s C r) x r 0 (prd s).toNat), 0) else ([], Q.rCover s C r)
set_option maxHeartbeats 3000000 in
set_option maxRecDepth 100000 in
theorem neededW_calls (A : Option Addr) (c : Nat) (s : List Int) (A1 : Option Addr) (c1 : Nat) (C : List Int) (r : Int) (w : World) (hr : Kd.C (Kd.int .i64) w A s.length s) (hc : s.length ≤ c) (hr1 : Kd.C (Kd.int .i64) w A1 C.length C) (hc1 : C.length ≤ c1) (hCl : C.length ≤ 1048576) :
    Calls Try.prog 49 #[.agg #[.slice A s.length c], .slice A1 C.length c1, .int .i64 r] w
      fun e w' => ∃ v, e = .returned (.tuple #[v, .int .i64 (neededR s C r).2]) ∧ Kd.R (Kd.int .i64) 2 w' w.heap.size (fun _ => True) v (neededR s C r).1 ∧ Below w.heap.size w w' := by
  have huS := Try.underlying26
  have huD := Try.underlying54
  have HR := Aside0.mk hr
  have HR1 := Aside0.mk hr1
  obtain ⟨kb, hbc⟩ := (Q.coverCode_ev s (c := C) hCl r).rounds
  have HBC := Aside0.mk hbc
  clear hr hr1 hbc
  go_enter Try.func49, Try.ntmps49
  go_wp2_with fail
  have hcell : ((w.alloc (.cells #[.slice A s.length c] 26)).alloc (.cells #[.int .i64 r] 2)).heap[w.heap.size]? = some (.cells #[.slice A s.length c] 26 (0, 0)) := blk_alloc (blk_new _ _) _
  have hcell2 : ((w.alloc (.cells #[.slice A s.length c] 26)).alloc (.cells #[.int .i64 r] 2)).heap[w.heap.size + 1]? = some (.cells #[.int .i64 r] 2 (0, 0)) := by simpa using blk_new (w.alloc (.cells #[.slice A s.length c] 26)) (.cells #[.int .i64 r] 2)
  have hB : Below w.heap.size w ((w.alloc (.cells #[.slice A s.length c] 26)).alloc (.cells #[.int .i64 r] 2)) := ((Below.refl _ _).alloc (Nat.le_refl _) _).alloc (by simp) _
  refine (impl_coverCode.calls kb A c s A1 c1 C r (Q.rCover s C r) _ (Kd.C_below HR.out hB) hc (Kd.C_below HR1.out hB) hc1 HBC.out).mono ?_
  rintro e w0 ⟨rfl, hb⟩
  have K1 := Aside0.mk (blk_below hcell hb)
  have K2 := Aside0.mk (blk_below hcell2 hb)
  have B1 := Aside0.mk (below_then hB hB.size hb)
  clear hcell hcell2 hB hb
  by_cases hz : Q.rCover s C r = 0
  · have HZ : Aside0 (neededR s C r = (C.filter (fun x => needQ s (timesL s C r) x r 0 (prd s).toNat), 0)) := ⟨by unfold neededR; rw [if_pos hz]⟩
    obtain ⟨hs, hC, _⟩ := Q.rCover_zero hz
    have HS := Aside0.mk hs
    have hC2 : C.all (isW s) = true := by rw [List.all_eq_true]; exact Q.isC_words hC
    have HC := Aside0.mk hC2
    have hCl2 := Q.isC_len hs hC
    obtain ⟨kc, hcount⟩ := (Q.count_sp hs).rounds
    have HK := Aside0.mk hcount
    rw [hz]
    clear hs hC hC2 hz HBC hcount
    have hcz : w0.cell? ⟨w.heap.size, 0, none⟩ = some (.slice A s.length c) := blk_cell K1.out 0
    have hcr : w0.cell? ⟨w.heap.size + 1, 0, none⟩ = some (.int .i64 r) := blk_cell K2.out 0
    have hB1 : Below w.heap.size w w0 := B1.out
    have hw0 : w.heap.size + 1 < w0.heap.size := blk_lt K2.out
    have p0 := isSp_prd1 HS.out
    have p1 := isSp_prd HS.out
    obtain ⟨P, hP⟩ : ∃ P : Nat, prd s = (P : Int) := ⟨(prd s).toNat, by omega⟩
    have hP2 : (prd s).toNat = P := by omega
    have pP : P ≤ 1024 := by omega
    have pP0 : 1 ≤ P := by omega
    have HP := Aside0.mk hP
    have HP2 := Aside0.mk hP2
    have HTL : Aside0 ((timesL s C r).length = P) := ⟨by simp [timesL, hP2]⟩
    clear hP hP2 p0 p1
    go_upto_region 4 with (fail)
    go_cut [9, 10] (fun v9 v10 W => ∃ ga gb g cap g8 cap8, v9 = .pointer (some ⟨ga, 0, none⟩) ∧ v10 = .pointer (some ⟨gb, 0, none⟩) ∧ Aside0 (P ≤ cap) ∧ Aside0 (W.cell? ⟨ga, 0, none⟩ = some (.slice (some ⟨g, 0, none⟩) P cap)) ∧ Aside0 (W.cell? ⟨gb, 0, none⟩ = some (.slice (some ⟨g8, 0, none⟩) P cap8)) ∧ Aside0 (W.ownsRow w.heap.size 54 8 (.slice (some ⟨g, 0, none⟩) P cap) P (flat8 (all8 s P))) ∧ Aside0 (Kd.R (Kd.int .i64) 2 W w.heap.size (fun _ => True) (.slice (some ⟨g8, 0, none⟩) P cap8) (timesL s C r)) ∧ Aside0 (W.cell? ⟨w.heap.size + 1, 0, none⟩ = some (.int .i64 r)) ∧ Aside0 (Below w.heap.size w W))
    case first =>
      go_region_held3 (fun w' => w'.cell? ⟨w.heap.size, 0, none⟩ = some (.slice A s.length c) ∧ w'.cell? ⟨w.heap.size + 1, 0, none⟩ = some (.int .i64 r) ∧ Below w.heap.size w w') (first | exact ⟨hcz, hcr, below_drew hB1⟩ | exact S_step (by assumption) hb | exact S_step (by assumption) ((Below.refl _ _).alloc (Nat.le_refl _) _) | exact S_set (by assumption) (by omega) _ | exact S_step (by assumption) (((Below.refl _ _).alloc (Nat.le_refl _) _).alloc (by simp) _))
        (first
          | (go_at_call 99; refine (allDigits_calls A c s _ ?k1 hc HS.out kc ?k2).mono ?_; (case k1 => exact Kd.C_below HR.out (by first | assumption | exact (by assumption : _ ∧ _ ∧ Below _ _ _).2.2)); (case k2 => exact HK.out); rintro e w' ⟨v1, rfl, hD, hb⟩; rw [HP2.out] at hD; obtain ⟨g, cap, rfl, hcap⟩ : ∃ g cap, v1 = .slice (some ⟨g, 0, none⟩) P cap ∧ P ≤ cap := (by rcases hD.2 with ⟨_, h⟩ | ⟨g, cap, _, h, _, _, h2, _⟩; (· omega); (· exact ⟨g, cap, h, h2⟩)); have hz1 := hb.size; (try simp at hz1); obtain ⟨wd, hwd⟩ : ∃ wd : World, wd = w' := ⟨_, rfl⟩; have hbd := hb; have hSd := S_step (w := w) (by assumption) hb; (first | (have e9 : _ = some (Obj.cells #[Value.slice none 0 0] 78 (0, 0)) := blk_below (blk_new _ _) hb) | (have e9 : _ = some (Obj.cells #[Value.slice none 0 0] 78 (0, 0)) := blk_below (blk_drew (blk_new _ _)) hb) | (have e9 : _ = some (Obj.cells #[Value.slice none 0 0] 78 (0, 0)) := blk_below (blk_drew (blk_alloc (blk_new _ _) _)) hb) | (have e9 : _ = some (Obj.cells #[Value.slice none 0 0] 78 (0, 0)) := blk_below (blk_alloc (blk_new _ _) _) hb) | skip); (first | (have e10 : _ = some (Obj.cells #[Value.slice none 0 0] 24 (0, 0)) := blk_below (blk_new _ _) hb) | (have e10 : _ = some (Obj.cells #[Value.slice none 0 0] 24 (0, 0)) := blk_below (blk_drew (blk_new _ _)) hb) | (have e10 : _ = some (Obj.cells #[Value.slice none 0 0] 24 (0, 0)) := blk_below (blk_drew (blk_alloc (blk_new _ _) _)) hb) | (have e10 : _ = some (Obj.cells #[Value.slice none 0 0] 24 (0, 0)) := blk_below (blk_alloc (blk_new _ _) _) hb) | skip))
          | (go_at_call 100; refine (times_calls A c s A1 c1 C r _ ?k1 hc ?k2 hc1 HS.out HC.out hCl).mono ?_; (case k1 => exact Kd.C_below HR.out (by first | assumption | exact (by assumption : _ ∧ _ ∧ Below _ _ _).2.2)); (case k2 => exact Kd.C_below HR1.out (by first | assumption | exact (by assumption : _ ∧ _ ∧ Below _ _ _).2.2)); rintro e w' ⟨v2, rfl, hT, hb⟩; obtain ⟨g8, cap8, e8, hb8, hl8, hc8⟩ := Kd.R_form hT (by rw [HTL.out]; omega); rw [HTL.out] at e8; subst e8; have hz2 := hb.size; (try simp at hz2); obtain ⟨wt, hwt⟩ : ∃ wt : World, wt = w' := ⟨_, rfl⟩; have hbt := hb; have hSt := S_step (w := w) (by assumption) hb; (first | (have f9 : _ = some (Obj.cells #[Value.slice none 0 0] 78 (0, 0)) := blk_below (blk_new _ _) hb) | (have f9 : _ = some (Obj.cells #[Value.slice none 0 0] 78 (0, 0)) := blk_below (blk_alloc (blk_new _ _) _) hb) | (have f9 : _ = some (Obj.cells #[Value.slice none 0 0] 78 (0, 0)) := blk_below e9 hb) | (have f9 : _ = some (Obj.cells #[Value.slice none 0 0] 78 (0, 0)) := blk_below (blk_alloc e9 _) hb) | skip); (first | (have f10 : _ = some (Obj.cells #[Value.slice none 0 0] 24 (0, 0)) := blk_below (blk_new _ _) hb) | (have f10 : _ = some (Obj.cells #[Value.slice none 0 0] 24 (0, 0)) := blk_below (blk_alloc (blk_new _ _) _) hb) | (have f10 : _ = some (Obj.cells #[Value.slice none 0 0] 24 (0, 0)) := blk_below e10 hb) | (have f10 : _ = some (Obj.cells #[Value.slice none 0 0] 24 (0, 0)) := blk_below (blk_alloc e10 _) hb) | skip); (try rw [World.size_alloc] at f9); (try rw [World.size_drew] at f9); (try rw [World.size_drew] at f10); (try rw [World.size_alloc] at f10); (try have c9 := box_cell f9); (try have z9 := blk_frozen f9 0); (try have c10 := box_cell f10); (try have z10 := blk_frozen f10 0); (try have q1 := (far2 f9 f10 (by decide) (Value.slice (some ⟨g, 0, none⟩) P cap)).1); (try have q1' := (far2 f9 f10 (by decide) (Value.slice (some ⟨g, 0, none⟩) P cap)).2); (try have q2 := box_cell (blk_alloc f9 (Obj.cells #[Value.slice none 0 0] 24 (0, 0)))); (try have q3 := blk_frozen (blk_alloc f9 (Obj.cells #[Value.slice none 0 0] 24 (0, 0))) 0); (try have q4 := (far2 (blk_alloc f9 (Obj.cells #[Value.slice none 0 0] 24 (0, 0))) (blk_new w' (Obj.cells #[Value.slice none 0 0] 24 (0, 0))) (by decide) (Value.slice (some ⟨g, 0, none⟩) P cap)).1); (try have q4' := (far2 (blk_alloc f9 (Obj.cells #[Value.slice none 0 0] 24 (0, 0))) (blk_new w' (Obj.cells #[Value.slice none 0 0] 24 (0, 0))) (by decide) (Value.slice (some ⟨g, 0, none⟩) P cap)).2); (try have q5 := box_cell (blk_alloc f10 (Obj.cells #[(Value.slice (some ⟨g, 0, none⟩) P cap)] 78 (0, 0)))); (try have q6 := blk_frozen (blk_alloc f10 (Obj.cells #[(Value.slice (some ⟨g, 0, none⟩) P cap)] 78 (0, 0))) 0); (first | have HDt := pw_own_below hD hb | have HDt := pw_own_below (own_alloc hD _) hb | have HDt := pw_own_below (own_alloc (own_alloc hD _) _) hb); have HTt := Kd.own_of_R hT; have gl := Aside0.mk ((own_lt HDt).1); have gl8 := Aside0.mk ((own_lt HTt).1); (try have l9 := Aside0.mk (blk_lt f9)); (try have l10 := Aside0.mk (blk_lt f10)); (try have m9 := Aside0.mk (own_ne_box HDt f9 (by decide))); (try have m10 := Aside0.mk (own_ne_box HDt f10 (by decide))); (try have m89 := Aside0.mk (own_ne_box HTt f9 (by decide))); (try have m810 := Aside0.mk (own_ne_box HTt f10 (by decide))); (try have n910 := Aside0.mk (blk_ne f9 f10 (by decide)))))
      all_goals go_wp2
      all_goals go_meet
      all_goals
        have hz0 := hB1.size
        try have gl := gl.out
        try have gl8 := gl8.out
        try have l9 := l9.out
        try have l10 := l10.out
        try have m9 := m9.out
        try have m10 := m10.out
        try have m89 := m89.out
        try have m810 := m810.out
        try have n910 := n910.out
        refine ⟨_, _, g, cap, g8, cap8, rfl, rfl, ⟨hcap⟩, ⟨box_cell (t := 78) ?_⟩, ⟨box_cell (t := 24) ?_⟩, ⟨?_⟩, ⟨Kd.R_of_own ?_ (fun _ _ => trivial)⟩, ⟨S_r (by assumption)⟩, ⟨S_b (by assumption)⟩⟩
        · repeat (with_reducible first | exact f9 | exact f10 | exact blk_new _ _ | exact blk_newK (by rw [World.size_alloc]) | refine box_set (u := Value.slice none 0 0) ?_ _ | refine blk_farK ?_ (by omega) _ | refine blk_alloc ?_ _)
        · repeat (with_reducible first | exact f9 | exact f10 | exact blk_new _ _ | exact blk_newK (by rw [World.size_alloc]) | refine box_set (u := Value.slice none 0 0) ?_ _ | refine blk_farK ?_ (by omega) _ | refine blk_alloc ?_ _)
        · refine own_weaken (base := ?_) ?_ ?_
          rotate_left 1
          · repeat (with_reducible first | exact HDt | refine own_alloc ?_ _ | refine own_setfar ?_ (by omega) _)
          · first | omega | (simp; omega)
        · rw [HTL.out]
          refine own_weaken (base := ?_) ?_ ?_
          rotate_left 1
          · rw [HTL.out] at HTt
            repeat (with_reducible first | exact HTt | refine own_alloc ?_ _ | refine own_setfar ?_ (by omega) _)
          · first | omega | (simp; omega)
    case rest =>
      obtain ⟨ga, gb, g, cap, g8, cap8, rfl, rfl, HCAP, KA, KB, HD, HT, KR, HB⟩ := hcut
      clear hcz hcr hB1
      have HCW : Aside0 (∀ x ∈ C, 0 ≤ x ∧ x < (P : Int)) := ⟨fun x hx => by have := (isW_iff s x).1 (List.all_eq_true.1 HC.out x hx); rw [HP.out] at this; exact this⟩
      have HFI : Aside0 ((C.filter fun x => !(!needQ s (timesL s C r) x r 0 P)) = C.filter fun x => needQ s (timesL s C r) x r 0 P) := ⟨by simp only [Bool.not_not]⟩
      rw [HP2.out] at HZ
      go_wp2_with fail
      refine (clone_calls A1 c1 C _ (Kd.C_below HR1.out HB.out) hc1 hCl).mono ?_
      rintro e w2 ⟨v2, rfl, hR, hb⟩
      obtain ⟨A3, c3, rfl⟩ := Kd.R_slice hR
      have KA2 := Aside0.mk (pw_cell_below hb KA.out)
      have KB2 := Aside0.mk (pw_cell_below hb KB.out)
      have KR2 := Aside0.mk (pw_cell_below hb KR.out)
      have LA := Aside0.mk (cell_lt KA.out)
      have LB := Aside0.mk (cell_lt KB.out)
      have LR := Aside0.mk (cell_lt KR.out)
      have HD2 := Aside0.mk (pw_own_below HD.out hb)
      have HDN := Aside0.mk (own_type_ne HD2.out (Kd.own_of_R hR) (by decide))
      have HT2 := Aside0.mk (Kd.R_elder HT.out hR hb)
      have HBS := Aside0.mk (Kd.R_base hR)
      have HO := Aside0.mk (own_weaken (Kd.own_of_R hR) HB.out.size)
      have HB2 := Aside0.mk (below_then HB.out HB.out.size hb)
      have HSZ := Aside0.mk HB.out.size
      clear hR hb KA KB KR HD HT HB
      go_wp2_with fail
      refine («NeededWords$1».delete_calls (some ⟨ga, 0, none⟩) (some ⟨gb, 0, none⟩) (some ⟨w.heap.size + 1, 0, none⟩) (fun x => !needQ s (timesL s C r) x r 0 P) w.heap.size A3 c3 C w2 HO.out hCl ?hf).mono ?_
      case hf =>
        intro x W hx hg
        have hT3 := Kd.R_grown HT2.out hg (fun k hk => hk.2)
        have hTC := Kd.R_reads' hT3
        have a1 := cell_grown KA2.out hg (fun e => by have := HBS.out _ e.symm; have := LA.out; omega)
        have a2 := cell_grown KB2.out hg (fun e => by have := HBS.out _ e.symm; have := LB.out; omega)
        have a3 := cell_grown KR2.out hg (fun e => by have := HBS.out _ e.symm; have := LR.out; omega)
        exact neededW_closure s (timesL s C r) P g cap w.heap.size ga gb (w.heap.size + 1) (some ⟨g8, 0, none⟩) cap8 x r W (own_other HD2.out hg HDN.out) HCAP.out hTC.2.2 (by rw [← hTC.1]; exact hTC.2.1) HTL.out pP (HCW.out x hx).1 (HCW.out x hx).2 a1 (by rw [HTL.out]; exact a2) a3
      rintro e w3 ⟨v3, rfl, hR, hg⟩
      have R3 := Aside0.mk hR
      have B5 := Aside0.mk (pw_below_grown HB2.out _ HB2.out.size hg (fun k hk => by have := HBS.out k hk; have := HSZ.out; omega))
      clear hR hg
      go_wp2
      go_ret2
      rw [HZ.out]
      refine ⟨_, rfl, ?_, B5.out⟩
      have := R3.out
      rw [HFI.out] at this
      exact this
  · have HZ : Aside0 (neededR s C r = ([], Q.rCover s C r)) := ⟨by unfold neededR; rw [if_neg hz]⟩
    clear HBC
    generalize Q.rCover s C r = z at *
    go_wp2
    go_ret2
    rw [HZ.out]
    exact ⟨_, rfl, Kd.R_nil _ _ _ _ _, B1.out⟩
def impl_NeededWords.f (l0_0 l1 : List Int) (a2 : Int) : Option (List Int × Int) := if l1.length ≤ 1048576 then some (neededR l0_0 l1 a2) else none
theorem impl_NeededWords.calls (A0_0 : Option Addr) (c0_0 : Nat) (l0_0 : List Int) (A1 : Option Addr) (c1 : Nat) (l1 : List Int) (a2 : Int) (r1 : List Int) (r2 : Int) (w : World) (hr0_0 : Kd.C (Kd.int .i64) w A0_0 l0_0.length l0_0) (hc0_0 : l0_0.length ≤ c0_0) (hr1 : Kd.C (Kd.int .i64) w A1 l1.length l1) (hc1 : l1.length ≤ c1) (h : impl_NeededWords.f l0_0 l1 a2 = some (r1, r2)) :
    Calls Try.prog 49 #[.agg #[.slice A0_0 l0_0.length c0_0], .slice A1 l1.length c1, .int .i64 a2] w fun e w' => ∃ v0_ : Value, e = .returned (.tuple #[v0_, .int .i64 r2]) ∧ Kd.R (Kd.int .i64) 2 w' w.heap.size (fun _ => True) v0_ r1 ∧ Below w.heap.size w w' := by
  unfold impl_NeededWords.f at h
  split at h
  · rename_i hl
    have h2 := Option.some.inj h
    have e1 : (neededR l0_0 l1 a2).1 = r1 := by rw [h2]
    have e2 : (neededR l0_0 l1 a2).2 = r2 := by rw [h2]
    subst e1 e2
    exact neededW_calls A0_0 c0_0 l0_0 A1 c1 l1 a2 w hr0_0 hc0_0 hr1 hc1 hl
  · cases h
end Go.Proofs.Ytlfipjdjmpdblaa.P
set_option linter.unusedVariables false
set_option linter.unusedSimpArgs false
namespace Go.Proofs.Ytlfipjdjmpdblaa.Q
open Go.RowKit Go.Proofs.Ytlfipjdjmpdblaa.P Go.Proofs.YtlfipjdjmpdblaaW.PrintWords CC
namespace ELeanCode
def decV (L : List Int) (x : Int) : List Int := L.set x.toNat (rd L x - 1)
theorem decV_length (L : List Int) (x : Int) : (decV L x).length = L.length := by simp [decV]
theorem decV_gen (f : Nat → Int) (P : Nat) {x : Nat} (h : x < P) : decV ((List.range P).map f) (x : Int) = (List.range P).map fun u => f u - if u = x then 1 else 0 := by
  unfold decV
  rw [Int.toNat_natCast]
  apply List.ext_getElem?
  intro k
  by_cases hk : k = x
  · subst hk
    rw [List.getElem?_set_self (by simpa using h)]
    simp [rd, List.getD_eq_getElem?_getD, h]
  · rw [List.getElem?_set_ne (fun e => hk e.symm)]
    simp only [List.getElem?_map]
    by_cases hp : k < P
    · simp [hp, hk]
    · rw [List.getElem?_eq_none (by simp; omega)]
      rfl
theorem decV_fold (P : Nat) (p : Int → Bool) : ∀ (n : Nat) (f : Nat → Int), n ≤ P → (selL p n).foldl decV ((List.range P).map f) = (List.range P).map fun u => f u - if u < n ∧ p (u : Int) = true then 1 else 0
  | 0, f, _ => by simp [selL]
  | n + 1, f, h => by
    rw [selL_succ, List.foldl_append, decV_fold P p n f (by omega)]
    by_cases hp : p (n : Int) = true
    · rw [if_pos hp]
      simp only [List.foldl_cons, List.foldl_nil]
      rw [decV_gen _ P (show n < P by omega)]
      apply List.map_congr_left
      intro u _
      by_cases hu : u = n
      · subst hu
        simp [hp]
      · by_cases hu2 : u < n
        · have : u < n + 1 := by omega
          simp [hu, hu2, this]
        · have : ¬ u < n + 1 := by omega
          simp [hu, hu2, this]
    · rw [if_neg hp, List.foldl_nil]
      apply List.map_congr_left
      intro u _
      by_cases hu : u = n
      · subst hu
        simp [hp]
      · by_cases hu2 : u < n
        · have : u < n + 1 := by omega
          simp [hu2, this]
        · have : ¬ u < n + 1 := by omega
          simp [hu2, this]
theorem decL_fold {s : List Int} (hs : isSp s = true) {T : List Int} (hT : T.length = NW s) (x r : Int) : (ballL s x r).foldl decV T = decL s T x r := by
  have e : T = (List.range (NW s)).map fun (u : Nat) => rd T (u : Int) := (range_rd T hT).symm
  rw [show decL s T x r = (List.range (NW s)).map fun (u : Nat) => if ham (dig8 s x) (dig8 s (u : Int)) ≤ r then rd T (u : Int) - 1 else rd T (u : Int) from by unfold decL; rw [hT]]
  conv => lhs; rw [e]
  unfold ballL
  rw [decV_fold (NW s) _ (NW s) _ (Nat.le_refl _)]
  apply List.map_congr_left
  intro u hu
  have hu' := List.mem_range.1 hu
  rw [ham_dig8 (isSp_len hs)]
  by_cases hh : dist s x (u : Int) ≤ r <;> simp [hh, hu']
def lowb (L : List Int) (b : Int) : Prop := ∀ u : Nat, -b ≤ rd L (u : Int) ∧ rd L (u : Int) ≤ 1048576
theorem rd_set2 (L : List Int) (k u : Nat) (v : Int) : rd (L.set k v) (u : Int) = if k = u ∧ k < L.length then v else rd L (u : Int) := by
  simp only [rd, Int.toNat_natCast, List.getD_eq_getElem?_getD, List.getElem?_set]
  by_cases h : k = u
  · subst h
    by_cases h2 : k < L.length
    · simp [h2]
    · simp [h2]
  · simp [h]
theorem lowb_dec {L : List Int} {b : Int} (h : lowb L b) (x : Int) (hb : 0 ≤ b) : lowb (decV L x) (b + 1) := by
  intro u
  unfold decV
  rw [rd_set2]
  have h1 := h u
  have h2 := h x.toNat
  split
  · by_cases hx : 0 ≤ x
    · rw [Int.toNat_of_nonneg hx] at h2
      omega
    · have : rd L x = rd L ((x.toNat : Nat) : Int) := by unfold rd; rw [Int.toNat_natCast]
      rw [this]
      omega
  · omega
theorem specLean_in {s c B : List Int} {r : Int} {n : Nat} (hB : ∀ x ∈ B, 0 ≤ x ∧ x < NW s) (hBl : B.length ≤ 1024) (O : List Int) (R : List Int × Int) (hn : n ≤ 1024) :
    ∀ (m k0 : Nat) (L : List Int), k0 + m = B.length → L.length = NW s → lowb L ((n : Int) + k0) →
      Ev (fun k => spec_LeanCode.l0 k c r ((B.drop k0).foldl decV L) O (((n + 1 : Nat)) : Int) s) R → Ev (fun k => spec_LeanCode.l1 k c r L O (n : Int) B (k0 : Int) s) R
  | 0, k0, L, hm, hL, hsm, hev => by
    refine Ev.step (fun k => by simp only [spec_LeanCode.l1]; exact rfl) ?_
    refine Ev.iff_neg (by omega) ?_
    rw [wrap_nat (by unfold maxLen; omega)]
    rw [drop_all (by omega)] at hev
    exact hev
  | m + 1, k0, L, hm, hL, hsm, hev => by
    have hk : k0 < B.length := by omega
    have hx : 0 ≤ rd B (k0 : Int) ∧ rd B (k0 : Int) < NW s := by
      have : rd B (k0 : Int) = B[k0] := by simp [rd, List.getD_eq_getElem?_getD, hk]
      rw [this]
      exact hB _ (List.getElem_mem hk)
    have hr := hsm (rd B (k0 : Int)).toNat
    rw [Int.toNat_of_nonneg hx.1] at hr
    refine Ev.step (fun k => by simp only [spec_LeanCode.l1]; exact rfl) ?_
    refine Ev.iff_pos (by omega) (Ev.iff_pos (by omega) (Ev.iff_pos hx.1 (Ev.iff_pos (by rw [hL]; exact hx.2) ?_)))
    rw [wrap_nat (by unfold maxLen; omega), wrap_id (x := rd L (rd B (k0 : Int)) - 1) (by omega) (by omega)]
    refine specLean_in hB hBl O R hn m (k0 + 1) (decV L (rd B (k0 : Int))) (by omega) (by rw [decV_length]; exact hL) ?_ ?_
    · have := lowb_dec hsm (rd B (k0 : Int)) (by omega)
      have e : (n : Int) + ((k0 + 1 : Nat) : Int) = (n : Int) + k0 + 1 := by omega
      rw [e]
      exact this
    · rw [drop_cons B hk, List.foldl_cons] at hev
      exact hev
theorem specLean_l {s c : List Int} (hs : isSp s = true) (hc : isC s c = true) {r : Int} {T0 : List Int} (hT0 : T0.length = NW s) (hb : ∀ u : Nat, 0 ≤ rd T0 (u : Int) ∧ rd T0 (u : Int) ≤ 1048576) : ∀ (m n : Nat), n + m = c.length →
    Ev (fun k => spec_LeanCode.l0 k c r (leanQ s c r T0 n).2 (leanQ s c r T0 n).1 (n : Int) s) ((leanQ s c r T0 c.length).1, 0)
  | 0, n, hm => by
    refine Ev.step (fun k => by simp only [spec_LeanCode.l0]; exact rfl) ?_
    refine Ev.iff_neg (by omega) ?_
    have : n = c.length := by omega
    subst this
    exact Ev.now _
  | m + 1, n, hm => by
    have hn : n < c.length := by omega
    have hl := isC_len hs hc
    have ih := specLean_l hs hc (r := r) hT0 hb m (n + 1) (by omega)
    have hTl : (leanQ s c r T0 n).2.length = NW s := by rw [leanQ_length]; exact hT0
    have hO := leanQ_out s c r T0 n
    have hbd := leanQ_bd s c r T0 hb n
    rw [leanQ] at ih
    refine Ev.step (fun k => by simp only [spec_LeanCode.l0]; exact rfl) ?_
    refine Ev.iff_pos (by omega) (Ev.iff_pos (by omega) ?_)
    refine Ev.bind (l02Needed_ev hs hTl (isC_rd hc hn) r) ?_
    have eN : (prd s).toNat = NW s := rfl
    rw [eN] at ih
    generalize (leanQ s c r T0 n).2 = T at *
    generalize (leanQ s c r T0 n).1 = O at *
    by_cases h : needQ s T (rd c (n : Int)) r 0 (NW s) = true
    · rw [if_pos h] at ih
      refine Ev.iff_pos h ?_
      refine Ev.iff_pos (by omega) ?_
      rw [wrap_nat (by unfold maxLen; omega)]
      exact ih
    · rw [if_neg h] at ih
      refine Ev.iff_neg h ?_
      refine Ev.bind (l01Ball_ev hs (isC_rd hc hn) r) ?_
      refine specLean_in (B := ballL s (rd c (n : Int)) r) (fun x hx => by have := mem_selL.1 hx; exact ⟨this.1, this.2.1⟩) (ballL_len hs _ _) O _ (by omega) (ballL s (rd c (n : Int)) r).length 0 T (by omega) hTl (fun u => by have := hbd u; omega) ?_
      rw [List.drop_zero, decL_fold hs hTl]
      exact ih
theorem timesL_covL {s c : List Int} (hs : isSp s = true) (hc : isC s c = true) (r : Int) : timesL s c r = covL s c r := by
  have h := times_eq hs hc r
  have hl := isC_len hs hc
  unfold impl_times.f at h
  rw [if_pos ⟨hs, by rw [List.all_eq_true]; exact isC_words hc, by omega⟩] at h
  exact Option.some.inj h
theorem specLeanCode_ev (s : List Int) {c : List Int} (hcl : c.length ≤ 1048576) (r : Int) : Ev (fun k => spec_LeanCode.f k s c r) (leanR s c r) := by
  unfold spec_LeanCode.f leanR
  refine Ev.bind (l02Code_ev s hcl r) ?_
  by_cases h : rCover s c r = 0
  · obtain ⟨hs, hc, _⟩ := rCover_zero h
    simp only [if_pos h]
    refine Ev.bind (l02Times_ev hs hc r) ?_
    have := specLean_l hs hc (r := r) (T0 := covL s c r) (covL_length s c r) (fun u => by rw [← timesL_covL hs hc]; exact timesL_bd s c r hcl u) c.length 0 (by omega)
    rw [timesL_covL hs hc]
    exact this
  · simp only [if_neg h]
    exact Ev.now _
theorem leanR_len (s c : List Int) (r : Int) : (leanR s c r).1.length ≤ 1024 := by
  unfold leanR
  by_cases h : rCover s c r = 0
  · rw [if_pos h]
    have := isC_len (rCover_zero h).1 (rCover_zero h).2.1
    have := leanQ_out s c r (timesL s c r) c.length
    show (leanQ s c r (timesL s c r) c.length).1.length ≤ 1024
    omega
  · rw [if_neg h]
    simp
theorem implLeanCode_eq (s : List Int) {c : List Int} (hcl : c.length ≤ 1048576) (r : Int) : impl_LeanCode.f s c r = some (leanR s c r) := by
  unfold impl_LeanCode.f
  rw [if_pos hcl]
end ELeanCode
namespace ENeededWords
theorem specNeeded_l {s c : List Int} (hs : isSp s = true) (hc : isC s c = true) {r : Int} {T : List Int} (hT : T.length = NW s) : ∀ (m n : Nat), n + m = c.length →
    Ev (fun k => spec_NeededWords.l0 k c r T ((c.take n).filter fun x => needQ s T x r 0 (NW s)) (n : Int) s) (c.filter fun x => needQ s T x r 0 (NW s), 0)
  | 0, n, hm => by
    refine Ev.step (fun k => by simp only [spec_NeededWords.l0]; exact rfl) ?_
    refine Ev.iff_neg (by omega) ?_
    rw [List.take_of_length_le (by omega)]
    exact Ev.now _
  | m + 1, n, hm => by
    have hn : n < c.length := by omega
    have hl := isC_len hs hc
    have hl1 := List.length_filter_le (fun x => needQ s T x r 0 (NW s)) (c.take n)
    have hl2 : (c.take n).length ≤ n := List.length_take_le _ _
    have ih := specNeeded_l hs hc (r := r) hT m (n + 1) (by omega)
    rw [take_rd8 hn, List.filter_append] at ih
    refine Ev.step (fun k => by simp only [spec_NeededWords.l0]; exact rfl) ?_
    refine Ev.iff_pos (by omega) (Ev.iff_pos (by omega) ?_)
    refine Ev.bind (l02Needed_ev hs hT (isC_rd hc hn) r) ?_
    rw [wrap_nat (by unfold maxLen; omega)]
    by_cases h : needQ s T (rd c (n : Int)) r 0 (NW s) = true
    · refine Ev.iff_pos h ?_
      refine Ev.iff_pos (by omega) ?_
      simpa [h] using ih
    · refine Ev.iff_neg h ?_
      simpa [h] using ih
theorem timesL_covL {s c : List Int} (hs : isSp s = true) (hc : isC s c = true) (r : Int) : timesL s c r = covL s c r := by
  have h := times_eq hs hc r
  have hl := isC_len hs hc
  unfold impl_times.f at h
  rw [if_pos ⟨hs, by rw [List.all_eq_true]; exact isC_words hc, by omega⟩] at h
  exact Option.some.inj h
theorem specNeededWords_ev (s : List Int) {c : List Int} (hcl : c.length ≤ 1048576) (r : Int) : Ev (fun k => spec_NeededWords.f k s c r) (neededR s c r) := by
  unfold spec_NeededWords.f neededR
  refine Ev.bind (l02Code_ev s hcl r) ?_
  by_cases h : rCover s c r = 0
  · obtain ⟨hs, hc, _⟩ := rCover_zero h
    simp only [if_pos h]
    refine Ev.bind (l02Times_ev hs hc r) ?_
    have := specNeeded_l hs hc (r := r) (T := covL s c r) (covL_length s c r) c.length 0 (by omega)
    rw [timesL_covL hs hc, show (prd s).toNat = NW s from rfl]
    simpa using this
  · simp only [if_neg h]
    exact Ev.now _
theorem neededR_len (s : List Int) {c : List Int} (hcl : c.length ≤ 1048576) (r : Int) : (neededR s c r).1.length ≤ 1048576 := by
  unfold neededR
  by_cases h : rCover s c r = 0
  · rw [if_pos h]
    have := List.length_filter_le (fun x => needQ s (timesL s c r) x r 0 (prd s).toNat) c
    show (c.filter _).length ≤ 1048576
    omega
  · rw [if_neg h]
    simp
theorem implNeededWords_eq (s : List Int) {c : List Int} (hcl : c.length ≤ 1048576) (r : Int) : impl_NeededWords.f s c r = some (neededR s c r) := by
  unfold impl_NeededWords.f
  rw [if_pos hcl]
end ENeededWords
def rUncoveredWords (s c : List Int) (r : Int) : List Int × Int := if rCover s c r = 0 then (zer (covL s c r), 0) else ([], rCover s c r)
theorem rUncoveredWords_len (s c : List Int) (r : Int) : (rUncoveredWords s c r).1.length ≤ 1024 := by
  unfold rUncoveredWords
  by_cases h : rCover s c r = 0
  · rw [if_pos h]
    have := selL_len (fun i => decide (rd (covL s c r) i = 0)) (covL s c r).length
    have := NW_le (rCover_zero h).1
    rw [covL_length] at *
    show (zer _).length ≤ 1024
    unfold zer
    rw [covL_length]
    omega
  · rw [if_neg h]
    simp
theorem implUncoveredWords_l {L : List Int} (hL : L.length ≤ 1024) : ∀ (m n : Nat), n + m = L.length →
    Ev (fun k => impl_UncoveredWords.l0 k (selL (fun i => decide (rd L i = 0)) n) L (L.length : Int) (n : Int)) (zer L, 0)
  | 0, n, hm => by
    refine Ev.step (fun k => by simp only [impl_UncoveredWords.l0]; exact rfl) ?_
    refine Ev.iff_neg (by omega) ?_
    have : n = L.length := by omega
    subst this
    exact Ev.now _
  | m + 1, n, hm => by
    have hn : n < L.length := by omega
    have hl := selL_len (fun i => decide (rd L i = 0)) n
    refine Ev.step (fun k => by simp only [impl_UncoveredWords.l0]; exact rfl) ?_
    refine Ev.iff_pos (by omega) ?_
    refine Ev.iff_pos (by omega) ?_
    refine Ev.iff_pos (by omega) ?_
    have ih := implUncoveredWords_l hL m (n + 1) (by omega)
    rw [selL_succ] at ih
    by_cases h : rd L (n : Int) = 0
    · refine Ev.iff_pos h ?_
      refine Ev.iff_pos (by omega) ?_
      rw [wrap_nat (by unfold maxLen; omega)]
      simpa [h] using ih
    · refine Ev.iff_neg h ?_
      rw [wrap_nat (by unfold maxLen; omega)]
      simpa [h] using ih
theorem specUncoveredWords_ev (s : List Int) {c : List Int} (hcl : c.length ≤ 1048576) (r : Int) : Ev (fun k => spec_UncoveredWords.f k s c r) (rUncoveredWords s c r) := by
  unfold spec_UncoveredWords.f rUncoveredWords
  refine Ev.bind (l02Code_ev s hcl r) ?_
  by_cases h : rCover s c r = 0
  · obtain ⟨hs, hc, _⟩ := rCover_zero h
    simp only [if_pos h]
    exact Ev.bind (l02Uncovered_ev hs hc r) (Ev.now _)
  · simp only [if_neg h]
    exact Ev.now _
theorem implUncoveredWords_ev (s : List Int) {c : List Int} (hcl : c.length ≤ 1048576) (r : Int) : Ev (fun k => impl_UncoveredWords.f k s c r) (rUncoveredWords s c r) := by
  unfold impl_UncoveredWords.f rUncoveredWords
  refine Ev.bind (coverCode_ev s hcl r) ?_
  by_cases h : rCover s c r = 0
  · obtain ⟨hs, hc, _⟩ := rCover_zero h
    have hN := NW_le hs
    simp only [if_pos h]
    refine Ev.bindc (times_eq hs hc r) ?_
    exact implUncoveredWords_l (L := covL s c r) (by rw [covL_length]; omega) (covL s c r).length 0 (by omega)
  · simp only [if_neg h]
    exact Ev.now _
def rCoversSpace (s c : List Int) (r : Int) : Bool × Int := if rCover s c r = 0 then (decide (0 ∉ covL s c r), 0) else (false, rCover s c r)
theorem index_l {L : List Int} (hL : L.length ≤ 1048576) (x : Int) : ∀ (m n : Nat), n + m = L.length →
    ∃ i, Ev (fun k => slices_Index_int64_int64.l0 k L x (L.length : Int) (n : Int)) i ∧ (0 ≤ i ↔ x ∈ L.drop n)
  | 0, n, hm => by
    refine ⟨-1, Ev.step (fun k => by simp only [slices_Index_int64_int64.l0]; exact rfl) (Ev.iff_neg (by omega) (Ev.now _)), ?_⟩
    rw [drop_all (by omega)]
    simp
  | m + 1, n, hm => by
    have hn : n < L.length := by omega
    rw [drop_cons L hn]
    by_cases h : x = rd L (n : Int)
    · refine ⟨(n : Int), Ev.step (fun k => by simp only [slices_Index_int64_int64.l0]; exact rfl) ?_, ?_⟩
      · refine Ev.iff_pos (by omega) ?_
        refine Ev.iff_pos (by omega) ?_
        refine Ev.iff_pos (by omega) ?_
        exact Ev.iff_pos h (Ev.now _)
      · simp [h]
        
    · obtain ⟨i, h1, h2⟩ := index_l hL x m (n + 1) (by omega)
      refine ⟨i, Ev.step (fun k => by simp only [slices_Index_int64_int64.l0]; exact rfl) ?_, ?_⟩
      · refine Ev.iff_pos (by omega) ?_
        refine Ev.iff_pos (by omega) ?_
        refine Ev.iff_pos (by omega) ?_
        refine Ev.iff_neg h ?_
        rw [wrap_nat (by unfold maxLen; omega)]
        exact h1
      · rw [h2]
        simp [h]
theorem contains_ev {L : List Int} (hL : L.length ≤ 1048576) (x : Int) : Ev (fun k => slices_Contains_int64_int64.f k L x) (decide (x ∈ L)) := by
  unfold slices_Contains_int64_int64.f slices_Index_int64_int64.f
  obtain ⟨i, h1, h2⟩ := index_l hL x L.length 0 (by omega)
  rw [List.drop_zero] at h2
  refine Ev.bind h1 ?_
  have : decide (i ≥ 0) = decide (x ∈ L) := by
    rw [decide_eq_decide]
    exact h2
  rw [this]
  exact Ev.now _
theorem zer_nil (L : List Int) : (((zer L).length : Int) == 0) = decide (0 ∉ L) := by
  by_cases h : (0 : Int) ∈ L
  · obtain ⟨n, hn, e⟩ := List.getElem_of_mem h
    have hm : (n : Int) ∈ zer L := by
      unfold zer
      rw [mem_selL]
      refine ⟨by omega, by omega, ?_⟩
      simp [rd, List.getD_eq_getElem?_getD, hn, e]
    have := List.length_pos_of_mem hm
    simp only [h, not_true_eq_false, decide_false, beq_eq_false_iff_ne]
    omega
  · have : zer L = [] := by
      rw [List.eq_nil_iff_forall_not_mem]
      intro x hx
      unfold zer at hx
      rw [mem_selL] at hx
      obtain ⟨n, rfl⟩ := Int.eq_ofNat_of_zero_le hx.1
      have hn : n < L.length := by omega
      have e : rd L (n : Int) = 0 := by simpa using hx.2.2
      apply h
      have e2 : rd L (n : Int) = L[n] := by simp [rd, List.getD_eq_getElem?_getD, hn]
      rw [← e, e2]
      exact List.getElem_mem hn
    simp [this, h]
theorem specCoversSpace_ev (s : List Int) {c : List Int} (hcl : c.length ≤ 1048576) (r : Int) : Ev (fun k => spec_CoversSpace.f k s c r) (rCoversSpace s c r) := by
  unfold spec_CoversSpace.f rCoversSpace
  refine Ev.bind (l02Code_ev s hcl r) ?_
  by_cases h : rCover s c r = 0
  · obtain ⟨hs, hc, _⟩ := rCover_zero h
    simp only [if_pos h]
    refine Ev.bind (l02Uncovered_ev hs hc r) ?_
    rw [zer_nil]
    exact Ev.now _
  · simp only [if_neg h]
    exact Ev.now _
theorem implCoversSpace_ev (s : List Int) {c : List Int} (hcl : c.length ≤ 1048576) (r : Int) : Ev (fun k => impl_CoversSpace.f k s c r) (rCoversSpace s c r) := by
  unfold impl_CoversSpace.f rCoversSpace
  refine Ev.bind (coverCode_ev s hcl r) ?_
  by_cases h : rCover s c r = 0
  · obtain ⟨hs, hc, _⟩ := rCover_zero h
    have hN := NW_le hs
    simp only [if_pos h]
    unfold impl_covers.f
    have e : Ev (fun k => (impl_times.f s c r).bind fun t102 => (slices_Contains_int64_int64.f k t102 0).bind fun t105 => some !t105) (!decide (0 ∈ covL s c r)) :=
      Ev.bindc (times_eq hs hc r) (Ev.bind (contains_ev (by rw [covL_length]; omega) 0) (Ev.now _))
    refine Ev.bind e ?_
    rw [decide_not]
    exact Ev.now _
  · simp only [if_neg h]
    exact Ev.now _
end Go.Proofs.Ytlfipjdjmpdblaa.Q
namespace Go.Proofs.Ytlfipjdjmpdblaa.P
open Go.RowKit Go.Proofs.YtlfipjdjmpdblaaW.PrintWords Go.Proofs.YtlfipjdjmpdblaaW.PrintLast Go.Proofs.YtlfipjdjmpdblaaW.PrintMore
attribute [local go_sem] max2_int min2_int max_two min_two max_three min_three max_four min_four
set_option linter.unusedVariables false
set_option linter.unusedSimpArgs false
mutual
def laws_FnCovers.j0 : Nat → List Int → List Int → Int → List Int → Int → Bool → List Int → Option (Bool)
  | 0, _, _, _, _, _, _, _ => none
  | k + 1, x0, x4, x5, x6, x7, x67, x110000 => if x67 = true then (some false) else ((impl_UncoveredWords.f k x110000 x4 x5).bind fun bt119 => ((spec_UncoveredWords.f k x110000 x4 x5).bind fun bt123 => (if bt119.2 = bt123.2 then ((laws_likeInts.f k bt119.1 bt123.1).bind fun t127 => (laws_FnCovers.j1 k x0 x4 x5 x6 x7 bt119.1 bt119.2 (!t127) x110000)) else (laws_FnCovers.j1 k x0 x4 x5 x6 x7 bt119.1 bt119.2 true x110000))))
def laws_FnCovers.j1 : Nat → List Int → List Int → Int → List Int → Int → List Int → Int → Bool → List Int → Option (Bool)
  | 0, _, _, _, _, _, _, _, _, _ => none
  | k + 1, x0, x4, x5, x6, x7, x10, x11, x90, x110000 => if x90 = true then (some false) else ((impl_NeededWords.f x110000 x4 x5).bind fun bt128 => ((spec_NeededWords.f k x110000 x4 x5).bind fun bt132 => (if bt128.2 = bt132.2 then ((laws_likeInts.f k bt128.1 bt132.1).bind fun t136 => (laws_FnCovers.j2 k x0 x4 x5 x6 x7 x10 x11 bt128.1 bt128.2 (!t136) x110000)) else (laws_FnCovers.j2 k x0 x4 x5 x6 x7 x10 x11 bt128.1 bt128.2 true x110000))))
def laws_FnCovers.j2 : Nat → List Int → List Int → Int → List Int → Int → List Int → Int → List Int → Int → Bool → List Int → Option (Bool)
  | 0, _, _, _, _, _, _, _, _, _, _, _ => none
  | k + 1, x0, x4, x5, x6, x7, x10, x11, x14, x15, x113, x110000 => if x113 = true then (some false) else ((impl_CoversSpace.f k x110000 x4 x5).bind fun bt137 => ((spec_CoversSpace.f k x110000 x4 x5).bind fun bt139 => (if bt137.2 = bt139.2 then (laws_FnCovers.j3 k x0 x5 x6 x7 x10 x11 x14 x15 bt137.1 bt137.2 (bt137.1 != bt139.1) x110000) else (laws_FnCovers.j3 k x0 x5 x6 x7 x10 x11 x14 x15 bt137.1 bt137.2 true x110000))))
def laws_FnCovers.j3 : Nat → List Int → Int → List Int → Int → List Int → Int → List Int → Int → Bool → Int → Bool → List Int → Option (Bool)
  | 0, _, _, _, _, _, _, _, _, _, _, _, _ => none
  | k + 1, x0, x5, x6, x7, x10, x11, x14, x15, x18, x19, x135, x110000 => if x135 = true then (some false) else ((spec_DrawRadiusOf.f k x0).bind fun bt141 => ((impl_RadiusOf.f k bt141.1 bt141.2).bind fun bt148 => ((spec_RadiusOf.f k bt141.1 bt141.2).bind fun bt150 => (if bt148.2 = bt150.2 then (laws_FnCovers.j4 k x5 x6 x7 x10 x11 x14 x15 x18 x19 bt141.2 bt148.1 bt148.2 (bt148.1 != bt150.1) x110000 bt141.1) else (laws_FnCovers.j4 k x5 x6 x7 x10 x11 x14 x15 x18 x19 bt141.2 bt148.1 bt148.2 true x110000 bt141.1)))))
def laws_FnCovers.j4 : Nat → Int → List Int → Int → List Int → Int → List Int → Int → Bool → Int → List Int → Int → Int → Bool → List Int → List Int → Option (Bool)
  | 0, _, _, _, _, _, _, _, _, _, _, _, _, _, _, _ => none
  | k + 1, x5, x6, x7, x10, x11, x14, x15, x18, x19, x23, x24, x25, x160, x110000, x148000 => if x160 = true then (some false) else (if x25 = 0 then ((impl_CoversSpace.f k x148000 x23 x24).bind fun bt152 => (if bt152.2 = 0 then (laws_FnCovers.j5 k x5 x6 x7 x10 x11 x14 x15 x18 x19 x23 x24 (!bt152.1) x110000 x148000) else (laws_FnCovers.j5 k x5 x6 x7 x10 x11 x14 x15 x18 x19 x23 x24 true x110000 x148000))) else (laws_FnCovers.j6 k x5 x6 x7 x10 x11 x14 x15 x18 x19 x110000))
def laws_FnCovers.j6 : Nat → Int → List Int → Int → List Int → Int → List Int → Int → Bool → Int → List Int → Option (Bool)
  | 0, _, _, _, _, _, _, _, _, _, _ => none
  | k + 1, x5, x6, x7, x10, x11, x14, x15, x18, x19, x110000 => if x7 = 0 then ((impl_UncoveredWords.f k x110000 x6 x5).bind fun bt156 => ((impl_NeededWords.f x110000 x6 x5).bind fun bt160 => (if x11 = 0 then (if x15 = 0 then (if x19 = 0 then (if bt156.2 = 0 then (if bt160.2 = 0 then ((laws_likeInts.f k bt156.1 x10).bind fun t164 => (if t164 = true then ((laws_likeInts.f k bt160.1 x6).bind fun t165 => (if t165 = true then (laws_FnCovers.j7 k x6 x14 (x18 != ((x10.length : Int) == 0))) else (laws_FnCovers.j7 k x6 x14 true))) else (laws_FnCovers.j7 k x6 x14 true))) else (laws_FnCovers.j7 k x6 x14 true)) else (laws_FnCovers.j7 k x6 x14 true)) else (laws_FnCovers.j7 k x6 x14 true)) else (laws_FnCovers.j7 k x6 x14 true)) else (laws_FnCovers.j7 k x6 x14 true)))) else (if (x6.length : Int) = 0 then (if x11 = x7 then (if x15 = x7 then (some (x19 == x7)) else (some false)) else (some false)) else (some false))
def laws_FnCovers.j7 : Nat → List Int → List Int → Bool → Option (Bool)
  | 0, _, _, _ => none
  | k + 1, x6, x14, x261 => if x261 = true then (some false) else (laws_FnCovers.l0 k x6 x14 0)
def laws_FnCovers.l0 : Nat → List Int → List Int → Int → Option (Bool)
  | 0, _, _, _ => none
  | k + 1, x6, x14, x36 => if x36 < (x14.length : Int) then (if 0 ≤ x36 then ((laws_hasInt.f k x6 (rd x14 x36)).bind fun t167 => (if t167 = true then (laws_FnCovers.l0 k x6 x14 (wrap64 (x36 + 1))) else (some false))) else (none)) else (some true)
def laws_FnCovers.j5 : Nat → Int → List Int → Int → List Int → Int → List Int → Int → Bool → Int → List Int → Int → Bool → List Int → List Int → Option (Bool)
  | 0, _, _, _, _, _, _, _, _, _, _, _, _, _, _ => none
  | k + 1, x5, x6, x7, x10, x11, x14, x15, x18, x19, x23, x24, x175, x110000, x148000 => if x175 = true then (some false) else (if x24 > 0 then ((impl_CoversSpace.f k x148000 x23 (wrap64 (x24 - 1))).bind fun bt154 => (if bt154.2 = 0 then (if bt154.1 = true then (some false) else (laws_FnCovers.j6 k x5 x6 x7 x10 x11 x14 x15 x18 x19 x110000)) else (some false))) else (laws_FnCovers.j6 k x5 x6 x7 x10 x11 x14 x15 x18 x19 x110000))
end
def laws_FnCovers.f (k : Nat) (l0 : List Int) : Option (Bool) := (laws_big.f l0).bind fun t101 => (if t101 = true then (some true) else ((spec_DrawLeanCode.f k l0).bind fun bt102 => ((impl_LeanCode.f bt102.1 bt102.2.1 bt102.2.2).bind fun bt110 => ((spec_LeanCode.f k bt102.1 bt102.2.1 bt102.2.2).bind fun bt114 => (if bt110.2 = bt114.2 then ((laws_likeInts.f k bt110.1 bt114.1).bind fun t118 => (laws_FnCovers.j0 k l0 bt102.2.1 bt102.2.2 bt110.1 bt110.2 (!t118) bt102.1)) else (laws_FnCovers.j0 k l0 bt102.2.1 bt102.2.2 bt110.1 bt110.2 true bt102.1))))))
set_option maxHeartbeats 8000000 in
set_option maxRecDepth 100000 in
theorem laws_FnCovers.calls (k : Nat) (A0 : Option Addr) (c0 : Nat) (l0 : List Int) (r : Bool) (w : World) (hr0 : Kd.C (Kd.int .u8) w A0 l0.length l0) (hc0 : l0.length ≤ c0) (h : laws_FnCovers.f k l0 = some r) :
  Calls Try.prog 5 #[.slice A0 l0.length c0] w fun e w' => e = .returned (.bool r) ∧ Below w.heap.size w w' := by
 have hu26 := Try.underlying26
 have HR0 := Aside0.mk hr0
 have HC0 := Aside0.mk hc0
 clear hr0 hc0
 have HB := Aside0.mk (Below.refl w.heap.size w)
 have H : ((laws_big.f l0).bind fun t101 => (if t101 = true then (some true) else ((spec_DrawLeanCode.f k l0).bind fun bt102 => ((impl_LeanCode.f bt102.1 bt102.2.1 bt102.2.2).bind fun bt110 => ((spec_LeanCode.f k bt102.1 bt102.2.1 bt102.2.2).bind fun bt114 => (if bt110.2 = bt114.2 then ((laws_likeInts.f k bt110.1 bt114.1).bind fun t118 => (laws_FnCovers.j0 k l0 bt102.2.1 bt102.2.2 bt110.1 bt110.2 (!t118) bt102.1)) else (laws_FnCovers.j0 k l0 bt102.2.1 bt102.2.2 bt110.1 bt110.2 true bt102.1))))))) = some r := h
 clear h
 replace H := Option.bind_eq_some_iff.mp H
 obtain ⟨t101, A20, H⟩ := H
 replace H : (if t101 = true then (some true) else ((spec_DrawLeanCode.f k l0).bind fun bt102 => ((impl_LeanCode.f bt102.1 bt102.2.1 bt102.2.2).bind fun bt110 => ((spec_LeanCode.f k bt102.1 bt102.2.1 bt102.2.2).bind fun bt114 => (if bt110.2 = bt114.2 then ((laws_likeInts.f k bt110.1 bt114.1).bind fun t118 => (laws_FnCovers.j0 k l0 bt102.2.1 bt102.2.2 bt110.1 bt110.2 (!t118) bt102.1)) else (laws_FnCovers.j0 k l0 bt102.2.1 bt102.2.2 bt110.1 bt110.2 true bt102.1)))))) = some r := H
 have A2 := Aside0.mk A20
 clear A20
 by_cases c3 : t101 = true
 ·as_aux_lemma =>
  subst c3
  have H1 : (some true) = some r := by rw [if_pos rfl] at H; exact H
  clear H
  have H := H1
  clear H1
  obtain rfl := Option.some.inj H
  go_enter Try.func5, Try.ntmps5
  go_wp2_with (first | ((with_reducible refine gate_callee (f := 6) rfl ?_); refine gl_ (some 38) rfl rfl Try.func6 #[.slice A0 l0.length c0] rfl ?_; (with_reducible refine (laws_big.calls _ _ l0 true _ ?side1 ?side2 A2.out).mono ?_); (case side1 => repeat (first | exact HR0.out | (with_reducible refine Kd.C_alloc ?_ _) | (with_reducible refine Kd.C_drewN ?_ _) | (with_reducible refine Kd.C_drew ?_))); (case side2 => exact HC0.out); rintro e w' ⟨rfl, ⟨nd, rfl⟩⟩; refine ⟨_, rfl, ?_⟩))
  go_ret
  exact ⟨t5_, gb_ HB.out⟩
 as_aux_lemma =>
 replace c3 := Bool.eq_false_iff.mpr c3
 subst c3
 have H1 : ((spec_DrawLeanCode.f k l0).bind fun bt102 => ((impl_LeanCode.f bt102.1 bt102.2.1 bt102.2.2).bind fun bt110 => ((spec_LeanCode.f k bt102.1 bt102.2.1 bt102.2.2).bind fun bt114 => (if bt110.2 = bt114.2 then ((laws_likeInts.f k bt110.1 bt114.1).bind fun t118 => (laws_FnCovers.j0 k l0 bt102.2.1 bt102.2.2 bt110.1 bt110.2 (!t118) bt102.1)) else (laws_FnCovers.j0 k l0 bt102.2.1 bt102.2.2 bt110.1 bt110.2 true bt102.1))))) = some r := by rw [if_neg (show ¬ (false = true) by decide)] at H; exact H
 clear H
 have H := H1
 clear H1
 replace H := Option.bind_eq_some_iff.mp H
 obtain ⟨⟨t102, t105, t108⟩, A40, H⟩ := H
 replace H : ((impl_LeanCode.f t102 t105 t108).bind fun bt110 => ((spec_LeanCode.f k t102 t105 t108).bind fun bt114 => (if bt110.2 = bt114.2 then ((laws_likeInts.f k bt110.1 bt114.1).bind fun t118 => (laws_FnCovers.j0 k l0 t105 t108 bt110.1 bt110.2 (!t118) t102)) else (laws_FnCovers.j0 k l0 t105 t108 bt110.1 bt110.2 true t102)))) = some r := H
 have A4 := Aside0.mk A40
 clear A40
 replace H := Option.bind_eq_some_iff.mp H
 obtain ⟨⟨t110, t113⟩, A50, H⟩ := H
 replace H : ((spec_LeanCode.f k t102 t105 t108).bind fun bt114 => (if t113 = bt114.2 then ((laws_likeInts.f k t110 bt114.1).bind fun t118 => (laws_FnCovers.j0 k l0 t105 t108 t110 t113 (!t118) t102)) else (laws_FnCovers.j0 k l0 t105 t108 t110 t113 true t102))) = some r := H
 have A5 := Aside0.mk A50
 clear A50
 replace H := Option.bind_eq_some_iff.mp H
 obtain ⟨⟨t114, t117⟩, A60, H⟩ := H
 replace H : (if t113 = t117 then ((laws_likeInts.f k t110 t114).bind fun t118 => (laws_FnCovers.j0 k l0 t105 t108 t110 t113 (!t118) t102)) else (laws_FnCovers.j0 k l0 t105 t108 t110 t113 true t102)) = some r := H
 have A6 := Aside0.mk A60
 clear A60
 have HC7 := Aside0.mk H
 clear H
 go_enter Try.func5, Try.ntmps5
 go_upto_region 6 with (first | ((with_reducible refine gate_callee (f := 6) rfl ?_); refine gl_ (some 38) rfl rfl Try.func6 #[.slice A0 l0.length c0] rfl ?_; (with_reducible refine (laws_big.calls _ _ l0 false _ ?side1 ?side2 A2.out).mono ?_); (case side1 => repeat (first | exact HR0.out | (with_reducible refine Kd.C_alloc ?_ _) | (with_reducible refine Kd.C_drewN ?_ _) | (with_reducible refine Kd.C_drew ?_))); (case side2 => exact HC0.out); rintro e w' ⟨rfl, ⟨nd, rfl⟩⟩; refine ⟨_, rfl, ?_⟩) | ((with_reducible refine gate_callee (f := 44) rfl ?_); refine gl_ (some 41) rfl rfl Try.func44 #[.slice A0 l0.length c0] rfl ?_; (with_reducible refine (spec_DrawLeanCode.calls k _ _ l0 t102 t105 t108 _ ?side1 ?side2 A4.out).mono ?_); (case side1 => repeat (first | exact HR0.out | (with_reducible refine Kd.C_alloc ?_ _) | (with_reducible refine Kd.C_drewN ?_ _) | (with_reducible refine Kd.C_drew ?_))); (case side2 => exact HC0.out); rintro e w8 ⟨v103, v106, rfl, ho0, ho1, hb⟩; refine ⟨_, rfl, ?_⟩; have HO104 := Aside0.mk (Kd.R_lower ho0 (below_size (gb_ HB.out))); have HO107 := Aside0.mk (Kd.R_lower ho1 (below_size (gb_ HB.out))); replace HB := b1_ HB hb; (try clear hb); (try clear hb2); (try clear hk); (try clear hi); (try clear ho0); (try clear ho1)) | ((with_reducible refine gate_dst (N := 3) rfl ?_); refine bx_ (N := 3) (cs := #[.slice none 0 0]) (t := 26) rfl rfl ?_; intro gb109 hg w9 hbox hb; have n0_ := a1_ HO104 hb; have n1_ := a1_ HO107 hb; have n2_ := b1_ HB hb; have n3_ := Aside0.mk (hbox); have n4_ := ge_ hg HB; have n5_ := ge_ hg HB; clear HO104 HO107 HB; have HO104 := n0_; have HO107 := n1_; have HB := n2_; have BK109 := n3_; have GW109 := n4_; have GE109 := n5_; clear n0_ n1_ n2_ n3_ n4_ n5_ hb hbox hg; obtain ⟨Ao10, co10, eo10⟩ := Kd.R_slice HO104.out; subst eo10; have hcz11_0 := hz_ BK109; have hfz11_0 := blk_frozen BK109.out 0; obtain ⟨Ao12, co12, eo12⟩ := Kd.R_slice HO107.out; subst eo12) | ((with_reducible refine gate_callee (f := 45) rfl ?_); refine gl_ (some 49) rfl rfl Try.func45 #[.agg #[.slice Ao10 t102.length co10], .slice Ao12 t105.length co12, .int .i64 t108] rfl ?_; (with_reducible refine (impl_LeanCode.calls _ _ t102 _ _ t105 t108 t110 t113 _ ?side1 ?side2 ?side3 ?side4 A5.out).mono ?_); (case side1 => refine (Kd.R_reads' (e := 2) (base := w.heap.size) (ok := fun _ => True) (n := t102.length) (c := co10) ?_).2.2; exact (rb_ (Kd.R_mono (Kd.R_far (p := ⟨gb109, 0, none⟩) (Kd.R_types HO104.out BK109.out (by decide)) (fun _ hk => hk.2) (.slice Ao10 t102.length co10)) (fun _ _ => trivial)))); (case side2 => exact (Kd.R_reads' HO104.out).2.1); (case side3 => refine (Kd.R_reads' (e := 2) (base := w.heap.size) (ok := fun _ => True) (n := t105.length) (c := co12) ?_).2.2; exact (rb_ (Kd.R_mono (Kd.R_far (p := ⟨gb109, 0, none⟩) (Kd.R_types HO107.out BK109.out (by decide)) (fun _ hk => hk.2) (.slice Ao10 t102.length co10)) (fun _ _ => trivial)))); (case side4 => exact (Kd.R_reads' HO107.out).2.1); rintro e w13 ⟨v111, rfl, ho0, hb⟩; refine ⟨_, rfl, ?_⟩; have HO112 := Aside0.mk (Kd.R_lower (Kd.R_new' (Kd.R_new' ho0 (Kd.R_lt (rb_ (Kd.R_mono (Kd.R_far (p := ⟨gb109, 0, none⟩) (Kd.R_types HO104.out BK109.out (by decide)) (fun _ hk => hk.2) (.slice Ao10 t102.length co10)) (fun _ h_ => h_.1))))) (Kd.R_lt (rb_ (Kd.R_mono (Kd.R_far (p := ⟨gb109, 0, none⟩) (Kd.R_types HO107.out BK109.out (by decide)) (fun _ hk => hk.2) (.slice Ao10 t102.length co10)) (fun _ h_ => h_.1))))) (below_size (gb_ HB.out))); replace HO104 := a8_ HO104 BK109 ho0 hb; replace HO107 := a8_ HO107 BK109 ho0 hb; replace BK109 := Aside0.mk (blk_below (g := gb109) (o := .cells #[.slice Ao10 t102.length co10] 26 (0, 0)) (by (with_reducible repeat (first | refine blk_drewN ?_ _ | refine blk_drew ?_ | refine blk_alloc ?_ _)); refine blk_put (cs := #[.slice none 0 0]) ?_ 0 _ rfl; (with_reducible repeat (first | refine blk_drewN ?_ _ | refine blk_drew ?_ | refine blk_alloc ?_ _)); exact BK109.out) hb); replace HB := b1_ HB hb; (try clear hb); (try clear hb2); (try clear hk); (try clear hi); (try clear ho0); have hcz14_0 := hz_ BK109; have hfz14_0 := blk_frozen BK109.out 0) | ((with_reducible refine gate_callee (f := 46) rfl ?_); refine gl_ (some 56) rfl rfl Try.func46 #[.agg #[.slice Ao10 t102.length co10], .slice Ao12 t105.length co12, .int .i64 t108] rfl ?_; (with_reducible refine (spec_LeanCode.calls k _ _ t102 _ _ t105 t108 t114 t117 _ ?side1 ?side2 ?side3 ?side4 A6.out).mono ?_); (case side1 => exact c1_ HO104); (case side2 => exact (Kd.R_reads' HO104.out).2.1); (case side3 => exact c1_ HO107); (case side4 => exact (Kd.R_reads' HO107.out).2.1); rintro e w15 ⟨v115, rfl, ho0, hb⟩; refine ⟨_, rfl, ?_⟩; have HO116 := Aside0.mk (Kd.R_lower (Kd.R_new' (Kd.R_new' (Kd.R_new' ho0 (Kd.R_lt (rb_ HO104.out))) (Kd.R_lt (rb_ HO107.out))) (Kd.R_lt (rb_ HO112.out))) (below_size (gb_ HB.out))); replace HO104 := a5_ HO104 ho0 hb; replace HO107 := a5_ HO107 ho0 hb; replace HO112 := a5_ HO112 ho0 hb; replace BK109 := a2_ BK109 hb; replace HB := b1_ HB hb; (try clear hb); (try clear hb2); (try clear hk); (try clear hi); (try clear ho0)))
 (try simp only [Act.put, List.setIfInBounds_toArray, List.set_cons_zero, List.set_cons_succ])
 go_cut [67] (fun cs_67 wc => ∃ (kq : Nat) (x67_6 : Bool), cs_67 = .bool x67_6 ∧ Aside0 (laws_FnCovers.j0 kq l0 t105 t108 t110 t113 x67_6 t102 = some r) ∧ Aside0 (kq ≤ k) ∧ Aside0 (Kd.R (Kd.int .i64) 2 wc w.heap.size (fun k_ => OB_ k_ v111 ∧ OB_ k_ (.slice Ao10 t102.length co10)) (.slice Ao12 t105.length co12) t105) ∧ Aside0 (Kd.R (Kd.int .i64) 2 wc w.heap.size (fun k_ => OB_ k_ (.slice Ao12 t105.length co12) ∧ OB_ k_ (.slice Ao10 t102.length co10)) v111 t110) ∧ Aside0 (Kd.R (Kd.int .i64) 2 wc w.heap.size (fun k_ => OB_ k_ (.slice Ao12 t105.length co12) ∧ OB_ k_ v111) (.slice Ao10 t102.length co10) t102) ∧ Aside0 (wc.heap[gb109]? = some (.cells #[(.slice Ao10 t102.length co10)] 26 (0, 0))) ∧ Aside0 (Below w.heap.size w wc))
 case first => as_aux_lemma =>
  have H := HC7.out
  clear HC7
  by_cases c16 : t113 = t117
  ·as_aux_lemma =>
   rw [if_pos c16] at H
   have c16b0 : (t113 == t117) = true := beq_iff_eq.mpr c16
   have c16b1 : (t113 != t117) = false := bne_eq_false_iff_eq.mpr c16
   clear c16
   (first | rw [c16b0] | (simp only [i64_w, i32_w]; rw [c16b0]) | skip)
   replace H := Option.bind_eq_some_iff.mp H
   obtain ⟨t118, A170, H⟩ := H
   replace H : (laws_FnCovers.j0 k l0 t105 t108 t110 t113 (!t118) t102) = some r := H
   have A17 := Aside0.mk A170
   clear A170
   have H' := Aside0.mk H
   clear H
   obtain ⟨Ao18, co18, eo18⟩ := Kd.R_slice HO112.out
   subst eo18
   obtain ⟨Ao19, co19, eo19⟩ := Kd.R_slice HO116.out
   subst eo19
   go_wp2_with (first | (go_at_call 18; (with_reducible refine (laws_likeInts.calls k _ _ t110 _ _ t114 t118 _ ?side1 ?side2 ?side3 ?side4 A17.out).mono ?_); (case side1 => exact c1_ HO112); (case side2 => exact (Kd.R_reads' HO112.out).2.1); (case side3 => exact c1_ HO116); (case side4 => exact (Kd.R_reads' HO116.out).2.1); rintro e w' ⟨rfl, ⟨nd, rfl⟩⟩))
   go_meet
   case rel => exact ⟨_, (!t118), t2_, H', ⟨by first | omega | exact Nat.le_refl _⟩, ⟨by (with_reducible repeat (first | apply Kd.R_alloc | apply Kd.R_drewN | apply Kd.R_drew)); exact Kd.R_mono HO107.out (fun _ hk => ⟨hk.1.2, hk.1.1⟩)⟩, ⟨by (with_reducible repeat (first | apply Kd.R_alloc | apply Kd.R_drewN | apply Kd.R_drew)); exact Kd.R_mono HO112.out (fun _ hk => ⟨hk.1.2, hk.1.1.2⟩)⟩, ⟨by (with_reducible repeat (first | apply Kd.R_alloc | apply Kd.R_drewN | apply Kd.R_drew)); exact Kd.R_mono HO104.out (fun _ hk => ⟨hk.1.1, hk.1.2⟩)⟩, ⟨bb_ BK109.out⟩, ⟨gb_ HB.out⟩⟩
  ·as_aux_lemma =>
   rw [if_neg c16] at H
   have c16b0 : (t113 == t117) = false := beq_eq_false_iff_ne.mpr c16
   have c16b1 : (t113 != t117) = true := bne_iff_ne.mpr c16
   (first | rw [c16b0] | (simp only [i64_w, i32_w]; rw [c16b0]) | skip)
   have H' := Aside0.mk H
   clear H
   go_wp2
   go_meet
   case rel => exact ⟨_, (true), t2_, H', ⟨by first | omega | exact Nat.le_refl _⟩, ⟨by (with_reducible repeat (first | apply Kd.R_alloc | apply Kd.R_drewN | apply Kd.R_drew)); exact Kd.R_mono HO107.out (fun _ hk => ⟨hk.1.2, hk.1.1⟩)⟩, ⟨by (with_reducible repeat (first | apply Kd.R_alloc | apply Kd.R_drewN | apply Kd.R_drew)); exact Kd.R_mono HO112.out (fun _ hk => ⟨hk.1.2, hk.1.1.2⟩)⟩, ⟨by (with_reducible repeat (first | apply Kd.R_alloc | apply Kd.R_drewN | apply Kd.R_drew)); exact Kd.R_mono HO104.out (fun _ hk => ⟨hk.1.1, hk.1.2⟩)⟩, ⟨bb_ BK109.out⟩, ⟨gb_ HB.out⟩⟩
 case rest => as_aux_lemma =>
  clear HC7
  try clear c1
  try clear p2
  try clear c3
  try clear c4
  try clear c5
  try clear c6
  try clear c16
  try clear c16b0
  try clear c16b1
  try clear hcz11_0
  try clear hcz14_0
  try clear hfz11_0
  try clear hfz14_0
  obtain ⟨kq, x67_6, rfl, HA, HJ6, HO_4, HO_6, HO_110000, BK109, HB⟩ := hcut
  cases kq with
  | zero => exact absurd HA.out (by simp [laws_FnCovers.j0])
  | succ kj6 =>
   have H := HA.out
   clear HA
   simp only [laws_FnCovers.j0] at H
   by_cases c20 : x67_6 = true
   ·as_aux_lemma =>
    subst c20
    have H1 : (some false) = some r := by rw [if_pos rfl] at H; exact H
    clear H
    have H := H1
    clear H1
    obtain rfl := Option.some.inj H
    go_wp2
    go_ret
    exact ⟨t5_, gb_ HB.out⟩
   ·as_aux_lemma =>
    replace c20 := Bool.eq_false_iff.mpr c20
    subst c20
    have H1 : ((impl_UncoveredWords.f kj6 t102 t105 t108).bind fun bt119 => ((spec_UncoveredWords.f kj6 t102 t105 t108).bind fun bt123 => (if bt119.2 = bt123.2 then ((laws_likeInts.f kj6 bt119.1 bt123.1).bind fun t127 => (laws_FnCovers.j1 kj6 l0 t105 t108 t110 t113 bt119.1 bt119.2 (!t127) t102)) else (laws_FnCovers.j1 kj6 l0 t105 t108 t110 t113 bt119.1 bt119.2 true t102)))) = some r := by rw [if_neg (show ¬ (false = true) by decide)] at H; exact H
    clear H
    have H := H1
    clear H1
    replace H := Option.bind_eq_some_iff.mp H
    obtain ⟨⟨t119, t122⟩, A210, H⟩ := H
    replace H : ((spec_UncoveredWords.f kj6 t102 t105 t108).bind fun bt123 => (if t122 = bt123.2 then ((laws_likeInts.f kj6 t119 bt123.1).bind fun t127 => (laws_FnCovers.j1 kj6 l0 t105 t108 t110 t113 t119 t122 (!t127) t102)) else (laws_FnCovers.j1 kj6 l0 t105 t108 t110 t113 t119 t122 true t102))) = some r := H
    have A21 := Aside0.mk A210
    clear A210
    replace H := Option.bind_eq_some_iff.mp H
    obtain ⟨⟨t123, t126⟩, A220, H⟩ := H
    replace H : (if t122 = t126 then ((laws_likeInts.f kj6 t119 t123).bind fun t127 => (laws_FnCovers.j1 kj6 l0 t105 t108 t110 t113 t119 t122 (!t127) t102)) else (laws_FnCovers.j1 kj6 l0 t105 t108 t110 t113 t119 t122 true t102)) = some r := H
    have A22 := Aside0.mk A220
    clear A220
    have HC23 := Aside0.mk H
    clear H
    have hcz24_0 := hz_ BK109
    have hfz24_0 := blk_frozen BK109.out 0
    go_upto_region 10 with (first | ((with_reducible refine gate_callee (f := 47) rfl ?_); refine gl_ (some 72) rfl rfl Try.func47 #[.agg #[.slice Ao10 t102.length co10], .slice Ao12 t105.length co12, .int .i64 t108] rfl ?_; (with_reducible refine (impl_UncoveredWords.calls kj6 _ _ t102 _ _ t105 t108 t119 t122 _ ?side1 ?side2 ?side3 ?side4 A21.out).mono ?_); (case side1 => exact c1_ HO_110000); (case side2 => exact (Kd.R_reads' HO_110000.out).2.1); (case side3 => exact c1_ HO_4); (case side4 => exact (Kd.R_reads' HO_4.out).2.1); rintro e w25 ⟨v120, rfl, ho0, hb⟩; refine ⟨_, rfl, ?_⟩; have HO121 := Aside0.mk (Kd.R_lower (Kd.R_new' (Kd.R_new' (Kd.R_new' ho0 (Kd.R_lt (rb_ HO_4.out))) (Kd.R_lt (rb_ HO_6.out))) (Kd.R_lt (rb_ HO_110000.out))) (below_size (gb_ HB.out))); replace HO_4 := a5_ HO_4 ho0 hb; replace HO_6 := a5_ HO_6 ho0 hb; replace HO_110000 := a5_ HO_110000 ho0 hb; replace BK109 := a2_ BK109 hb; replace HB := b1_ HB hb; (try clear hb); (try clear hb2); (try clear hk); (try clear hi); (try clear ho0); have hcz26_0 := hz_ BK109; have hfz26_0 := blk_frozen BK109.out 0) | ((with_reducible refine gate_callee (f := 48) rfl ?_); refine gl_ (some 79) rfl rfl Try.func48 #[.agg #[.slice Ao10 t102.length co10], .slice Ao12 t105.length co12, .int .i64 t108] rfl ?_; (with_reducible refine (spec_UncoveredWords.calls kj6 _ _ t102 _ _ t105 t108 t123 t126 _ ?side1 ?side2 ?side3 ?side4 A22.out).mono ?_); (case side1 => exact c1_ HO_110000); (case side2 => exact (Kd.R_reads' HO_110000.out).2.1); (case side3 => exact c1_ HO_4); (case side4 => exact (Kd.R_reads' HO_4.out).2.1); rintro e w27 ⟨v124, rfl, ho0, hb⟩; refine ⟨_, rfl, ?_⟩; have HO125 := Aside0.mk (Kd.R_lower (Kd.R_new' (Kd.R_new' (Kd.R_new' (Kd.R_new' ho0 (Kd.R_lt (rb_ HO_4.out))) (Kd.R_lt (rb_ HO_6.out))) (Kd.R_lt (rb_ HO_110000.out))) (Kd.R_lt (rb_ HO121.out))) (below_size (gb_ HB.out))); replace HO_4 := a5_ HO_4 ho0 hb; replace HO_6 := a5_ HO_6 ho0 hb; replace HO_110000 := a5_ HO_110000 ho0 hb; replace HO121 := a5_ HO121 ho0 hb; replace BK109 := a2_ BK109 hb; replace HB := b1_ HB hb; (try clear hb); (try clear hb2); (try clear hk); (try clear hi); (try clear ho0)))
    (try simp only [Act.put, List.setIfInBounds_toArray, List.set_cons_zero, List.set_cons_succ])
    go_cut [90] (fun cs_90 wc => ∃ (kq : Nat) (x90_22 : Bool), cs_90 = .bool x90_22 ∧ Aside0 (laws_FnCovers.j1 kq l0 t105 t108 t110 t113 t119 t122 x90_22 t102 = some r) ∧ Aside0 (kq ≤ kj6) ∧ Aside0 (Kd.R (Kd.int .i64) 2 wc w.heap.size (fun k_ => OB_ k_ v111 ∧ OB_ k_ v120 ∧ OB_ k_ (.slice Ao10 t102.length co10)) (.slice Ao12 t105.length co12) t105) ∧ Aside0 (Kd.R (Kd.int .i64) 2 wc w.heap.size (fun k_ => OB_ k_ (.slice Ao12 t105.length co12) ∧ OB_ k_ v120 ∧ OB_ k_ (.slice Ao10 t102.length co10)) v111 t110) ∧ Aside0 (Kd.R (Kd.int .i64) 2 wc w.heap.size (fun k_ => OB_ k_ (.slice Ao12 t105.length co12) ∧ OB_ k_ v111 ∧ OB_ k_ (.slice Ao10 t102.length co10)) v120 t119) ∧ Aside0 (Kd.R (Kd.int .i64) 2 wc w.heap.size (fun k_ => OB_ k_ (.slice Ao12 t105.length co12) ∧ OB_ k_ v111 ∧ OB_ k_ v120) (.slice Ao10 t102.length co10) t102) ∧ Aside0 (wc.heap[gb109]? = some (.cells #[(.slice Ao10 t102.length co10)] 26 (0, 0))) ∧ Aside0 (Below w.heap.size w wc))
    case first => as_aux_lemma =>
     have H := HC23.out
     clear HC23
     by_cases c28 : t122 = t126
     ·as_aux_lemma =>
      rw [if_pos c28] at H
      have c28b0 : (t122 == t126) = true := beq_iff_eq.mpr c28
      have c28b1 : (t122 != t126) = false := bne_eq_false_iff_eq.mpr c28
      clear c28
      (first | rw [c28b0] | (simp only [i64_w, i32_w]; rw [c28b0]) | skip)
      replace H := Option.bind_eq_some_iff.mp H
      obtain ⟨t127, A290, H⟩ := H
      replace H : (laws_FnCovers.j1 kj6 l0 t105 t108 t110 t113 t119 t122 (!t127) t102) = some r := H
      have A29 := Aside0.mk A290
      clear A290
      have H' := Aside0.mk H
      clear H
      obtain ⟨Ao30, co30, eo30⟩ := Kd.R_slice HO121.out
      subst eo30
      obtain ⟨Ao31, co31, eo31⟩ := Kd.R_slice HO125.out
      subst eo31
      go_wp2_with (first | (go_at_call 18; (with_reducible refine (laws_likeInts.calls kj6 _ _ t119 _ _ t123 t127 _ ?side1 ?side2 ?side3 ?side4 A29.out).mono ?_); (case side1 => exact c1_ HO121); (case side2 => exact (Kd.R_reads' HO121.out).2.1); (case side3 => exact c1_ HO125); (case side4 => exact (Kd.R_reads' HO125.out).2.1); rintro e w' ⟨rfl, ⟨nd, rfl⟩⟩))
      go_meet
      case rel => exact ⟨_, (!t127), t2_, H', ⟨by have := HJ6.out; first | omega | exact Nat.le_refl _⟩, ⟨by (with_reducible repeat (first | apply Kd.R_alloc | apply Kd.R_drewN | apply Kd.R_drew)); exact Kd.R_mono HO_4.out (fun _ hk => ⟨hk.1.1.1, ⟨hk.1.2, hk.1.1.2⟩⟩)⟩, ⟨by (with_reducible repeat (first | apply Kd.R_alloc | apply Kd.R_drewN | apply Kd.R_drew)); exact Kd.R_mono HO_6.out (fun _ hk => ⟨hk.1.1.1, ⟨hk.1.2, hk.1.1.2⟩⟩)⟩, ⟨by (with_reducible repeat (first | apply Kd.R_alloc | apply Kd.R_drewN | apply Kd.R_drew)); exact Kd.R_mono HO121.out (fun _ hk => ⟨hk.1.1.1.2, ⟨hk.1.1.2, hk.1.2⟩⟩)⟩, ⟨by (with_reducible repeat (first | apply Kd.R_alloc | apply Kd.R_drewN | apply Kd.R_drew)); exact Kd.R_mono HO_110000.out (fun _ hk => ⟨hk.1.1.1, ⟨hk.1.1.2, hk.1.2⟩⟩)⟩, ⟨bb_ BK109.out⟩, ⟨gb_ HB.out⟩⟩
     ·as_aux_lemma =>
      rw [if_neg c28] at H
      have c28b0 : (t122 == t126) = false := beq_eq_false_iff_ne.mpr c28
      have c28b1 : (t122 != t126) = true := bne_iff_ne.mpr c28
      (first | rw [c28b0] | (simp only [i64_w, i32_w]; rw [c28b0]) | skip)
      have H' := Aside0.mk H
      clear H
      go_wp2
      go_meet
      case rel => exact ⟨_, (true), t2_, H', ⟨by have := HJ6.out; first | omega | exact Nat.le_refl _⟩, ⟨by (with_reducible repeat (first | apply Kd.R_alloc | apply Kd.R_drewN | apply Kd.R_drew)); exact Kd.R_mono HO_4.out (fun _ hk => ⟨hk.1.1.1, ⟨hk.1.2, hk.1.1.2⟩⟩)⟩, ⟨by (with_reducible repeat (first | apply Kd.R_alloc | apply Kd.R_drewN | apply Kd.R_drew)); exact Kd.R_mono HO_6.out (fun _ hk => ⟨hk.1.1.1, ⟨hk.1.2, hk.1.1.2⟩⟩)⟩, ⟨by (with_reducible repeat (first | apply Kd.R_alloc | apply Kd.R_drewN | apply Kd.R_drew)); exact Kd.R_mono HO121.out (fun _ hk => ⟨hk.1.1.1.2, ⟨hk.1.1.2, hk.1.2⟩⟩)⟩, ⟨by (with_reducible repeat (first | apply Kd.R_alloc | apply Kd.R_drewN | apply Kd.R_drew)); exact Kd.R_mono HO_110000.out (fun _ hk => ⟨hk.1.1.1, ⟨hk.1.1.2, hk.1.2⟩⟩)⟩, ⟨bb_ BK109.out⟩, ⟨gb_ HB.out⟩⟩
    case rest => as_aux_lemma =>
     clear HC23
     try clear c1
     try clear c2
     try clear p2
     try clear c3
     try clear c4
     try clear c5
     try clear c6
     try clear c16
     try clear c16b0
     try clear c16b1
     try clear c20
     try clear c28
     try clear c28b0
     try clear c28b1
     try clear hcz11_0
     try clear hcz14_0
     try clear hcz24_0
     try clear hcz26_0
     try clear hfz11_0
     try clear hfz14_0
     try clear hfz24_0
     try clear hfz26_0
     try clear p2
     obtain ⟨kq, x90_22, rfl, HA, HJ22, HO_4, HO_6, HO_10, HO_110000, BK109, HB⟩ := hcut
     cases kq with
     | zero => exact absurd HA.out (by simp [laws_FnCovers.j1])
     | succ kj22 =>
      have H := HA.out
      clear HA
      simp only [laws_FnCovers.j1] at H
      by_cases c32 : x90_22 = true
      ·as_aux_lemma =>
       subst c32
       have H1 : (some false) = some r := by rw [if_pos rfl] at H; exact H
       clear H
       have H := H1
       clear H1
       obtain rfl := Option.some.inj H
       go_wp2
       go_ret
       exact ⟨t5_, gb_ HB.out⟩
      ·as_aux_lemma =>
       replace c32 := Bool.eq_false_iff.mpr c32
       subst c32
       have H1 : ((impl_NeededWords.f t102 t105 t108).bind fun bt128 => ((spec_NeededWords.f kj22 t102 t105 t108).bind fun bt132 => (if bt128.2 = bt132.2 then ((laws_likeInts.f kj22 bt128.1 bt132.1).bind fun t136 => (laws_FnCovers.j2 kj22 l0 t105 t108 t110 t113 t119 t122 bt128.1 bt128.2 (!t136) t102)) else (laws_FnCovers.j2 kj22 l0 t105 t108 t110 t113 t119 t122 bt128.1 bt128.2 true t102)))) = some r := by rw [if_neg (show ¬ (false = true) by decide)] at H; exact H
       clear H
       have H := H1
       clear H1
       replace H := Option.bind_eq_some_iff.mp H
       obtain ⟨⟨t128, t131⟩, A330, H⟩ := H
       replace H : ((spec_NeededWords.f kj22 t102 t105 t108).bind fun bt132 => (if t131 = bt132.2 then ((laws_likeInts.f kj22 t128 bt132.1).bind fun t136 => (laws_FnCovers.j2 kj22 l0 t105 t108 t110 t113 t119 t122 t128 t131 (!t136) t102)) else (laws_FnCovers.j2 kj22 l0 t105 t108 t110 t113 t119 t122 t128 t131 true t102))) = some r := H
       have A33 := Aside0.mk A330
       clear A330
       replace H := Option.bind_eq_some_iff.mp H
       obtain ⟨⟨t132, t135⟩, A340, H⟩ := H
       replace H : (if t131 = t135 then ((laws_likeInts.f kj22 t128 t132).bind fun t136 => (laws_FnCovers.j2 kj22 l0 t105 t108 t110 t113 t119 t122 t128 t131 (!t136) t102)) else (laws_FnCovers.j2 kj22 l0 t105 t108 t110 t113 t119 t122 t128 t131 true t102)) = some r := H
       have A34 := Aside0.mk A340
       clear A340
       have HC35 := Aside0.mk H
       clear H
       have hcz36_0 := hz_ BK109
       have hfz36_0 := blk_frozen BK109.out 0
       go_upto_region 14 with (first | ((with_reducible refine gate_callee (f := 49) rfl ?_); refine gl_ (some 95) rfl rfl Try.func49 #[.agg #[.slice Ao10 t102.length co10], .slice Ao12 t105.length co12, .int .i64 t108] rfl ?_; (with_reducible refine (impl_NeededWords.calls _ _ t102 _ _ t105 t108 t128 t131 _ ?side1 ?side2 ?side3 ?side4 A33.out).mono ?_); (case side1 => exact c1_ HO_110000); (case side2 => exact (Kd.R_reads' HO_110000.out).2.1); (case side3 => exact c1_ HO_4); (case side4 => exact (Kd.R_reads' HO_4.out).2.1); rintro e w37 ⟨v129, rfl, ho0, hb⟩; refine ⟨_, rfl, ?_⟩; have HO130 := Aside0.mk (Kd.R_lower (Kd.R_new' (Kd.R_new' (Kd.R_new' (Kd.R_new' ho0 (Kd.R_lt (rb_ HO_4.out))) (Kd.R_lt (rb_ HO_6.out))) (Kd.R_lt (rb_ HO_10.out))) (Kd.R_lt (rb_ HO_110000.out))) (below_size (gb_ HB.out))); replace HO_4 := a5_ HO_4 ho0 hb; replace HO_6 := a5_ HO_6 ho0 hb; replace HO_10 := a5_ HO_10 ho0 hb; replace HO_110000 := a5_ HO_110000 ho0 hb; replace BK109 := a2_ BK109 hb; replace HB := b1_ HB hb; (try clear hb); (try clear hb2); (try clear hk); (try clear hi); (try clear ho0); have hcz38_0 := hz_ BK109; have hfz38_0 := blk_frozen BK109.out 0) | ((with_reducible refine gate_callee (f := 50) rfl ?_); refine gl_ (some 102) rfl rfl Try.func50 #[.agg #[.slice Ao10 t102.length co10], .slice Ao12 t105.length co12, .int .i64 t108] rfl ?_; (with_reducible refine (spec_NeededWords.calls kj22 _ _ t102 _ _ t105 t108 t132 t135 _ ?side1 ?side2 ?side3 ?side4 A34.out).mono ?_); (case side1 => exact c1_ HO_110000); (case side2 => exact (Kd.R_reads' HO_110000.out).2.1); (case side3 => exact c1_ HO_4); (case side4 => exact (Kd.R_reads' HO_4.out).2.1); rintro e w39 ⟨v133, rfl, ho0, hb⟩; refine ⟨_, rfl, ?_⟩; have HO134 := Aside0.mk (Kd.R_lower (Kd.R_new' (Kd.R_new' (Kd.R_new' (Kd.R_new' (Kd.R_new' ho0 (Kd.R_lt (rb_ HO_4.out))) (Kd.R_lt (rb_ HO_6.out))) (Kd.R_lt (rb_ HO_10.out))) (Kd.R_lt (rb_ HO_110000.out))) (Kd.R_lt (rb_ HO130.out))) (below_size (gb_ HB.out))); replace HO_4 := a5_ HO_4 ho0 hb; replace HO_6 := a5_ HO_6 ho0 hb; replace HO_10 := a5_ HO_10 ho0 hb; replace HO_110000 := a5_ HO_110000 ho0 hb; replace HO130 := a5_ HO130 ho0 hb; replace BK109 := a2_ BK109 hb; replace HB := b1_ HB hb; (try clear hb); (try clear hb2); (try clear hk); (try clear hi); (try clear ho0)))
       (try simp only [Act.put, List.setIfInBounds_toArray, List.set_cons_zero, List.set_cons_succ])
       go_cut [113] (fun cs_113 wc => ∃ (kq : Nat) (x113_34 : Bool), cs_113 = .bool x113_34 ∧ Aside0 (laws_FnCovers.j2 kq l0 t105 t108 t110 t113 t119 t122 t128 t131 x113_34 t102 = some r) ∧ Aside0 (kq ≤ kj22) ∧ Aside0 (Kd.R (Kd.int .i64) 2 wc w.heap.size (fun k_ => OB_ k_ v111 ∧ OB_ k_ v120 ∧ OB_ k_ v129 ∧ OB_ k_ (.slice Ao10 t102.length co10)) (.slice Ao12 t105.length co12) t105) ∧ Aside0 (Kd.R (Kd.int .i64) 2 wc w.heap.size (fun k_ => OB_ k_ (.slice Ao12 t105.length co12) ∧ OB_ k_ v120 ∧ OB_ k_ v129 ∧ OB_ k_ (.slice Ao10 t102.length co10)) v111 t110) ∧ Aside0 (Kd.R (Kd.int .i64) 2 wc w.heap.size (fun k_ => OB_ k_ (.slice Ao12 t105.length co12) ∧ OB_ k_ v111 ∧ OB_ k_ v129 ∧ OB_ k_ (.slice Ao10 t102.length co10)) v120 t119) ∧ Aside0 (Kd.R (Kd.int .i64) 2 wc w.heap.size (fun k_ => OB_ k_ (.slice Ao12 t105.length co12) ∧ OB_ k_ v111 ∧ OB_ k_ v120 ∧ OB_ k_ (.slice Ao10 t102.length co10)) v129 t128) ∧ Aside0 (Kd.R (Kd.int .i64) 2 wc w.heap.size (fun k_ => OB_ k_ (.slice Ao12 t105.length co12) ∧ OB_ k_ v111 ∧ OB_ k_ v120 ∧ OB_ k_ v129) (.slice Ao10 t102.length co10) t102) ∧ Aside0 (wc.heap[gb109]? = some (.cells #[(.slice Ao10 t102.length co10)] 26 (0, 0))) ∧ Aside0 (Below w.heap.size w wc))
       case first => as_aux_lemma =>
        have H := HC35.out
        clear HC35
        by_cases c40 : t131 = t135
        ·as_aux_lemma =>
         rw [if_pos c40] at H
         have c40b0 : (t131 == t135) = true := beq_iff_eq.mpr c40
         have c40b1 : (t131 != t135) = false := bne_eq_false_iff_eq.mpr c40
         clear c40
         (first | rw [c40b0] | (simp only [i64_w, i32_w]; rw [c40b0]) | skip)
         replace H := Option.bind_eq_some_iff.mp H
         obtain ⟨t136, A410, H⟩ := H
         replace H : (laws_FnCovers.j2 kj22 l0 t105 t108 t110 t113 t119 t122 t128 t131 (!t136) t102) = some r := H
         have A41 := Aside0.mk A410
         clear A410
         have H' := Aside0.mk H
         clear H
         obtain ⟨Ao42, co42, eo42⟩ := Kd.R_slice HO130.out
         subst eo42
         obtain ⟨Ao43, co43, eo43⟩ := Kd.R_slice HO134.out
         subst eo43
         go_wp2_with (first | (go_at_call 18; (with_reducible refine (laws_likeInts.calls kj22 _ _ t128 _ _ t132 t136 _ ?side1 ?side2 ?side3 ?side4 A41.out).mono ?_); (case side1 => exact c1_ HO130); (case side2 => exact (Kd.R_reads' HO130.out).2.1); (case side3 => exact c1_ HO134); (case side4 => exact (Kd.R_reads' HO134.out).2.1); rintro e w' ⟨rfl, ⟨nd, rfl⟩⟩))
         go_meet
         case rel => exact ⟨_, (!t136), t2_, H', ⟨by have := HJ6.out; have := HJ22.out; first | omega | exact Nat.le_refl _⟩, ⟨by (with_reducible repeat (first | apply Kd.R_alloc | apply Kd.R_drewN | apply Kd.R_drew)); exact Kd.R_mono HO_4.out (fun _ hk => ⟨hk.1.1.1, ⟨hk.1.1.2.1, ⟨hk.1.2, hk.1.1.2.2⟩⟩⟩)⟩, ⟨by (with_reducible repeat (first | apply Kd.R_alloc | apply Kd.R_drewN | apply Kd.R_drew)); exact Kd.R_mono HO_6.out (fun _ hk => ⟨hk.1.1.1, ⟨hk.1.1.2.1, ⟨hk.1.2, hk.1.1.2.2⟩⟩⟩)⟩, ⟨by (with_reducible repeat (first | apply Kd.R_alloc | apply Kd.R_drewN | apply Kd.R_drew)); exact Kd.R_mono HO_10.out (fun _ hk => ⟨hk.1.1.1, ⟨hk.1.1.2.1, ⟨hk.1.2, hk.1.1.2.2⟩⟩⟩)⟩, ⟨by (with_reducible repeat (first | apply Kd.R_alloc | apply Kd.R_drewN | apply Kd.R_drew)); exact Kd.R_mono HO130.out (fun _ hk => ⟨hk.1.1.1.1.2, ⟨hk.1.1.1.2, ⟨hk.1.1.2, hk.1.2⟩⟩⟩)⟩, ⟨by (with_reducible repeat (first | apply Kd.R_alloc | apply Kd.R_drewN | apply Kd.R_drew)); exact Kd.R_mono HO_110000.out (fun _ hk => ⟨hk.1.1.1, ⟨hk.1.1.2.1, ⟨hk.1.1.2.2, hk.1.2⟩⟩⟩)⟩, ⟨bb_ BK109.out⟩, ⟨gb_ HB.out⟩⟩
        ·as_aux_lemma =>
         rw [if_neg c40] at H
         have c40b0 : (t131 == t135) = false := beq_eq_false_iff_ne.mpr c40
         have c40b1 : (t131 != t135) = true := bne_iff_ne.mpr c40
         (first | rw [c40b0] | (simp only [i64_w, i32_w]; rw [c40b0]) | skip)
         have H' := Aside0.mk H
         clear H
         go_wp2
         go_meet
         case rel => exact ⟨_, (true), t2_, H', ⟨by have := HJ6.out; have := HJ22.out; first | omega | exact Nat.le_refl _⟩, ⟨by (with_reducible repeat (first | apply Kd.R_alloc | apply Kd.R_drewN | apply Kd.R_drew)); exact Kd.R_mono HO_4.out (fun _ hk => ⟨hk.1.1.1, ⟨hk.1.1.2.1, ⟨hk.1.2, hk.1.1.2.2⟩⟩⟩)⟩, ⟨by (with_reducible repeat (first | apply Kd.R_alloc | apply Kd.R_drewN | apply Kd.R_drew)); exact Kd.R_mono HO_6.out (fun _ hk => ⟨hk.1.1.1, ⟨hk.1.1.2.1, ⟨hk.1.2, hk.1.1.2.2⟩⟩⟩)⟩, ⟨by (with_reducible repeat (first | apply Kd.R_alloc | apply Kd.R_drewN | apply Kd.R_drew)); exact Kd.R_mono HO_10.out (fun _ hk => ⟨hk.1.1.1, ⟨hk.1.1.2.1, ⟨hk.1.2, hk.1.1.2.2⟩⟩⟩)⟩, ⟨by (with_reducible repeat (first | apply Kd.R_alloc | apply Kd.R_drewN | apply Kd.R_drew)); exact Kd.R_mono HO130.out (fun _ hk => ⟨hk.1.1.1.1.2, ⟨hk.1.1.1.2, ⟨hk.1.1.2, hk.1.2⟩⟩⟩)⟩, ⟨by (with_reducible repeat (first | apply Kd.R_alloc | apply Kd.R_drewN | apply Kd.R_drew)); exact Kd.R_mono HO_110000.out (fun _ hk => ⟨hk.1.1.1, ⟨hk.1.1.2.1, ⟨hk.1.1.2.2, hk.1.2⟩⟩⟩)⟩, ⟨bb_ BK109.out⟩, ⟨gb_ HB.out⟩⟩
       case rest => as_aux_lemma =>
        clear HC35
        try clear c1
        try clear c2
        try clear p2
        try clear c3
        try clear c4
        try clear c5
        try clear c6
        try clear c16
        try clear c16b0
        try clear c16b1
        try clear c20
        try clear c28
        try clear c28b0
        try clear c28b1
        try clear c32
        try clear c40
        try clear c40b0
        try clear c40b1
        try clear hcz11_0
        try clear hcz14_0
        try clear hcz24_0
        try clear hcz26_0
        try clear hcz36_0
        try clear hcz38_0
        try clear hfz11_0
        try clear hfz14_0
        try clear hfz24_0
        try clear hfz26_0
        try clear hfz36_0
        try clear hfz38_0
        try clear p2
        obtain ⟨kq, x113_34, rfl, HA, HJ34, HO_4, HO_6, HO_10, HO_14, HO_110000, BK109, HB⟩ := hcut
        cases kq with
        | zero => exact absurd HA.out (by simp [laws_FnCovers.j2])
        | succ kj34 =>
         have H := HA.out
         clear HA
         simp only [laws_FnCovers.j2] at H
         by_cases c44 : x113_34 = true
         ·as_aux_lemma =>
          subst c44
          have H1 : (some false) = some r := by rw [if_pos rfl] at H; exact H
          clear H
          have H := H1
          clear H1
          obtain rfl := Option.some.inj H
          go_wp2
          go_ret
          exact ⟨t5_, gb_ HB.out⟩
         ·as_aux_lemma =>
          replace c44 := Bool.eq_false_iff.mpr c44
          subst c44
          have H1 : ((impl_CoversSpace.f kj34 t102 t105 t108).bind fun bt137 => ((spec_CoversSpace.f kj34 t102 t105 t108).bind fun bt139 => (if bt137.2 = bt139.2 then (laws_FnCovers.j3 kj34 l0 t108 t110 t113 t119 t122 t128 t131 bt137.1 bt137.2 (bt137.1 != bt139.1) t102) else (laws_FnCovers.j3 kj34 l0 t108 t110 t113 t119 t122 t128 t131 bt137.1 bt137.2 true t102)))) = some r := by rw [if_neg (show ¬ (false = true) by decide)] at H; exact H
          clear H
          have H := H1
          clear H1
          replace H := Option.bind_eq_some_iff.mp H
          obtain ⟨⟨t137, t138⟩, A450, H⟩ := H
          replace H : ((spec_CoversSpace.f kj34 t102 t105 t108).bind fun bt139 => (if t138 = bt139.2 then (laws_FnCovers.j3 kj34 l0 t108 t110 t113 t119 t122 t128 t131 t137 t138 (t137 != bt139.1) t102) else (laws_FnCovers.j3 kj34 l0 t108 t110 t113 t119 t122 t128 t131 t137 t138 true t102))) = some r := H
          have A45 := Aside0.mk A450
          clear A450
          replace H := Option.bind_eq_some_iff.mp H
          obtain ⟨⟨t139, t140⟩, A460, H⟩ := H
          replace H : (if t138 = t140 then (laws_FnCovers.j3 kj34 l0 t108 t110 t113 t119 t122 t128 t131 t137 t138 (t137 != t139) t102) else (laws_FnCovers.j3 kj34 l0 t108 t110 t113 t119 t122 t128 t131 t137 t138 true t102)) = some r := H
          have A46 := Aside0.mk A460
          clear A460
          have HC47 := Aside0.mk H
          clear H
          have hcz48_0 := hz_ BK109
          have hfz48_0 := blk_frozen BK109.out 0
          go_upto_region 18 with (first | ((with_reducible refine gate_callee (f := 51) rfl ?_); refine gl_ (some 118) rfl rfl Try.func51 #[.agg #[.slice Ao10 t102.length co10], .slice Ao12 t105.length co12, .int .i64 t108] rfl ?_; (with_reducible refine (impl_CoversSpace.calls kj34 _ _ t102 _ _ t105 t108 t137 t138 _ ?side1 ?side2 ?side3 ?side4 A45.out).mono ?_); (case side1 => exact c1_ HO_110000); (case side2 => exact (Kd.R_reads' HO_110000.out).2.1); (case side3 => exact c1_ HO_4); (case side4 => exact (Kd.R_reads' HO_4.out).2.1); rintro e w49 ⟨rfl, hb⟩; refine ⟨_, rfl, ?_⟩; replace HO_4 := a1_ HO_4 hb; replace HO_6 := a1_ HO_6 hb; replace HO_10 := a1_ HO_10 hb; replace HO_14 := a1_ HO_14 hb; replace HO_110000 := a1_ HO_110000 hb; replace BK109 := a2_ BK109 hb; replace HB := b1_ HB hb; (try clear hb); (try clear hb2); (try clear hk); (try clear hi); have hcz50_0 := hz_ BK109; have hfz50_0 := blk_frozen BK109.out 0) | ((with_reducible refine gate_callee (f := 52) rfl ?_); refine gl_ (some 125) rfl rfl Try.func52 #[.agg #[.slice Ao10 t102.length co10], .slice Ao12 t105.length co12, .int .i64 t108] rfl ?_; (with_reducible refine (spec_CoversSpace.calls kj34 _ _ t102 _ _ t105 t108 t139 t140 _ ?side1 ?side2 ?side3 ?side4 A46.out).mono ?_); (case side1 => exact c1_ HO_110000); (case side2 => exact (Kd.R_reads' HO_110000.out).2.1); (case side3 => exact c1_ HO_4); (case side4 => exact (Kd.R_reads' HO_4.out).2.1); rintro e w51 ⟨rfl, hb⟩; refine ⟨_, rfl, ?_⟩; replace HO_4 := a1_ HO_4 hb; replace HO_6 := a1_ HO_6 hb; replace HO_10 := a1_ HO_10 hb; replace HO_14 := a1_ HO_14 hb; replace HO_110000 := a1_ HO_110000 hb; replace BK109 := a2_ BK109 hb; replace HB := b1_ HB hb; (try clear hb); (try clear hb2); (try clear hk); (try clear hi)))
          (try simp only [Act.put, List.setIfInBounds_toArray, List.set_cons_zero, List.set_cons_succ])
          go_cut [135] (fun cs_135 wc => ∃ (kq : Nat) (x135_46 : Bool), cs_135 = .bool x135_46 ∧ Aside0 (laws_FnCovers.j3 kq l0 t108 t110 t113 t119 t122 t128 t131 t137 t138 x135_46 t102 = some r) ∧ Aside0 (kq ≤ kj34) ∧ Aside0 (Kd.R (Kd.int .i64) 2 wc w.heap.size (fun k_ => OB_ k_ v120 ∧ OB_ k_ v129 ∧ OB_ k_ (.slice Ao10 t102.length co10)) v111 t110) ∧ Aside0 (Kd.R (Kd.int .i64) 2 wc w.heap.size (fun k_ => OB_ k_ v111 ∧ OB_ k_ v129 ∧ OB_ k_ (.slice Ao10 t102.length co10)) v120 t119) ∧ Aside0 (Kd.R (Kd.int .i64) 2 wc w.heap.size (fun k_ => OB_ k_ v111 ∧ OB_ k_ v120 ∧ OB_ k_ (.slice Ao10 t102.length co10)) v129 t128) ∧ Aside0 (Kd.R (Kd.int .i64) 2 wc w.heap.size (fun k_ => OB_ k_ v111 ∧ OB_ k_ v120 ∧ OB_ k_ v129) (.slice Ao10 t102.length co10) t102) ∧ Aside0 (wc.heap[gb109]? = some (.cells #[(.slice Ao10 t102.length co10)] 26 (0, 0))) ∧ Aside0 (Below w.heap.size w wc))
          case first => as_aux_lemma =>
           have H := HC47.out
           clear HC47
           by_cases c52 : t138 = t140
           ·as_aux_lemma =>
            rw [if_pos c52] at H
            have c52b0 : (t138 == t140) = true := beq_iff_eq.mpr c52
            have c52b1 : (t138 != t140) = false := bne_eq_false_iff_eq.mpr c52
            clear c52
            (first | rw [c52b0] | (simp only [i64_w, i32_w]; rw [c52b0]) | skip)
            have H' := Aside0.mk H
            clear H
            go_wp2
            go_meet
            case rel => exact ⟨_, ((t137 != t139)), t2_, H', ⟨by have := HJ6.out; have := HJ22.out; have := HJ34.out; first | omega | exact Nat.le_refl _⟩, ⟨by (with_reducible repeat (first | apply Kd.R_alloc | apply Kd.R_drewN | apply Kd.R_drew)); exact Kd.R_mono HO_6.out (fun _ hk => ⟨hk.2.1, ⟨hk.2.2.1, hk.2.2.2⟩⟩)⟩, ⟨by (with_reducible repeat (first | apply Kd.R_alloc | apply Kd.R_drewN | apply Kd.R_drew)); exact Kd.R_mono HO_10.out (fun _ hk => ⟨hk.2.1, ⟨hk.2.2.1, hk.2.2.2⟩⟩)⟩, ⟨by (with_reducible repeat (first | apply Kd.R_alloc | apply Kd.R_drewN | apply Kd.R_drew)); exact Kd.R_mono HO_14.out (fun _ hk => ⟨hk.2.1, ⟨hk.2.2.1, hk.2.2.2⟩⟩)⟩, ⟨by (with_reducible repeat (first | apply Kd.R_alloc | apply Kd.R_drewN | apply Kd.R_drew)); exact Kd.R_mono HO_110000.out (fun _ hk => ⟨hk.2.1, ⟨hk.2.2.1, hk.2.2.2⟩⟩)⟩, ⟨bb_ BK109.out⟩, ⟨gb_ HB.out⟩⟩
           ·as_aux_lemma =>
            rw [if_neg c52] at H
            have c52b0 : (t138 == t140) = false := beq_eq_false_iff_ne.mpr c52
            have c52b1 : (t138 != t140) = true := bne_iff_ne.mpr c52
            (first | rw [c52b0] | (simp only [i64_w, i32_w]; rw [c52b0]) | skip)
            have H' := Aside0.mk H
            clear H
            go_wp2
            go_meet
            case rel => exact ⟨_, (true), t2_, H', ⟨by have := HJ6.out; have := HJ22.out; have := HJ34.out; first | omega | exact Nat.le_refl _⟩, ⟨by (with_reducible repeat (first | apply Kd.R_alloc | apply Kd.R_drewN | apply Kd.R_drew)); exact Kd.R_mono HO_6.out (fun _ hk => ⟨hk.2.1, ⟨hk.2.2.1, hk.2.2.2⟩⟩)⟩, ⟨by (with_reducible repeat (first | apply Kd.R_alloc | apply Kd.R_drewN | apply Kd.R_drew)); exact Kd.R_mono HO_10.out (fun _ hk => ⟨hk.2.1, ⟨hk.2.2.1, hk.2.2.2⟩⟩)⟩, ⟨by (with_reducible repeat (first | apply Kd.R_alloc | apply Kd.R_drewN | apply Kd.R_drew)); exact Kd.R_mono HO_14.out (fun _ hk => ⟨hk.2.1, ⟨hk.2.2.1, hk.2.2.2⟩⟩)⟩, ⟨by (with_reducible repeat (first | apply Kd.R_alloc | apply Kd.R_drewN | apply Kd.R_drew)); exact Kd.R_mono HO_110000.out (fun _ hk => ⟨hk.2.1, ⟨hk.2.2.1, hk.2.2.2⟩⟩)⟩, ⟨bb_ BK109.out⟩, ⟨gb_ HB.out⟩⟩
          case rest => as_aux_lemma =>
           clear HC47
           try clear c1
           try clear c2
           try clear p2
           try clear c3
           try clear c4
           try clear c5
           try clear c6
           try clear c16
           try clear c16b0
           try clear c16b1
           try clear c20
           try clear c28
           try clear c28b0
           try clear c28b1
           try clear c32
           try clear c40
           try clear c40b0
           try clear c40b1
           try clear c44
           try clear c45
           try clear c46
           try clear c47
           try clear c48
           try clear c49
           try clear c50
           try clear c51
           try clear c52
           try clear c52b0
           try clear c52b1
           try clear hcz11_0
           try clear hcz14_0
           try clear hcz24_0
           try clear hcz26_0
           try clear hcz36_0
           try clear hcz38_0
           try clear hcz48_0
           try clear hcz50_0
           try clear hfz11_0
           try clear hfz14_0
           try clear hfz24_0
           try clear hfz26_0
           try clear hfz36_0
           try clear hfz38_0
           try clear hfz48_0
           try clear hfz50_0
           try clear p2
           obtain ⟨kq, x135_46, rfl, HA, HJ46, HO_6, HO_10, HO_14, HO_110000, BK109, HB⟩ := hcut
           cases kq with
           | zero => exact absurd HA.out (by simp [laws_FnCovers.j3])
           | succ kj46 =>
            have H := HA.out
            clear HA
            simp only [laws_FnCovers.j3] at H
            by_cases c53 : x135_46 = true
            ·as_aux_lemma =>
             subst c53
             have H1 : (some false) = some r := by rw [if_pos rfl] at H; exact H
             clear H
             have H := H1
             clear H1
             obtain rfl := Option.some.inj H
             go_wp2
             go_ret
             exact ⟨t5_, gb_ HB.out⟩
            ·as_aux_lemma =>
             replace c53 := Bool.eq_false_iff.mpr c53
             subst c53
             have H1 : ((spec_DrawRadiusOf.f kj46 l0).bind fun bt141 => ((impl_RadiusOf.f kj46 bt141.1 bt141.2).bind fun bt148 => ((spec_RadiusOf.f kj46 bt141.1 bt141.2).bind fun bt150 => (if bt148.2 = bt150.2 then (laws_FnCovers.j4 kj46 t108 t110 t113 t119 t122 t128 t131 t137 t138 bt141.2 bt148.1 bt148.2 (bt148.1 != bt150.1) t102 bt141.1) else (laws_FnCovers.j4 kj46 t108 t110 t113 t119 t122 t128 t131 t137 t138 bt141.2 bt148.1 bt148.2 true t102 bt141.1))))) = some r := by rw [if_neg (show ¬ (false = true) by decide)] at H; exact H
             clear H
             have H := H1
             clear H1
             replace H := Option.bind_eq_some_iff.mp H
             obtain ⟨⟨t141, t144⟩, A540, H⟩ := H
             replace H : ((impl_RadiusOf.f kj46 t141 t144).bind fun bt148 => ((spec_RadiusOf.f kj46 t141 t144).bind fun bt150 => (if bt148.2 = bt150.2 then (laws_FnCovers.j4 kj46 t108 t110 t113 t119 t122 t128 t131 t137 t138 t144 bt148.1 bt148.2 (bt148.1 != bt150.1) t102 t141) else (laws_FnCovers.j4 kj46 t108 t110 t113 t119 t122 t128 t131 t137 t138 t144 bt148.1 bt148.2 true t102 t141)))) = some r := H
             have A54 := Aside0.mk A540
             clear A540
             replace H := Option.bind_eq_some_iff.mp H
             obtain ⟨⟨t148, t149⟩, A550, H⟩ := H
             replace H : ((spec_RadiusOf.f kj46 t141 t144).bind fun bt150 => (if t149 = bt150.2 then (laws_FnCovers.j4 kj46 t108 t110 t113 t119 t122 t128 t131 t137 t138 t144 t148 t149 (t148 != bt150.1) t102 t141) else (laws_FnCovers.j4 kj46 t108 t110 t113 t119 t122 t128 t131 t137 t138 t144 t148 t149 true t102 t141))) = some r := H
             have A55 := Aside0.mk A550
             clear A550
             replace H := Option.bind_eq_some_iff.mp H
             obtain ⟨⟨t150, t151⟩, A560, H⟩ := H
             replace H : (if t149 = t151 then (laws_FnCovers.j4 kj46 t108 t110 t113 t119 t122 t128 t131 t137 t138 t144 t148 t149 (t148 != t150) t102 t141) else (laws_FnCovers.j4 kj46 t108 t110 t113 t119 t122 t128 t131 t137 t138 t144 t148 t149 true t102 t141)) = some r := H
             have A56 := Aside0.mk A560
             clear A560
             have HC57 := Aside0.mk H
             clear H
             go_upto_region 23 with (first | ((with_reducible refine gate_callee (f := 53) rfl ?_); refine gl_ (some 138) rfl rfl Try.func53 #[.slice A0 l0.length c0] rfl ?_; (with_reducible refine (spec_DrawRadiusOf.calls kj46 _ _ l0 t141 t144 _ ?side1 ?side2 A54.out).mono ?_); (case side1 => exact c2_ HR0 HB); (case side2 => exact HC0.out); rintro e w58 ⟨v142, v145, rfl, ho0, ho1, hb⟩; refine ⟨_, rfl, ?_⟩; have HO143 := Aside0.mk (Kd.R_lower (Kd.R_new' (Kd.R_new' (Kd.R_new' (Kd.R_new' ho0 (Kd.R_lt (rb_ HO_6.out))) (Kd.R_lt (rb_ HO_10.out))) (Kd.R_lt (rb_ HO_14.out))) (Kd.R_lt (rb_ HO_110000.out))) (below_size (gb_ HB.out))); have HO146 := Aside0.mk (Kd.R_lower (Kd.R_new' (Kd.R_new' (Kd.R_new' (Kd.R_new' ho1 (Kd.R_lt (rb_ HO_6.out))) (Kd.R_lt (rb_ HO_10.out))) (Kd.R_lt (rb_ HO_14.out))) (Kd.R_lt (rb_ HO_110000.out))) (below_size (gb_ HB.out))); replace HO_6 := Aside0.mk (Kd.R_mono (Kd.R_told (Kd.R_told (Kd.R_old (rb_ HO_6.out) hb) (Kd.R_base ho0)) (Kd.R_base ho1)) (fun _ h_ => h_.1)); replace HO_10 := Aside0.mk (Kd.R_mono (Kd.R_told (Kd.R_told (Kd.R_old (rb_ HO_10.out) hb) (Kd.R_base ho0)) (Kd.R_base ho1)) (fun _ h_ => h_.1)); replace HO_14 := Aside0.mk (Kd.R_mono (Kd.R_told (Kd.R_told (Kd.R_old (rb_ HO_14.out) hb) (Kd.R_base ho0)) (Kd.R_base ho1)) (fun _ h_ => h_.1)); replace HO_110000 := Aside0.mk (Kd.R_mono (Kd.R_told (Kd.R_told (Kd.R_old (rb_ HO_110000.out) hb) (Kd.R_base ho0)) (Kd.R_base ho1)) (fun _ h_ => h_.1)); replace BK109 := a2_ BK109 hb; replace HB := b1_ HB hb; (try clear hb); (try clear hb2); (try clear hk); (try clear hi); (try clear ho0); (try clear ho1)) | ((with_reducible refine gate_dst (N := 22) rfl ?_); refine bx_ (N := 22) (cs := #[.slice none 0 0]) (t := 26) rfl rfl ?_; intro gb147 hg w59 hbox hb; have n0_ := a1_ HO_6 hb; have n1_ := a1_ HO_10 hb; have n2_ := a1_ HO_14 hb; have n3_ := a1_ HO_110000 hb; have n4_ := a1_ HO143 hb; have n5_ := a1_ HO146 hb; have n6_ := a2_ BK109 hb; have n7_ := b1_ HB hb; have n8_ := Aside0.mk (hbox); have n9_ := ge_ hg HB; have n10_ := ge_ hg HB; have n11_ := nl_ hg BK109; have n12_ := nr_ hg BK109; clear HO_6 HO_10 HO_14 HO_110000 HO143 HO146 BK109 HB; have HO_6 := n0_; have HO_10 := n1_; have HO_14 := n2_; have HO_110000 := n3_; have HO143 := n4_; have HO146 := n5_; have BK109 := n6_; have HB := n7_; have BK147 := n8_; have GW147 := n9_; have GE147 := n10_; have NB109_147 := n11_; have NB147_109 := n12_; clear n0_ n1_ n2_ n3_ n4_ n5_ n6_ n7_ n8_ n9_ n10_ n11_ n12_ hb hbox hg; obtain ⟨Ao60, co60, eo60⟩ := Kd.R_slice HO143.out; subst eo60; have hnb61 := NB147_109.out; have hnc61 := NB109_147.out; have hcz62_0 := hz_ BK147; have hfz62_0 := blk_frozen BK147.out 0; obtain ⟨Ao63, co63, eo63⟩ := Kd.R_slice HO146.out; subst eo63) | ((with_reducible refine gate_callee (f := 43) rfl ?_); refine gl_ (some 144) rfl rfl Try.func43 #[.agg #[.slice Ao60 t141.length co60], .slice Ao63 t144.length co63] rfl ?_; (with_reducible refine (impl_RadiusOf.calls kj46 _ _ t141 _ _ t144 t148 t149 _ ?side1 ?side2 ?side3 ?side4 A55.out).mono ?_); (case side1 => refine (Kd.R_reads' (e := 2) (base := w.heap.size) (ok := fun _ => True) (n := t141.length) (c := co60) ?_).2.2; exact (rb_ (Kd.R_mono (Kd.R_far (p := ⟨gb147, 0, none⟩) (Kd.R_types HO143.out BK147.out (by decide)) (fun _ hk => hk.2) (.slice Ao60 t141.length co60)) (fun _ _ => trivial)))); (case side2 => exact (Kd.R_reads' HO143.out).2.1); (case side3 => refine (Kd.R_reads' (e := 2) (base := w.heap.size) (ok := fun _ => True) (n := t144.length) (c := co63) ?_).2.2; exact (rb_ (Kd.R_mono (Kd.R_far (p := ⟨gb147, 0, none⟩) (Kd.R_types HO146.out BK147.out (by decide)) (fun _ hk => hk.2) (.slice Ao60 t141.length co60)) (fun _ _ => trivial)))); (case side4 => exact (Kd.R_reads' HO146.out).2.1); rintro e w64 ⟨rfl, hb⟩; refine ⟨_, rfl, ?_⟩; replace HO_6 := a4_ HO_6 BK147 hb; replace HO_10 := a4_ HO_10 BK147 hb; replace HO_14 := a4_ HO_14 BK147 hb; replace HO_110000 := a4_ HO_110000 BK147 hb; replace HO143 := a4_ HO143 BK147 hb; replace HO146 := a4_ HO146 BK147 hb; replace BK109 := a3_ BK109 NB109_147 hb; replace BK147 := Aside0.mk (blk_below (g := gb147) (o := .cells #[.slice Ao60 t141.length co60] 26 (0, 0)) (by (with_reducible repeat (first | refine blk_drewN ?_ _ | refine blk_drew ?_ | refine blk_alloc ?_ _)); refine blk_put (cs := #[.slice none 0 0]) ?_ 0 _ rfl; (with_reducible repeat (first | refine blk_drewN ?_ _ | refine blk_drew ?_ | refine blk_alloc ?_ _)); exact BK147.out) hb); replace HB := b1_ HB hb; (try clear hb); (try clear hb2); (try clear hk); (try clear hi); have hcz65_0 := hz_ BK147; have hfz65_0 := blk_frozen BK147.out 0) | ((with_reducible refine gate_callee (f := 54) rfl ?_); refine gl_ (some 150) rfl rfl Try.func54 #[.agg #[.slice Ao60 t141.length co60], .slice Ao63 t144.length co63] rfl ?_; (with_reducible refine (spec_RadiusOf.calls kj46 _ _ t141 _ _ t144 t150 t151 _ ?side1 ?side2 ?side3 ?side4 A56.out).mono ?_); (case side1 => exact c1_ HO143); (case side2 => exact (Kd.R_reads' HO143.out).2.1); (case side3 => exact c1_ HO146); (case side4 => exact (Kd.R_reads' HO146.out).2.1); rintro e w66 ⟨rfl, hb⟩; refine ⟨_, rfl, ?_⟩; replace HO_6 := a1_ HO_6 hb; replace HO_10 := a1_ HO_10 hb; replace HO_14 := a1_ HO_14 hb; replace HO_110000 := a1_ HO_110000 hb; replace HO143 := a1_ HO143 hb; replace HO146 := a1_ HO146 hb; replace BK109 := a2_ BK109 hb; replace BK147 := a2_ BK147 hb; replace HB := b1_ HB hb; (try clear hb); (try clear hb2); (try clear hk); (try clear hi)))
             (try simp only [Act.put, List.setIfInBounds_toArray, List.set_cons_zero, List.set_cons_succ])
             go_cut [160] (fun cs_160 wc => ∃ (kq : Nat) (x160_56 : Bool), cs_160 = .bool x160_56 ∧ Aside0 (laws_FnCovers.j4 kq t108 t110 t113 t119 t122 t128 t131 t137 t138 t144 t148 t149 x160_56 t102 t141 = some r) ∧ Aside0 (kq ≤ kj46) ∧ Aside0 (Kd.R (Kd.int .i64) 2 wc w.heap.size (fun k_ => OB_ k_ v120 ∧ OB_ k_ v129 ∧ OB_ k_ (.slice Ao63 t144.length co63) ∧ OB_ k_ (.slice Ao10 t102.length co10) ∧ OB_ k_ (.slice Ao60 t141.length co60)) v111 t110) ∧ Aside0 (Kd.R (Kd.int .i64) 2 wc w.heap.size (fun k_ => OB_ k_ v111 ∧ OB_ k_ v129 ∧ OB_ k_ (.slice Ao63 t144.length co63) ∧ OB_ k_ (.slice Ao10 t102.length co10) ∧ OB_ k_ (.slice Ao60 t141.length co60)) v120 t119) ∧ Aside0 (Kd.R (Kd.int .i64) 2 wc w.heap.size (fun k_ => OB_ k_ v111 ∧ OB_ k_ v120 ∧ OB_ k_ (.slice Ao63 t144.length co63) ∧ OB_ k_ (.slice Ao10 t102.length co10) ∧ OB_ k_ (.slice Ao60 t141.length co60)) v129 t128) ∧ Aside0 (Kd.R (Kd.int .i64) 2 wc w.heap.size (fun k_ => OB_ k_ v111 ∧ OB_ k_ v120 ∧ OB_ k_ v129 ∧ OB_ k_ (.slice Ao10 t102.length co10) ∧ OB_ k_ (.slice Ao60 t141.length co60)) (.slice Ao63 t144.length co63) t144) ∧ Aside0 (Kd.R (Kd.int .i64) 2 wc w.heap.size (fun k_ => OB_ k_ v111 ∧ OB_ k_ v120 ∧ OB_ k_ v129 ∧ OB_ k_ (.slice Ao63 t144.length co63) ∧ OB_ k_ (.slice Ao60 t141.length co60)) (.slice Ao10 t102.length co10) t102) ∧ Aside0 (Kd.R (Kd.int .i64) 2 wc w.heap.size (fun k_ => OB_ k_ v111 ∧ OB_ k_ v120 ∧ OB_ k_ v129 ∧ OB_ k_ (.slice Ao63 t144.length co63) ∧ OB_ k_ (.slice Ao10 t102.length co10)) (.slice Ao60 t141.length co60) t141) ∧ Aside0 (wc.heap[gb109]? = some (.cells #[(.slice Ao10 t102.length co10)] 26 (0, 0))) ∧ Aside0 (wc.heap[gb147]? = some (.cells #[(.slice Ao60 t141.length co60)] 26 (0, 0))) ∧ Aside0 (Below w.heap.size w wc))
             case first => as_aux_lemma =>
              have H := HC57.out
              clear HC57
              by_cases c67 : t149 = t151
              ·as_aux_lemma =>
               rw [if_pos c67] at H
               have c67b0 : (t149 == t151) = true := beq_iff_eq.mpr c67
               have c67b1 : (t149 != t151) = false := bne_eq_false_iff_eq.mpr c67
               clear c67
               (first | rw [c67b0] | (simp only [i64_w, i32_w]; rw [c67b0]) | skip)
               have H' := Aside0.mk H
               clear H
               go_wp2
               go_meet
               case rel => exact ⟨_, ((t148 != t150)), t2_, H', ⟨by have := HJ6.out; have := HJ22.out; have := HJ34.out; have := HJ46.out; first | omega | exact Nat.le_refl _⟩, ⟨by (with_reducible repeat (first | apply Kd.R_alloc | apply Kd.R_drewN | apply Kd.R_drew)); exact Kd.R_mono HO_6.out (fun _ hk => ⟨hk.1.1.1, ⟨hk.1.1.2.1, ⟨hk.2, ⟨hk.1.1.2.2, hk.1.2⟩⟩⟩⟩)⟩, ⟨by (with_reducible repeat (first | apply Kd.R_alloc | apply Kd.R_drewN | apply Kd.R_drew)); exact Kd.R_mono HO_10.out (fun _ hk => ⟨hk.1.1.1, ⟨hk.1.1.2.1, ⟨hk.2, ⟨hk.1.1.2.2, hk.1.2⟩⟩⟩⟩)⟩, ⟨by (with_reducible repeat (first | apply Kd.R_alloc | apply Kd.R_drewN | apply Kd.R_drew)); exact Kd.R_mono HO_14.out (fun _ hk => ⟨hk.1.1.1, ⟨hk.1.1.2.1, ⟨hk.2, ⟨hk.1.1.2.2, hk.1.2⟩⟩⟩⟩)⟩, ⟨by (with_reducible repeat (first | apply Kd.R_alloc | apply Kd.R_drewN | apply Kd.R_drew)); exact Kd.R_mono HO146.out (fun _ hk => ⟨hk.1.1.1.2, ⟨hk.1.1.2, ⟨hk.1.2, ⟨hk.2, hk.1.1.1.1⟩⟩⟩⟩)⟩, ⟨by (with_reducible repeat (first | apply Kd.R_alloc | apply Kd.R_drewN | apply Kd.R_drew)); exact Kd.R_mono HO_110000.out (fun _ hk => ⟨hk.1.1.1, ⟨hk.1.1.2.1, ⟨hk.1.1.2.2, ⟨hk.2, hk.1.2⟩⟩⟩⟩)⟩, ⟨by (with_reducible repeat (first | apply Kd.R_alloc | apply Kd.R_drewN | apply Kd.R_drew)); exact Kd.R_mono HO143.out (fun _ hk => ⟨hk.1.1.1.2, ⟨hk.1.1.2, ⟨hk.1.2, ⟨hk.1.1.1.1, hk.2⟩⟩⟩⟩)⟩, ⟨bb_ BK109.out⟩, ⟨bb_ BK147.out⟩, ⟨gb_ HB.out⟩⟩
              ·as_aux_lemma =>
               rw [if_neg c67] at H
               have c67b0 : (t149 == t151) = false := beq_eq_false_iff_ne.mpr c67
               have c67b1 : (t149 != t151) = true := bne_iff_ne.mpr c67
               (first | rw [c67b0] | (simp only [i64_w, i32_w]; rw [c67b0]) | skip)
               have H' := Aside0.mk H
               clear H
               go_wp2
               go_meet
               case rel => exact ⟨_, (true), t2_, H', ⟨by have := HJ6.out; have := HJ22.out; have := HJ34.out; have := HJ46.out; first | omega | exact Nat.le_refl _⟩, ⟨by (with_reducible repeat (first | apply Kd.R_alloc | apply Kd.R_drewN | apply Kd.R_drew)); exact Kd.R_mono HO_6.out (fun _ hk => ⟨hk.1.1.1, ⟨hk.1.1.2.1, ⟨hk.2, ⟨hk.1.1.2.2, hk.1.2⟩⟩⟩⟩)⟩, ⟨by (with_reducible repeat (first | apply Kd.R_alloc | apply Kd.R_drewN | apply Kd.R_drew)); exact Kd.R_mono HO_10.out (fun _ hk => ⟨hk.1.1.1, ⟨hk.1.1.2.1, ⟨hk.2, ⟨hk.1.1.2.2, hk.1.2⟩⟩⟩⟩)⟩, ⟨by (with_reducible repeat (first | apply Kd.R_alloc | apply Kd.R_drewN | apply Kd.R_drew)); exact Kd.R_mono HO_14.out (fun _ hk => ⟨hk.1.1.1, ⟨hk.1.1.2.1, ⟨hk.2, ⟨hk.1.1.2.2, hk.1.2⟩⟩⟩⟩)⟩, ⟨by (with_reducible repeat (first | apply Kd.R_alloc | apply Kd.R_drewN | apply Kd.R_drew)); exact Kd.R_mono HO146.out (fun _ hk => ⟨hk.1.1.1.2, ⟨hk.1.1.2, ⟨hk.1.2, ⟨hk.2, hk.1.1.1.1⟩⟩⟩⟩)⟩, ⟨by (with_reducible repeat (first | apply Kd.R_alloc | apply Kd.R_drewN | apply Kd.R_drew)); exact Kd.R_mono HO_110000.out (fun _ hk => ⟨hk.1.1.1, ⟨hk.1.1.2.1, ⟨hk.1.1.2.2, ⟨hk.2, hk.1.2⟩⟩⟩⟩)⟩, ⟨by (with_reducible repeat (first | apply Kd.R_alloc | apply Kd.R_drewN | apply Kd.R_drew)); exact Kd.R_mono HO143.out (fun _ hk => ⟨hk.1.1.1.2, ⟨hk.1.1.2, ⟨hk.1.2, ⟨hk.1.1.1.1, hk.2⟩⟩⟩⟩)⟩, ⟨bb_ BK109.out⟩, ⟨bb_ BK147.out⟩, ⟨gb_ HB.out⟩⟩
             case rest => as_aux_lemma =>
              clear HC57
              try clear c1
              try clear c2
              try clear p2
              try clear c3
              try clear c4
              try clear c5
              try clear c6
              try clear c16
              try clear c16b0
              try clear c16b1
              try clear c20
              try clear c28
              try clear c28b0
              try clear c28b1
              try clear c32
              try clear c40
              try clear c40b0
              try clear c40b1
              try clear c43
              try clear c44
              try clear c45
              try clear c46
              try clear c47
              try clear c48
              try clear c49
              try clear c50
              try clear c51
              try clear c52
              try clear c52b0
              try clear c52b1
              try clear c53
              try clear c54
              try clear c61
              try clear c67
              try clear c67b0
              try clear c67b1
              try clear hcz11_0
              try clear hcz14_0
              try clear hcz24_0
              try clear hcz26_0
              try clear hcz36_0
              try clear hcz38_0
              try clear hcz48_0
              try clear hcz50_0
              try clear hcz62_0
              try clear hcz65_0
              try clear hfz11_0
              try clear hfz14_0
              try clear hfz24_0
              try clear hfz26_0
              try clear hfz36_0
              try clear hfz38_0
              try clear hfz48_0
              try clear hfz50_0
              try clear hfz62_0
              try clear hfz65_0
              try clear p2
              obtain ⟨kq, x160_56, rfl, HA, HJ56, HO_6, HO_10, HO_14, HO_23, HO_110000, HO_148000, BK109, BK147, HB⟩ := hcut
              cases kq with
              | zero => exact absurd HA.out (by simp [laws_FnCovers.j4])
              | succ kj56 =>
               have H := HA.out
               clear HA
               simp only [laws_FnCovers.j4] at H
               by_cases c68 : x160_56 = true
               ·as_aux_lemma =>
                subst c68
                have H1 : (some false) = some r := by rw [if_pos rfl] at H; exact H
                clear H
                have H := H1
                clear H1
                obtain rfl := Option.some.inj H
                go_wp2
                go_ret
                exact ⟨t5_, gb_ HB.out⟩
               ·as_aux_lemma =>
                replace c68 := Bool.eq_false_iff.mpr c68
                subst c68
                have H1 : (if t149 = 0 then ((impl_CoversSpace.f kj56 t141 t144 t148).bind fun bt152 => (if bt152.2 = 0 then (laws_FnCovers.j5 kj56 t108 t110 t113 t119 t122 t128 t131 t137 t138 t144 t148 (!bt152.1) t102 t141) else (laws_FnCovers.j5 kj56 t108 t110 t113 t119 t122 t128 t131 t137 t138 t144 t148 true t102 t141))) else (laws_FnCovers.j6 kj56 t108 t110 t113 t119 t122 t128 t131 t137 t138 t102)) = some r := by rw [if_neg (show ¬ (false = true) by decide)] at H; exact H
                clear H
                have H := H1
                clear H1
                have HC69 := Aside0.mk H
                clear H
                go_upto_if 162 with (fail)
                go_cut [] (fun wc => ∃ (kq : Nat), Aside0 (laws_FnCovers.j6 kq t108 t110 t113 t119 t122 t128 t131 t137 t138 t102 = some r) ∧ Aside0 (kq ≤ kj56) ∧ Aside0 (Kd.R (Kd.int .i64) 2 wc w.heap.size (fun k_ => OB_ k_ v120 ∧ OB_ k_ v129 ∧ OB_ k_ (.slice Ao10 t102.length co10) ∧ OB_ k_ (.slice Ao60 t141.length co60)) v111 t110) ∧ Aside0 (Kd.R (Kd.int .i64) 2 wc w.heap.size (fun k_ => OB_ k_ v111 ∧ OB_ k_ v129 ∧ OB_ k_ (.slice Ao10 t102.length co10) ∧ OB_ k_ (.slice Ao60 t141.length co60)) v120 t119) ∧ Aside0 (Kd.R (Kd.int .i64) 2 wc w.heap.size (fun k_ => OB_ k_ v111 ∧ OB_ k_ v120 ∧ OB_ k_ (.slice Ao10 t102.length co10) ∧ OB_ k_ (.slice Ao60 t141.length co60)) v129 t128) ∧ Aside0 (Kd.R (Kd.int .i64) 2 wc w.heap.size (fun k_ => OB_ k_ v111 ∧ OB_ k_ v120 ∧ OB_ k_ v129 ∧ OB_ k_ (.slice Ao60 t141.length co60)) (.slice Ao10 t102.length co10) t102) ∧ Aside0 (Kd.R (Kd.int .i64) 2 wc w.heap.size (fun k_ => OB_ k_ v111 ∧ OB_ k_ v120 ∧ OB_ k_ v129 ∧ OB_ k_ (.slice Ao10 t102.length co10)) (.slice Ao60 t141.length co60) t141) ∧ Aside0 (wc.heap[gb109]? = some (.cells #[(.slice Ao10 t102.length co10)] 26 (0, 0))) ∧ Aside0 (wc.heap[gb147]? = some (.cells #[(.slice Ao60 t141.length co60)] 26 (0, 0))) ∧ Aside0 (Below w.heap.size w wc))
                case first => as_aux_lemma =>
                 have H := HC69.out
                 clear HC69
                 by_cases c70 : t149 = 0
                 ·as_aux_lemma =>
                  rw [if_pos c70] at H
                  have c70b0 : (t149 == 0) = true := beq_iff_eq.mpr c70
                  have c70b1 : (t149 != 0) = false := bne_eq_false_iff_eq.mpr c70
                  clear c70
                  (first | rw [c70b0] | (simp only [i64_w, i32_w]; rw [c70b0]) | skip)
                  replace H := Option.bind_eq_some_iff.mp H
                  obtain ⟨⟨t152, t153⟩, A710, H⟩ := H
                  replace H : (if t153 = 0 then (laws_FnCovers.j5 kj56 t108 t110 t113 t119 t122 t128 t131 t137 t138 t144 t148 (!t152) t102 t141) else (laws_FnCovers.j5 kj56 t108 t110 t113 t119 t122 t128 t131 t137 t138 t144 t148 true t102 t141)) = some r := H
                  have A71 := Aside0.mk A710
                  clear A710
                  have HC72 := Aside0.mk H
                  clear H
                  have hnb73 := NB147_109.out
                  have hnc73 := NB109_147.out
                  have hcz74_0 := hz_ BK147
                  have hfz74_0 := blk_frozen BK147.out 0
                  go_upto_region 27 with (first | ((with_reducible refine gate_callee (f := 51) rfl ?_); refine gl_ (some 167) rfl rfl Try.func51 #[.agg #[.slice Ao60 t141.length co60], .slice Ao63 t144.length co63, .int .i64 t148] rfl ?_; (with_reducible refine (impl_CoversSpace.calls kj56 _ _ t141 _ _ t144 t148 t152 t153 _ ?side1 ?side2 ?side3 ?side4 A71.out).mono ?_); (case side1 => exact c1_ HO_148000); (case side2 => exact (Kd.R_reads' HO_148000.out).2.1); (case side3 => exact c1_ HO_23); (case side4 => exact (Kd.R_reads' HO_23.out).2.1); rintro e w75 ⟨rfl, hb⟩; refine ⟨_, rfl, ?_⟩; replace HO_6 := a1_ HO_6 hb; replace HO_10 := a1_ HO_10 hb; replace HO_14 := a1_ HO_14 hb; replace HO_23 := a1_ HO_23 hb; replace HO_110000 := a1_ HO_110000 hb; replace HO_148000 := a1_ HO_148000 hb; replace BK109 := a2_ BK109 hb; replace BK147 := a2_ BK147 hb; replace HB := b1_ HB hb; (try clear hb); (try clear hb2); (try clear hk); (try clear hi)))
                  (try simp only [Act.put, List.setIfInBounds_toArray, List.set_cons_zero, List.set_cons_succ])
                  go_cut [175] (fun cs_175 wc => ∃ (kq : Nat) (x175_71 : Bool), cs_175 = .bool x175_71 ∧ Aside0 (laws_FnCovers.j5 kq t108 t110 t113 t119 t122 t128 t131 t137 t138 t144 t148 x175_71 t102 t141 = some r) ∧ Aside0 (kq ≤ kj56) ∧ Aside0 (Kd.R (Kd.int .i64) 2 wc w.heap.size (fun k_ => OB_ k_ v120 ∧ OB_ k_ v129 ∧ OB_ k_ (.slice Ao63 t144.length co63) ∧ OB_ k_ (.slice Ao10 t102.length co10) ∧ OB_ k_ (.slice Ao60 t141.length co60)) v111 t110) ∧ Aside0 (Kd.R (Kd.int .i64) 2 wc w.heap.size (fun k_ => OB_ k_ v111 ∧ OB_ k_ v129 ∧ OB_ k_ (.slice Ao63 t144.length co63) ∧ OB_ k_ (.slice Ao10 t102.length co10) ∧ OB_ k_ (.slice Ao60 t141.length co60)) v120 t119) ∧ Aside0 (Kd.R (Kd.int .i64) 2 wc w.heap.size (fun k_ => OB_ k_ v111 ∧ OB_ k_ v120 ∧ OB_ k_ (.slice Ao63 t144.length co63) ∧ OB_ k_ (.slice Ao10 t102.length co10) ∧ OB_ k_ (.slice Ao60 t141.length co60)) v129 t128) ∧ Aside0 (Kd.R (Kd.int .i64) 2 wc w.heap.size (fun k_ => OB_ k_ v111 ∧ OB_ k_ v120 ∧ OB_ k_ v129 ∧ OB_ k_ (.slice Ao10 t102.length co10) ∧ OB_ k_ (.slice Ao60 t141.length co60)) (.slice Ao63 t144.length co63) t144) ∧ Aside0 (Kd.R (Kd.int .i64) 2 wc w.heap.size (fun k_ => OB_ k_ v111 ∧ OB_ k_ v120 ∧ OB_ k_ v129 ∧ OB_ k_ (.slice Ao63 t144.length co63) ∧ OB_ k_ (.slice Ao60 t141.length co60)) (.slice Ao10 t102.length co10) t102) ∧ Aside0 (Kd.R (Kd.int .i64) 2 wc w.heap.size (fun k_ => OB_ k_ v111 ∧ OB_ k_ v120 ∧ OB_ k_ v129 ∧ OB_ k_ (.slice Ao63 t144.length co63) ∧ OB_ k_ (.slice Ao10 t102.length co10)) (.slice Ao60 t141.length co60) t141) ∧ Aside0 (wc.heap[gb109]? = some (.cells #[(.slice Ao10 t102.length co10)] 26 (0, 0))) ∧ Aside0 (wc.heap[gb147]? = some (.cells #[(.slice Ao60 t141.length co60)] 26 (0, 0))) ∧ Aside0 (Below w.heap.size w wc))
                  case first => as_aux_lemma =>
                   have H := HC72.out
                   clear HC72
                   by_cases c76 : t153 = 0
                   ·as_aux_lemma =>
                    rw [if_pos c76] at H
                    have c76b0 : (t153 == 0) = true := beq_iff_eq.mpr c76
                    have c76b1 : (t153 != 0) = false := bne_eq_false_iff_eq.mpr c76
                    clear c76
                    (first | rw [c76b0] | (simp only [i64_w, i32_w]; rw [c76b0]) | skip)
                    have H' := Aside0.mk H
                    clear H
                    go_wp2
                    go_meet
                    case rel => exact ⟨_, (!t152), t2_, H', ⟨by have := HJ6.out; have := HJ22.out; have := HJ34.out; have := HJ46.out; have := HJ56.out; first | omega | exact Nat.le_refl _⟩, ⟨rb_ HO_6.out⟩, ⟨rb_ HO_10.out⟩, ⟨rb_ HO_14.out⟩, ⟨rb_ HO_23.out⟩, ⟨rb_ HO_110000.out⟩, ⟨rb_ HO_148000.out⟩, ⟨bb_ BK109.out⟩, ⟨bb_ BK147.out⟩, ⟨gb_ HB.out⟩⟩
                   ·as_aux_lemma =>
                    rw [if_neg c76] at H
                    have c76b0 : (t153 == 0) = false := beq_eq_false_iff_ne.mpr c76
                    have c76b1 : (t153 != 0) = true := bne_iff_ne.mpr c76
                    (first | rw [c76b0] | (simp only [i64_w, i32_w]; rw [c76b0]) | skip)
                    have H' := Aside0.mk H
                    clear H
                    go_wp2
                    go_meet
                    case rel => exact ⟨_, (true), t2_, H', ⟨by have := HJ6.out; have := HJ22.out; have := HJ34.out; have := HJ46.out; have := HJ56.out; first | omega | exact Nat.le_refl _⟩, ⟨rb_ HO_6.out⟩, ⟨rb_ HO_10.out⟩, ⟨rb_ HO_14.out⟩, ⟨rb_ HO_23.out⟩, ⟨rb_ HO_110000.out⟩, ⟨rb_ HO_148000.out⟩, ⟨bb_ BK109.out⟩, ⟨bb_ BK147.out⟩, ⟨gb_ HB.out⟩⟩
                  case rest => as_aux_lemma =>
                   clear HC72
                   try clear c1
                   try clear c2
                   try clear p2
                   try clear c3
                   try clear c4
                   try clear c5
                   try clear c6
                   try clear c7
                   try clear c16
                   try clear c16b0
                   try clear c16b1
                   try clear c20
                   try clear c28
                   try clear c28b0
                   try clear c28b1
                   try clear c32
                   try clear c40
                   try clear c40b0
                   try clear c40b1
                   try clear c43
                   try clear c44
                   try clear c45
                   try clear c46
                   try clear c47
                   try clear c48
                   try clear c49
                   try clear c50
                   try clear c51
                   try clear c52
                   try clear c52b0
                   try clear c52b1
                   try clear c53
                   try clear c54
                   try clear c61
                   try clear c67
                   try clear c67b0
                   try clear c67b1
                   try clear c68
                   try clear c70
                   try clear c70b0
                   try clear c70b1
                   try clear c73
                   try clear c76
                   try clear c76b0
                   try clear c76b1
                   try clear hcz11_0
                   try clear hcz14_0
                   try clear hcz24_0
                   try clear hcz26_0
                   try clear hcz36_0
                   try clear hcz38_0
                   try clear hcz48_0
                   try clear hcz50_0
                   try clear hcz62_0
                   try clear hcz65_0
                   try clear hcz74_0
                   try clear hfz11_0
                   try clear hfz14_0
                   try clear hfz24_0
                   try clear hfz26_0
                   try clear hfz36_0
                   try clear hfz38_0
                   try clear hfz48_0
                   try clear hfz50_0
                   try clear hfz62_0
                   try clear hfz65_0
                   try clear hfz74_0
                   try clear p2
                   obtain ⟨kq, x175_71, rfl, HA, HJ71, HO_6, HO_10, HO_14, HO_23, HO_110000, HO_148000, BK109, BK147, HB⟩ := hcut
                   cases kq with
                   | zero => exact absurd HA.out (by simp [laws_FnCovers.j5])
                   | succ kj71 =>
                    have H := HA.out
                    clear HA
                    simp only [laws_FnCovers.j5] at H
                    by_cases c77 : x175_71 = true
                    ·as_aux_lemma =>
                     subst c77
                     have H1 : (some false) = some r := by rw [if_pos rfl] at H; exact H
                     clear H
                     have H := H1
                     clear H1
                     obtain rfl := Option.some.inj H
                     go_wp2
                     go_ret
                     exact ⟨t5_, gb_ HB.out⟩
                    ·as_aux_lemma =>
                     replace c77 := Bool.eq_false_iff.mpr c77
                     subst c77
                     have H1 : (if t148 > 0 then ((impl_CoversSpace.f kj71 t141 t144 (wrap64 (t148 - 1))).bind fun bt154 => (if bt154.2 = 0 then (if bt154.1 = true then (some false) else (laws_FnCovers.j6 kj71 t108 t110 t113 t119 t122 t128 t131 t137 t138 t102)) else (some false))) else (laws_FnCovers.j6 kj71 t108 t110 t113 t119 t122 t128 t131 t137 t138 t102)) = some r := by rw [if_neg (show ¬ (false = true) by decide)] at H; exact H
                     clear H
                     have H := H1
                     clear H1
                     by_cases c78 : t148 > 0
                     ·as_aux_lemma =>
                      rw [if_pos c78] at H
                      have c78b0 : decide (0 < t148) = true := decide_eq_true c78
                      clear c78
                      replace H := Option.bind_eq_some_iff.mp H
                      obtain ⟨⟨t154, t155⟩, A790, H⟩ := H
                      replace H : (if t155 = 0 then (if t154 = true then (some false) else (laws_FnCovers.j6 kj71 t108 t110 t113 t119 t122 t128 t131 t137 t138 t102)) else (some false)) = some r := H
                      have A79 := Aside0.mk A790
                      clear A790
                      by_cases c80 : t155 = 0
                      ·as_aux_lemma =>
                       rw [if_pos c80] at H
                       have c80b0 : (t155 == 0) = true := beq_iff_eq.mpr c80
                       have c80b1 : (t155 != 0) = false := bne_eq_false_iff_eq.mpr c80
                       clear c80
                       by_cases c81 : t154 = true
                       ·as_aux_lemma =>
                        subst c81
                        have H1 : (some false) = some r := by rw [if_pos rfl] at H; exact H
                        clear H
                        have H := H1
                        clear H1
                        obtain rfl := Option.some.inj H
                        have hnb82 := NB147_109.out
                        have hnc82 := NB109_147.out
                        have hcz83_0 := hz_ BK147
                        have hfz83_0 := blk_frozen BK147.out 0
                        go_wp2_with (first | ((with_reducible refine gate_callee (f := 51) rfl ?_); refine gl_ (some 183) rfl rfl Try.func51 #[.agg #[.slice Ao60 t141.length co60], .slice Ao63 t144.length co63, .int .i64 (wrap64 (t148 - 1))] rfl ?_; (with_reducible refine (impl_CoversSpace.calls kj71 _ _ t141 _ _ t144 (wrap64 (t148 - 1)) true t155 _ ?side1 ?side2 ?side3 ?side4 A79.out).mono ?_); (case side1 => exact c1_ HO_148000); (case side2 => exact (Kd.R_reads' HO_148000.out).2.1); (case side3 => exact c1_ HO_23); (case side4 => exact (Kd.R_reads' HO_23.out).2.1); rintro e w84 ⟨rfl, hb⟩; refine ⟨_, rfl, ?_⟩; replace HO_6 := a1_ HO_6 hb; replace HO_10 := a1_ HO_10 hb; replace HO_14 := a1_ HO_14 hb; replace HO_23 := a1_ HO_23 hb; replace HO_110000 := a1_ HO_110000 hb; replace HO_148000 := a1_ HO_148000 hb; replace BK109 := a2_ BK109 hb; replace BK147 := a2_ BK147 hb; replace HB := b1_ HB hb; (try clear hb); (try clear hb2); (try clear hk); (try clear hi)))
                        go_ret
                        exact ⟨t5_, gb_ HB.out⟩
                       ·as_aux_lemma =>
                        replace c81 := Bool.eq_false_iff.mpr c81
                        subst c81
                        have H1 : (laws_FnCovers.j6 kj71 t108 t110 t113 t119 t122 t128 t131 t137 t138 t102) = some r := by rw [if_neg (show ¬ (false = true) by decide)] at H; exact H
                        clear H
                        have H := H1
                        clear H1
                        have H' := Aside0.mk H
                        clear H
                        have hnb85 := NB147_109.out
                        have hnc85 := NB109_147.out
                        have hcz86_0 := hz_ BK147
                        have hfz86_0 := blk_frozen BK147.out 0
                        go_wp2_with (first | ((with_reducible refine gate_callee (f := 51) rfl ?_); refine gl_ (some 183) rfl rfl Try.func51 #[.agg #[.slice Ao60 t141.length co60], .slice Ao63 t144.length co63, .int .i64 (wrap64 (t148 - 1))] rfl ?_; (with_reducible refine (impl_CoversSpace.calls kj71 _ _ t141 _ _ t144 (wrap64 (t148 - 1)) false t155 _ ?side1 ?side2 ?side3 ?side4 A79.out).mono ?_); (case side1 => exact c1_ HO_148000); (case side2 => exact (Kd.R_reads' HO_148000.out).2.1); (case side3 => exact c1_ HO_23); (case side4 => exact (Kd.R_reads' HO_23.out).2.1); rintro e w87 ⟨rfl, hb⟩; refine ⟨_, rfl, ?_⟩; replace HO_6 := a1_ HO_6 hb; replace HO_10 := a1_ HO_10 hb; replace HO_14 := a1_ HO_14 hb; replace HO_23 := a1_ HO_23 hb; replace HO_110000 := a1_ HO_110000 hb; replace HO_148000 := a1_ HO_148000 hb; replace BK109 := a2_ BK109 hb; replace BK147 := a2_ BK147 hb; replace HB := b1_ HB hb; (try clear hb); (try clear hb2); (try clear hk); (try clear hi)))
                        go_meet
                        case rel => exact ⟨_, H', ⟨by have := HJ6.out; have := HJ22.out; have := HJ34.out; have := HJ46.out; have := HJ56.out; have := HJ71.out; first | omega | exact Nat.le_refl _⟩, ⟨by (with_reducible repeat (first | apply Kd.R_alloc | apply Kd.R_drewN | apply Kd.R_drew)); exact Kd.R_mono HO_6.out (fun _ hk => ⟨hk.1, ⟨hk.2.1, ⟨hk.2.2.2.1, hk.2.2.2.2⟩⟩⟩)⟩, ⟨by (with_reducible repeat (first | apply Kd.R_alloc | apply Kd.R_drewN | apply Kd.R_drew)); exact Kd.R_mono HO_10.out (fun _ hk => ⟨hk.1, ⟨hk.2.1, ⟨hk.2.2.2.1, hk.2.2.2.2⟩⟩⟩)⟩, ⟨by (with_reducible repeat (first | apply Kd.R_alloc | apply Kd.R_drewN | apply Kd.R_drew)); exact Kd.R_mono HO_14.out (fun _ hk => ⟨hk.1, ⟨hk.2.1, ⟨hk.2.2.2.1, hk.2.2.2.2⟩⟩⟩)⟩, ⟨by (with_reducible repeat (first | apply Kd.R_alloc | apply Kd.R_drewN | apply Kd.R_drew)); exact Kd.R_mono HO_110000.out (fun _ hk => ⟨hk.1, ⟨hk.2.1, ⟨hk.2.2.1, hk.2.2.2.2⟩⟩⟩)⟩, ⟨by (with_reducible repeat (first | apply Kd.R_alloc | apply Kd.R_drewN | apply Kd.R_drew)); exact Kd.R_mono HO_148000.out (fun _ hk => ⟨hk.1, ⟨hk.2.1, ⟨hk.2.2.1, hk.2.2.2.2⟩⟩⟩)⟩, ⟨bb_ BK109.out⟩, ⟨bb_ BK147.out⟩, ⟨gb_ HB.out⟩⟩
                      ·as_aux_lemma =>
                       rw [if_neg c80] at H
                       have c80b0 : (t155 == 0) = false := beq_eq_false_iff_ne.mpr c80
                       have c80b1 : (t155 != 0) = true := bne_iff_ne.mpr c80
                       obtain rfl := Option.some.inj H
                       have hnb88 := NB147_109.out
                       have hnc88 := NB109_147.out
                       have hcz89_0 := hz_ BK147
                       have hfz89_0 := blk_frozen BK147.out 0
                       go_wp2_with (first | ((with_reducible refine gate_callee (f := 51) rfl ?_); refine gl_ (some 183) rfl rfl Try.func51 #[.agg #[.slice Ao60 t141.length co60], .slice Ao63 t144.length co63, .int .i64 (wrap64 (t148 - 1))] rfl ?_; (with_reducible refine (impl_CoversSpace.calls kj71 _ _ t141 _ _ t144 (wrap64 (t148 - 1)) t154 t155 _ ?side1 ?side2 ?side3 ?side4 A79.out).mono ?_); (case side1 => exact c1_ HO_148000); (case side2 => exact (Kd.R_reads' HO_148000.out).2.1); (case side3 => exact c1_ HO_23); (case side4 => exact (Kd.R_reads' HO_23.out).2.1); rintro e w90 ⟨rfl, hb⟩; refine ⟨_, rfl, ?_⟩; replace HO_6 := a1_ HO_6 hb; replace HO_10 := a1_ HO_10 hb; replace HO_14 := a1_ HO_14 hb; replace HO_23 := a1_ HO_23 hb; replace HO_110000 := a1_ HO_110000 hb; replace HO_148000 := a1_ HO_148000 hb; replace BK109 := a2_ BK109 hb; replace BK147 := a2_ BK147 hb; replace HB := b1_ HB hb; (try clear hb); (try clear hb2); (try clear hk); (try clear hi)))
                       go_ret
                       exact ⟨t5_, gb_ HB.out⟩
                     ·as_aux_lemma =>
                      rw [if_neg c78] at H
                      have c78b0 : decide (0 < t148) = false := decide_eq_false c78
                      clear c78
                      have H' := Aside0.mk H
                      clear H
                      go_wp2
                      go_meet
                      case rel => exact ⟨_, H', ⟨by have := HJ6.out; have := HJ22.out; have := HJ34.out; have := HJ46.out; have := HJ56.out; have := HJ71.out; first | omega | exact Nat.le_refl _⟩, ⟨by (with_reducible repeat (first | apply Kd.R_alloc | apply Kd.R_drewN | apply Kd.R_drew)); exact Kd.R_mono HO_6.out (fun _ hk => ⟨hk.1, ⟨hk.2.1, ⟨hk.2.2.2.1, hk.2.2.2.2⟩⟩⟩)⟩, ⟨by (with_reducible repeat (first | apply Kd.R_alloc | apply Kd.R_drewN | apply Kd.R_drew)); exact Kd.R_mono HO_10.out (fun _ hk => ⟨hk.1, ⟨hk.2.1, ⟨hk.2.2.2.1, hk.2.2.2.2⟩⟩⟩)⟩, ⟨by (with_reducible repeat (first | apply Kd.R_alloc | apply Kd.R_drewN | apply Kd.R_drew)); exact Kd.R_mono HO_14.out (fun _ hk => ⟨hk.1, ⟨hk.2.1, ⟨hk.2.2.2.1, hk.2.2.2.2⟩⟩⟩)⟩, ⟨by (with_reducible repeat (first | apply Kd.R_alloc | apply Kd.R_drewN | apply Kd.R_drew)); exact Kd.R_mono HO_110000.out (fun _ hk => ⟨hk.1, ⟨hk.2.1, ⟨hk.2.2.1, hk.2.2.2.2⟩⟩⟩)⟩, ⟨by (with_reducible repeat (first | apply Kd.R_alloc | apply Kd.R_drewN | apply Kd.R_drew)); exact Kd.R_mono HO_148000.out (fun _ hk => ⟨hk.1, ⟨hk.2.1, ⟨hk.2.2.1, hk.2.2.2.2⟩⟩⟩)⟩, ⟨bb_ BK109.out⟩, ⟨bb_ BK147.out⟩, ⟨gb_ HB.out⟩⟩
                 ·as_aux_lemma =>
                  rw [if_neg c70] at H
                  have c70b0 : (t149 == 0) = false := beq_eq_false_iff_ne.mpr c70
                  have c70b1 : (t149 != 0) = true := bne_iff_ne.mpr c70
                  (first | rw [c70b0] | (simp only [i64_w, i32_w]; rw [c70b0]) | skip)
                  have H' := Aside0.mk H
                  clear H
                  go_wp2
                  go_meet
                  case rel => exact ⟨_, H', ⟨by have := HJ6.out; have := HJ22.out; have := HJ34.out; have := HJ46.out; have := HJ56.out; first | omega | exact Nat.le_refl _⟩, ⟨by (with_reducible repeat (first | apply Kd.R_alloc | apply Kd.R_drewN | apply Kd.R_drew)); exact Kd.R_mono HO_6.out (fun _ hk => ⟨hk.1, ⟨hk.2.1, ⟨hk.2.2.2.1, hk.2.2.2.2⟩⟩⟩)⟩, ⟨by (with_reducible repeat (first | apply Kd.R_alloc | apply Kd.R_drewN | apply Kd.R_drew)); exact Kd.R_mono HO_10.out (fun _ hk => ⟨hk.1, ⟨hk.2.1, ⟨hk.2.2.2.1, hk.2.2.2.2⟩⟩⟩)⟩, ⟨by (with_reducible repeat (first | apply Kd.R_alloc | apply Kd.R_drewN | apply Kd.R_drew)); exact Kd.R_mono HO_14.out (fun _ hk => ⟨hk.1, ⟨hk.2.1, ⟨hk.2.2.2.1, hk.2.2.2.2⟩⟩⟩)⟩, ⟨by (with_reducible repeat (first | apply Kd.R_alloc | apply Kd.R_drewN | apply Kd.R_drew)); exact Kd.R_mono HO_110000.out (fun _ hk => ⟨hk.1, ⟨hk.2.1, ⟨hk.2.2.1, hk.2.2.2.2⟩⟩⟩)⟩, ⟨by (with_reducible repeat (first | apply Kd.R_alloc | apply Kd.R_drewN | apply Kd.R_drew)); exact Kd.R_mono HO_148000.out (fun _ hk => ⟨hk.1, ⟨hk.2.1, ⟨hk.2.2.1, hk.2.2.2.2⟩⟩⟩)⟩, ⟨bb_ BK109.out⟩, ⟨bb_ BK147.out⟩, ⟨gb_ HB.out⟩⟩
                case rest => as_aux_lemma =>
                 clear HC69
                 try clear c1
                 try clear c2
                 try clear p2
                 try clear c3
                 try clear c4
                 try clear c5
                 try clear c6
                 try clear p6
                 try clear c7
                 try clear c8
                 try clear c16
                 try clear c16b0
                 try clear c16b1
                 try clear c20
                 try clear c28
                 try clear c28b0
                 try clear c28b1
                 try clear c32
                 try clear c40
                 try clear c40b0
                 try clear c40b1
                 try clear c43
                 try clear c44
                 try clear c45
                 try clear c46
                 try clear c47
                 try clear c48
                 try clear c49
                 try clear c50
                 try clear c51
                 try clear c52
                 try clear c52b0
                 try clear c52b1
                 try clear c53
                 try clear c54
                 try clear c61
                 try clear p64
                 try clear c67
                 try clear c67b0
                 try clear c67b1
                 try clear c68
                 try clear c70
                 try clear c70b0
                 try clear c70b1
                 try clear c73
                 try clear c76
                 try clear c76b0
                 try clear c76b1
                 try clear c77
                 try clear c78
                 try clear c78b0
                 try clear c80
                 try clear c80b0
                 try clear c80b1
                 try clear c81
                 try clear c82
                 try clear c85
                 try clear c88
                 try clear hcz11_0
                 try clear hcz14_0
                 try clear hcz24_0
                 try clear hcz26_0
                 try clear hcz36_0
                 try clear hcz38_0
                 try clear hcz48_0
                 try clear hcz50_0
                 try clear hcz62_0
                 try clear hcz65_0
                 try clear hcz74_0
                 try clear hcz83_0
                 try clear hcz86_0
                 try clear hcz89_0
                 try clear hfz11_0
                 try clear hfz14_0
                 try clear hfz24_0
                 try clear hfz26_0
                 try clear hfz36_0
                 try clear hfz38_0
                 try clear hfz48_0
                 try clear hfz50_0
                 try clear hfz62_0
                 try clear hfz65_0
                 try clear hfz74_0
                 try clear hfz83_0
                 try clear hfz86_0
                 try clear hfz89_0
                 try clear p2
                 obtain ⟨kq, HA, HJ68, HO_6, HO_10, HO_14, HO_110000, HO_148000, BK109, BK147, HB⟩ := hcut
                 cases kq with
                 | zero => exact absurd HA.out (by simp [laws_FnCovers.j6])
                 | succ kj68 =>
                  have H := HA.out
                  clear HA
                  simp only [laws_FnCovers.j6] at H
                  by_cases c91 : t113 = 0
                  ·as_aux_lemma =>
                   rw [if_pos c91] at H
                   have c91b0 : (t113 == 0) = true := beq_iff_eq.mpr c91
                   have c91b1 : (t113 != 0) = false := bne_eq_false_iff_eq.mpr c91
                   clear c91
                   replace H := Option.bind_eq_some_iff.mp H
                   obtain ⟨⟨t156, t159⟩, A920, H⟩ := H
                   replace H : ((impl_NeededWords.f t102 t110 t108).bind fun bt160 => (if t122 = 0 then (if t131 = 0 then (if t138 = 0 then (if t159 = 0 then (if bt160.2 = 0 then ((laws_likeInts.f kj68 t156 t119).bind fun t164 => (if t164 = true then ((laws_likeInts.f kj68 bt160.1 t110).bind fun t165 => (if t165 = true then (laws_FnCovers.j7 kj68 t110 t128 (t137 != ((t119.length : Int) == 0))) else (laws_FnCovers.j7 kj68 t110 t128 true))) else (laws_FnCovers.j7 kj68 t110 t128 true))) else (laws_FnCovers.j7 kj68 t110 t128 true)) else (laws_FnCovers.j7 kj68 t110 t128 true)) else (laws_FnCovers.j7 kj68 t110 t128 true)) else (laws_FnCovers.j7 kj68 t110 t128 true)) else (laws_FnCovers.j7 kj68 t110 t128 true))) = some r := H
                   have A92 := Aside0.mk A920
                   clear A920
                   replace H := Option.bind_eq_some_iff.mp H
                   obtain ⟨⟨t160, t163⟩, A930, H⟩ := H
                   replace H : (if t122 = 0 then (if t131 = 0 then (if t138 = 0 then (if t159 = 0 then (if t163 = 0 then ((laws_likeInts.f kj68 t156 t119).bind fun t164 => (if t164 = true then ((laws_likeInts.f kj68 t160 t110).bind fun t165 => (if t165 = true then (laws_FnCovers.j7 kj68 t110 t128 (t137 != ((t119.length : Int) == 0))) else (laws_FnCovers.j7 kj68 t110 t128 true))) else (laws_FnCovers.j7 kj68 t110 t128 true))) else (laws_FnCovers.j7 kj68 t110 t128 true)) else (laws_FnCovers.j7 kj68 t110 t128 true)) else (laws_FnCovers.j7 kj68 t110 t128 true)) else (laws_FnCovers.j7 kj68 t110 t128 true)) else (laws_FnCovers.j7 kj68 t110 t128 true)) = some r := H
                   have A93 := Aside0.mk A930
                   clear A930
                   have HC94 := Aside0.mk H
                   clear H
                   have hnb95 := NB109_147.out
                   have hnc95 := NB147_109.out
                   have hcz96_0 := hz_ BK109
                   have hfz96_0 := blk_frozen BK109.out 0
                   obtain ⟨Ao97, co97, eo97⟩ := Kd.R_slice HO_6.out
                   subst eo97
                   go_upto_region 37 with (first | ((with_reducible refine gate_callee (f := 47) rfl ?_); refine gl_ (some 215) rfl rfl Try.func47 #[.agg #[.slice Ao10 t102.length co10], .slice Ao97 t110.length co97, .int .i64 t108] rfl ?_; (with_reducible refine (impl_UncoveredWords.calls kj68 _ _ t102 _ _ t110 t108 t156 t159 _ ?side1 ?side2 ?side3 ?side4 A92.out).mono ?_); (case side1 => exact c1_ HO_110000); (case side2 => exact (Kd.R_reads' HO_110000.out).2.1); (case side3 => exact c1_ HO_6); (case side4 => exact (Kd.R_reads' HO_6.out).2.1); rintro e w98 ⟨v157, rfl, ho0, hb⟩; refine ⟨_, rfl, ?_⟩; have HO158 := Aside0.mk (Kd.R_lower (Kd.R_new' (Kd.R_new' (Kd.R_new' (Kd.R_new' (Kd.R_new' ho0 (Kd.R_lt (rb_ HO_6.out))) (Kd.R_lt (rb_ HO_10.out))) (Kd.R_lt (rb_ HO_14.out))) (Kd.R_lt (rb_ HO_110000.out))) (Kd.R_lt (rb_ HO_148000.out))) (below_size (gb_ HB.out))); replace HO_6 := a5_ HO_6 ho0 hb; replace HO_10 := a5_ HO_10 ho0 hb; replace HO_14 := a5_ HO_14 ho0 hb; replace HO_110000 := a5_ HO_110000 ho0 hb; replace HO_148000 := a5_ HO_148000 ho0 hb; replace BK109 := a2_ BK109 hb; replace BK147 := a2_ BK147 hb; replace HB := b1_ HB hb; (try clear hb); (try clear hb2); (try clear hk); (try clear hi); (try clear ho0); have hcz99_0 := hz_ BK109; have hfz99_0 := blk_frozen BK109.out 0) | ((with_reducible refine gate_callee (f := 49) rfl ?_); refine gl_ (some 222) rfl rfl Try.func49 #[.agg #[.slice Ao10 t102.length co10], .slice Ao97 t110.length co97, .int .i64 t108] rfl ?_; (with_reducible refine (impl_NeededWords.calls _ _ t102 _ _ t110 t108 t160 t163 _ ?side1 ?side2 ?side3 ?side4 A93.out).mono ?_); (case side1 => exact c1_ HO_110000); (case side2 => exact (Kd.R_reads' HO_110000.out).2.1); (case side3 => exact c1_ HO_6); (case side4 => exact (Kd.R_reads' HO_6.out).2.1); rintro e w100 ⟨v161, rfl, ho0, hb⟩; refine ⟨_, rfl, ?_⟩; have HO162 := Aside0.mk (Kd.R_lower (Kd.R_new' (Kd.R_new' (Kd.R_new' (Kd.R_new' (Kd.R_new' (Kd.R_new' ho0 (Kd.R_lt (rb_ HO_6.out))) (Kd.R_lt (rb_ HO_10.out))) (Kd.R_lt (rb_ HO_14.out))) (Kd.R_lt (rb_ HO_110000.out))) (Kd.R_lt (rb_ HO_148000.out))) (Kd.R_lt (rb_ HO158.out))) (below_size (gb_ HB.out))); replace HO_6 := a5_ HO_6 ho0 hb; replace HO_10 := a5_ HO_10 ho0 hb; replace HO_14 := a5_ HO_14 ho0 hb; replace HO_110000 := a5_ HO_110000 ho0 hb; replace HO_148000 := a5_ HO_148000 ho0 hb; replace HO158 := a5_ HO158 ho0 hb; replace BK109 := a2_ BK109 hb; replace BK147 := a2_ BK147 hb; replace HB := b1_ HB hb; (try clear hb); (try clear hb2); (try clear hk); (try clear hi); (try clear ho0)))
                   (try simp only [Act.put, List.setIfInBounds_toArray, List.set_cons_zero, List.set_cons_succ])
                   go_cut [261] (fun cs_261 wc => ∃ (kq : Nat) (x261_93 : Bool), cs_261 = .bool x261_93 ∧ Aside0 (laws_FnCovers.j7 kq t110 t128 x261_93 = some r) ∧ Aside0 (kq ≤ kj68) ∧ Aside0 (Kd.R (Kd.int .i64) 2 wc w.heap.size (fun k_ => OB_ k_ v129 ∧ OB_ k_ (.slice Ao10 t102.length co10) ∧ OB_ k_ (.slice Ao60 t141.length co60)) (.slice Ao97 t110.length co97) t110) ∧ Aside0 (Kd.R (Kd.int .i64) 2 wc w.heap.size (fun k_ => OB_ k_ (.slice Ao97 t110.length co97) ∧ OB_ k_ (.slice Ao10 t102.length co10) ∧ OB_ k_ (.slice Ao60 t141.length co60)) v129 t128) ∧ Aside0 (Kd.R (Kd.int .i64) 2 wc w.heap.size (fun k_ => OB_ k_ (.slice Ao97 t110.length co97) ∧ OB_ k_ v129 ∧ OB_ k_ (.slice Ao60 t141.length co60)) (.slice Ao10 t102.length co10) t102) ∧ Aside0 (Kd.R (Kd.int .i64) 2 wc w.heap.size (fun k_ => OB_ k_ (.slice Ao97 t110.length co97) ∧ OB_ k_ v129 ∧ OB_ k_ (.slice Ao10 t102.length co10)) (.slice Ao60 t141.length co60) t141) ∧ Aside0 (wc.heap[gb109]? = some (.cells #[(.slice Ao10 t102.length co10)] 26 (0, 0))) ∧ Aside0 (wc.heap[gb147]? = some (.cells #[(.slice Ao60 t141.length co60)] 26 (0, 0))) ∧ Aside0 (Below w.heap.size w wc))
                   case first => as_aux_lemma =>
                    have H := HC94.out
                    clear HC94
                    by_cases c101 : t122 = 0
                    ·as_aux_lemma =>
                     rw [if_pos c101] at H
                     have c101b0 : (t122 == 0) = true := beq_iff_eq.mpr c101
                     have c101b1 : (t122 != 0) = false := bne_eq_false_iff_eq.mpr c101
                     clear c101
                     (first | rw [c101b0] | (simp only [i64_w, i32_w]; rw [c101b0]) | skip)
                     by_cases c102 : t131 = 0
                     ·as_aux_lemma =>
                      rw [if_pos c102] at H
                      have c102b0 : (t131 == 0) = true := beq_iff_eq.mpr c102
                      have c102b1 : (t131 != 0) = false := bne_eq_false_iff_eq.mpr c102
                      clear c102
                      by_cases c103 : t138 = 0
                      ·as_aux_lemma =>
                       rw [if_pos c103] at H
                       have c103b0 : (t138 == 0) = true := beq_iff_eq.mpr c103
                       have c103b1 : (t138 != 0) = false := bne_eq_false_iff_eq.mpr c103
                       clear c103
                       by_cases c104 : t159 = 0
                       ·as_aux_lemma =>
                        rw [if_pos c104] at H
                        have c104b0 : (t159 == 0) = true := beq_iff_eq.mpr c104
                        have c104b1 : (t159 != 0) = false := bne_eq_false_iff_eq.mpr c104
                        clear c104
                        by_cases c105 : t163 = 0
                        ·as_aux_lemma =>
                         rw [if_pos c105] at H
                         have c105b0 : (t163 == 0) = true := beq_iff_eq.mpr c105
                         have c105b1 : (t163 != 0) = false := bne_eq_false_iff_eq.mpr c105
                         clear c105
                         replace H := Option.bind_eq_some_iff.mp H
                         obtain ⟨t164, A1060, H⟩ := H
                         replace H : (if t164 = true then ((laws_likeInts.f kj68 t160 t110).bind fun t165 => (if t165 = true then (laws_FnCovers.j7 kj68 t110 t128 (t137 != ((t119.length : Int) == 0))) else (laws_FnCovers.j7 kj68 t110 t128 true))) else (laws_FnCovers.j7 kj68 t110 t128 true)) = some r := H
                         have A106 := Aside0.mk A1060
                         clear A1060
                         by_cases c107 : t164 = true
                         ·as_aux_lemma =>
                          subst c107
                          have H1 : ((laws_likeInts.f kj68 t160 t110).bind fun t165 => (if t165 = true then (laws_FnCovers.j7 kj68 t110 t128 (t137 != ((t119.length : Int) == 0))) else (laws_FnCovers.j7 kj68 t110 t128 true))) = some r := by rw [if_pos rfl] at H; exact H
                          clear H
                          have H := H1
                          clear H1
                          replace H := Option.bind_eq_some_iff.mp H
                          obtain ⟨t165, A1080, H⟩ := H
                          replace H : (if t165 = true then (laws_FnCovers.j7 kj68 t110 t128 (t137 != ((t119.length : Int) == 0))) else (laws_FnCovers.j7 kj68 t110 t128 true)) = some r := H
                          have A108 := Aside0.mk A1080
                          clear A1080
                          by_cases c109 : t165 = true
                          ·as_aux_lemma =>
                           subst c109
                           have H1 : (laws_FnCovers.j7 kj68 t110 t128 (t137 != ((t119.length : Int) == 0))) = some r := by rw [if_pos rfl] at H; exact H
                           clear H
                           have H := H1
                           clear H1
                           have H' := Aside0.mk H
                           clear H
                           obtain ⟨Ao110, co110, eo110⟩ := Kd.R_slice HO158.out
                           subst eo110
                           obtain ⟨Ao111, co111, eo111⟩ := Kd.R_slice HO_10.out
                           subst eo111
                           go_wp2_with (first | (go_at_call 18; (with_reducible refine (laws_likeInts.calls kj68 _ _ t156 _ _ t119 true _ ?side1 ?side2 ?side3 ?side4 A106.out).mono ?_); (case side1 => exact c1_ HO158); (case side2 => exact (Kd.R_reads' HO158.out).2.1); (case side3 => exact c1_ HO_10); (case side4 => exact (Kd.R_reads' HO_10.out).2.1); rintro e w' ⟨rfl, ⟨nd, rfl⟩⟩; obtain ⟨Ao112, co112, eo112⟩ := Kd.R_slice HO162.out; subst eo112) | (go_at_call 18; (with_reducible refine (laws_likeInts.calls kj68 _ _ t160 _ _ t110 true _ ?side1 ?side2 ?side3 ?side4 A108.out).mono ?_); (case side1 => exact c1_ HO162); (case side2 => exact (Kd.R_reads' HO162.out).2.1); (case side3 => exact c1_ HO_6); (case side4 => exact (Kd.R_reads' HO_6.out).2.1); rintro e w' ⟨rfl, ⟨nd, rfl⟩⟩))
                           go_meet
                           case rel => exact ⟨_, ((t137 != ((t119.length : Int) == 0))), t2_, H', ⟨by have := HJ6.out; have := HJ22.out; have := HJ34.out; have := HJ46.out; have := HJ56.out; have := HJ68.out; first | omega | exact Nat.le_refl _⟩, ⟨by (with_reducible repeat (first | apply Kd.R_alloc | apply Kd.R_drewN | apply Kd.R_drew)); exact Kd.R_mono HO_6.out (fun _ hk => ⟨hk.1.1.2.1, ⟨hk.1.1.2.2.1, hk.1.1.2.2.2⟩⟩)⟩, ⟨by (with_reducible repeat (first | apply Kd.R_alloc | apply Kd.R_drewN | apply Kd.R_drew)); exact Kd.R_mono HO_14.out (fun _ hk => ⟨hk.1.1.1, ⟨hk.1.1.2.2.1, hk.1.1.2.2.2⟩⟩)⟩, ⟨by (with_reducible repeat (first | apply Kd.R_alloc | apply Kd.R_drewN | apply Kd.R_drew)); exact Kd.R_mono HO_110000.out (fun _ hk => ⟨hk.1.1.1, ⟨hk.1.1.2.2.1, hk.1.1.2.2.2⟩⟩)⟩, ⟨by (with_reducible repeat (first | apply Kd.R_alloc | apply Kd.R_drewN | apply Kd.R_drew)); exact Kd.R_mono HO_148000.out (fun _ hk => ⟨hk.1.1.1, ⟨hk.1.1.2.2.1, hk.1.1.2.2.2⟩⟩)⟩, ⟨bb_ BK109.out⟩, ⟨bb_ BK147.out⟩, ⟨gb_ HB.out⟩⟩
                          ·as_aux_lemma =>
                           replace c109 := Bool.eq_false_iff.mpr c109
                           subst c109
                           have H1 : (laws_FnCovers.j7 kj68 t110 t128 true) = some r := by rw [if_neg (show ¬ (false = true) by decide)] at H; exact H
                           clear H
                           have H := H1
                           clear H1
                           have H' := Aside0.mk H
                           clear H
                           obtain ⟨Ao113, co113, eo113⟩ := Kd.R_slice HO158.out
                           subst eo113
                           obtain ⟨Ao114, co114, eo114⟩ := Kd.R_slice HO_10.out
                           subst eo114
                           go_wp2_with (first | (go_at_call 18; (with_reducible refine (laws_likeInts.calls kj68 _ _ t156 _ _ t119 true _ ?side1 ?side2 ?side3 ?side4 A106.out).mono ?_); (case side1 => exact c1_ HO158); (case side2 => exact (Kd.R_reads' HO158.out).2.1); (case side3 => exact c1_ HO_10); (case side4 => exact (Kd.R_reads' HO_10.out).2.1); rintro e w' ⟨rfl, ⟨nd, rfl⟩⟩; obtain ⟨Ao115, co115, eo115⟩ := Kd.R_slice HO162.out; subst eo115) | (go_at_call 18; (with_reducible refine (laws_likeInts.calls kj68 _ _ t160 _ _ t110 false _ ?side1 ?side2 ?side3 ?side4 A108.out).mono ?_); (case side1 => exact c1_ HO162); (case side2 => exact (Kd.R_reads' HO162.out).2.1); (case side3 => exact c1_ HO_6); (case side4 => exact (Kd.R_reads' HO_6.out).2.1); rintro e w' ⟨rfl, ⟨nd, rfl⟩⟩))
                           go_meet
                           case rel => exact ⟨_, (true), t2_, H', ⟨by have := HJ6.out; have := HJ22.out; have := HJ34.out; have := HJ46.out; have := HJ56.out; have := HJ68.out; first | omega | exact Nat.le_refl _⟩, ⟨by (with_reducible repeat (first | apply Kd.R_alloc | apply Kd.R_drewN | apply Kd.R_drew)); exact Kd.R_mono HO_6.out (fun _ hk => ⟨hk.1.1.2.1, ⟨hk.1.1.2.2.1, hk.1.1.2.2.2⟩⟩)⟩, ⟨by (with_reducible repeat (first | apply Kd.R_alloc | apply Kd.R_drewN | apply Kd.R_drew)); exact Kd.R_mono HO_14.out (fun _ hk => ⟨hk.1.1.1, ⟨hk.1.1.2.2.1, hk.1.1.2.2.2⟩⟩)⟩, ⟨by (with_reducible repeat (first | apply Kd.R_alloc | apply Kd.R_drewN | apply Kd.R_drew)); exact Kd.R_mono HO_110000.out (fun _ hk => ⟨hk.1.1.1, ⟨hk.1.1.2.2.1, hk.1.1.2.2.2⟩⟩)⟩, ⟨by (with_reducible repeat (first | apply Kd.R_alloc | apply Kd.R_drewN | apply Kd.R_drew)); exact Kd.R_mono HO_148000.out (fun _ hk => ⟨hk.1.1.1, ⟨hk.1.1.2.2.1, hk.1.1.2.2.2⟩⟩)⟩, ⟨bb_ BK109.out⟩, ⟨bb_ BK147.out⟩, ⟨gb_ HB.out⟩⟩
                         ·as_aux_lemma =>
                          replace c107 := Bool.eq_false_iff.mpr c107
                          subst c107
                          have H1 : (laws_FnCovers.j7 kj68 t110 t128 true) = some r := by rw [if_neg (show ¬ (false = true) by decide)] at H; exact H
                          clear H
                          have H := H1
                          clear H1
                          have H' := Aside0.mk H
                          clear H
                          obtain ⟨Ao116, co116, eo116⟩ := Kd.R_slice HO158.out
                          subst eo116
                          obtain ⟨Ao117, co117, eo117⟩ := Kd.R_slice HO_10.out
                          subst eo117
                          go_wp2_with (first | (go_at_call 18; (with_reducible refine (laws_likeInts.calls kj68 _ _ t156 _ _ t119 false _ ?side1 ?side2 ?side3 ?side4 A106.out).mono ?_); (case side1 => exact c1_ HO158); (case side2 => exact (Kd.R_reads' HO158.out).2.1); (case side3 => exact c1_ HO_10); (case side4 => exact (Kd.R_reads' HO_10.out).2.1); rintro e w' ⟨rfl, ⟨nd, rfl⟩⟩))
                          go_meet
                          case rel => exact ⟨_, (true), t2_, H', ⟨by have := HJ6.out; have := HJ22.out; have := HJ34.out; have := HJ46.out; have := HJ56.out; have := HJ68.out; first | omega | exact Nat.le_refl _⟩, ⟨by (with_reducible repeat (first | apply Kd.R_alloc | apply Kd.R_drewN | apply Kd.R_drew)); exact Kd.R_mono HO_6.out (fun _ hk => ⟨hk.1.1.2.1, ⟨hk.1.1.2.2.1, hk.1.1.2.2.2⟩⟩)⟩, ⟨by (with_reducible repeat (first | apply Kd.R_alloc | apply Kd.R_drewN | apply Kd.R_drew)); exact Kd.R_mono HO_14.out (fun _ hk => ⟨hk.1.1.1, ⟨hk.1.1.2.2.1, hk.1.1.2.2.2⟩⟩)⟩, ⟨by (with_reducible repeat (first | apply Kd.R_alloc | apply Kd.R_drewN | apply Kd.R_drew)); exact Kd.R_mono HO_110000.out (fun _ hk => ⟨hk.1.1.1, ⟨hk.1.1.2.2.1, hk.1.1.2.2.2⟩⟩)⟩, ⟨by (with_reducible repeat (first | apply Kd.R_alloc | apply Kd.R_drewN | apply Kd.R_drew)); exact Kd.R_mono HO_148000.out (fun _ hk => ⟨hk.1.1.1, ⟨hk.1.1.2.2.1, hk.1.1.2.2.2⟩⟩)⟩, ⟨bb_ BK109.out⟩, ⟨bb_ BK147.out⟩, ⟨gb_ HB.out⟩⟩
                        ·as_aux_lemma =>
                         rw [if_neg c105] at H
                         have c105b0 : (t163 == 0) = false := beq_eq_false_iff_ne.mpr c105
                         have c105b1 : (t163 != 0) = true := bne_iff_ne.mpr c105
                         have H' := Aside0.mk H
                         clear H
                         go_wp2
                         go_meet
                         case rel => exact ⟨_, (true), t2_, H', ⟨by have := HJ6.out; have := HJ22.out; have := HJ34.out; have := HJ46.out; have := HJ56.out; have := HJ68.out; first | omega | exact Nat.le_refl _⟩, ⟨by (with_reducible repeat (first | apply Kd.R_alloc | apply Kd.R_drewN | apply Kd.R_drew)); exact Kd.R_mono HO_6.out (fun _ hk => ⟨hk.1.1.2.1, ⟨hk.1.1.2.2.1, hk.1.1.2.2.2⟩⟩)⟩, ⟨by (with_reducible repeat (first | apply Kd.R_alloc | apply Kd.R_drewN | apply Kd.R_drew)); exact Kd.R_mono HO_14.out (fun _ hk => ⟨hk.1.1.1, ⟨hk.1.1.2.2.1, hk.1.1.2.2.2⟩⟩)⟩, ⟨by (with_reducible repeat (first | apply Kd.R_alloc | apply Kd.R_drewN | apply Kd.R_drew)); exact Kd.R_mono HO_110000.out (fun _ hk => ⟨hk.1.1.1, ⟨hk.1.1.2.2.1, hk.1.1.2.2.2⟩⟩)⟩, ⟨by (with_reducible repeat (first | apply Kd.R_alloc | apply Kd.R_drewN | apply Kd.R_drew)); exact Kd.R_mono HO_148000.out (fun _ hk => ⟨hk.1.1.1, ⟨hk.1.1.2.2.1, hk.1.1.2.2.2⟩⟩)⟩, ⟨bb_ BK109.out⟩, ⟨bb_ BK147.out⟩, ⟨gb_ HB.out⟩⟩
                       ·as_aux_lemma =>
                        rw [if_neg c104] at H
                        have c104b0 : (t159 == 0) = false := beq_eq_false_iff_ne.mpr c104
                        have c104b1 : (t159 != 0) = true := bne_iff_ne.mpr c104
                        have H' := Aside0.mk H
                        clear H
                        go_wp2
                        go_meet
                        case rel => exact ⟨_, (true), t2_, H', ⟨by have := HJ6.out; have := HJ22.out; have := HJ34.out; have := HJ46.out; have := HJ56.out; have := HJ68.out; first | omega | exact Nat.le_refl _⟩, ⟨by (with_reducible repeat (first | apply Kd.R_alloc | apply Kd.R_drewN | apply Kd.R_drew)); exact Kd.R_mono HO_6.out (fun _ hk => ⟨hk.1.1.2.1, ⟨hk.1.1.2.2.1, hk.1.1.2.2.2⟩⟩)⟩, ⟨by (with_reducible repeat (first | apply Kd.R_alloc | apply Kd.R_drewN | apply Kd.R_drew)); exact Kd.R_mono HO_14.out (fun _ hk => ⟨hk.1.1.1, ⟨hk.1.1.2.2.1, hk.1.1.2.2.2⟩⟩)⟩, ⟨by (with_reducible repeat (first | apply Kd.R_alloc | apply Kd.R_drewN | apply Kd.R_drew)); exact Kd.R_mono HO_110000.out (fun _ hk => ⟨hk.1.1.1, ⟨hk.1.1.2.2.1, hk.1.1.2.2.2⟩⟩)⟩, ⟨by (with_reducible repeat (first | apply Kd.R_alloc | apply Kd.R_drewN | apply Kd.R_drew)); exact Kd.R_mono HO_148000.out (fun _ hk => ⟨hk.1.1.1, ⟨hk.1.1.2.2.1, hk.1.1.2.2.2⟩⟩)⟩, ⟨bb_ BK109.out⟩, ⟨bb_ BK147.out⟩, ⟨gb_ HB.out⟩⟩
                      ·as_aux_lemma =>
                       rw [if_neg c103] at H
                       have c103b0 : (t138 == 0) = false := beq_eq_false_iff_ne.mpr c103
                       have c103b1 : (t138 != 0) = true := bne_iff_ne.mpr c103
                       have H' := Aside0.mk H
                       clear H
                       go_wp2
                       go_meet
                       case rel => exact ⟨_, (true), t2_, H', ⟨by have := HJ6.out; have := HJ22.out; have := HJ34.out; have := HJ46.out; have := HJ56.out; have := HJ68.out; first | omega | exact Nat.le_refl _⟩, ⟨by (with_reducible repeat (first | apply Kd.R_alloc | apply Kd.R_drewN | apply Kd.R_drew)); exact Kd.R_mono HO_6.out (fun _ hk => ⟨hk.1.1.2.1, ⟨hk.1.1.2.2.1, hk.1.1.2.2.2⟩⟩)⟩, ⟨by (with_reducible repeat (first | apply Kd.R_alloc | apply Kd.R_drewN | apply Kd.R_drew)); exact Kd.R_mono HO_14.out (fun _ hk => ⟨hk.1.1.1, ⟨hk.1.1.2.2.1, hk.1.1.2.2.2⟩⟩)⟩, ⟨by (with_reducible repeat (first | apply Kd.R_alloc | apply Kd.R_drewN | apply Kd.R_drew)); exact Kd.R_mono HO_110000.out (fun _ hk => ⟨hk.1.1.1, ⟨hk.1.1.2.2.1, hk.1.1.2.2.2⟩⟩)⟩, ⟨by (with_reducible repeat (first | apply Kd.R_alloc | apply Kd.R_drewN | apply Kd.R_drew)); exact Kd.R_mono HO_148000.out (fun _ hk => ⟨hk.1.1.1, ⟨hk.1.1.2.2.1, hk.1.1.2.2.2⟩⟩)⟩, ⟨bb_ BK109.out⟩, ⟨bb_ BK147.out⟩, ⟨gb_ HB.out⟩⟩
                     ·as_aux_lemma =>
                      rw [if_neg c102] at H
                      have c102b0 : (t131 == 0) = false := beq_eq_false_iff_ne.mpr c102
                      have c102b1 : (t131 != 0) = true := bne_iff_ne.mpr c102
                      have H' := Aside0.mk H
                      clear H
                      go_wp2
                      go_meet
                      case rel => exact ⟨_, (true), t2_, H', ⟨by have := HJ6.out; have := HJ22.out; have := HJ34.out; have := HJ46.out; have := HJ56.out; have := HJ68.out; first | omega | exact Nat.le_refl _⟩, ⟨by (with_reducible repeat (first | apply Kd.R_alloc | apply Kd.R_drewN | apply Kd.R_drew)); exact Kd.R_mono HO_6.out (fun _ hk => ⟨hk.1.1.2.1, ⟨hk.1.1.2.2.1, hk.1.1.2.2.2⟩⟩)⟩, ⟨by (with_reducible repeat (first | apply Kd.R_alloc | apply Kd.R_drewN | apply Kd.R_drew)); exact Kd.R_mono HO_14.out (fun _ hk => ⟨hk.1.1.1, ⟨hk.1.1.2.2.1, hk.1.1.2.2.2⟩⟩)⟩, ⟨by (with_reducible repeat (first | apply Kd.R_alloc | apply Kd.R_drewN | apply Kd.R_drew)); exact Kd.R_mono HO_110000.out (fun _ hk => ⟨hk.1.1.1, ⟨hk.1.1.2.2.1, hk.1.1.2.2.2⟩⟩)⟩, ⟨by (with_reducible repeat (first | apply Kd.R_alloc | apply Kd.R_drewN | apply Kd.R_drew)); exact Kd.R_mono HO_148000.out (fun _ hk => ⟨hk.1.1.1, ⟨hk.1.1.2.2.1, hk.1.1.2.2.2⟩⟩)⟩, ⟨bb_ BK109.out⟩, ⟨bb_ BK147.out⟩, ⟨gb_ HB.out⟩⟩
                    ·as_aux_lemma =>
                     rw [if_neg c101] at H
                     have c101b0 : (t122 == 0) = false := beq_eq_false_iff_ne.mpr c101
                     have c101b1 : (t122 != 0) = true := bne_iff_ne.mpr c101
                     (first | rw [c101b0] | (simp only [i64_w, i32_w]; rw [c101b0]) | skip)
                     have H' := Aside0.mk H
                     clear H
                     go_wp2
                     go_meet
                     case rel => exact ⟨_, (true), t2_, H', ⟨by have := HJ6.out; have := HJ22.out; have := HJ34.out; have := HJ46.out; have := HJ56.out; have := HJ68.out; first | omega | exact Nat.le_refl _⟩, ⟨by (with_reducible repeat (first | apply Kd.R_alloc | apply Kd.R_drewN | apply Kd.R_drew)); exact Kd.R_mono HO_6.out (fun _ hk => ⟨hk.1.1.2.1, ⟨hk.1.1.2.2.1, hk.1.1.2.2.2⟩⟩)⟩, ⟨by (with_reducible repeat (first | apply Kd.R_alloc | apply Kd.R_drewN | apply Kd.R_drew)); exact Kd.R_mono HO_14.out (fun _ hk => ⟨hk.1.1.1, ⟨hk.1.1.2.2.1, hk.1.1.2.2.2⟩⟩)⟩, ⟨by (with_reducible repeat (first | apply Kd.R_alloc | apply Kd.R_drewN | apply Kd.R_drew)); exact Kd.R_mono HO_110000.out (fun _ hk => ⟨hk.1.1.1, ⟨hk.1.1.2.2.1, hk.1.1.2.2.2⟩⟩)⟩, ⟨by (with_reducible repeat (first | apply Kd.R_alloc | apply Kd.R_drewN | apply Kd.R_drew)); exact Kd.R_mono HO_148000.out (fun _ hk => ⟨hk.1.1.1, ⟨hk.1.1.2.2.1, hk.1.1.2.2.2⟩⟩)⟩, ⟨bb_ BK109.out⟩, ⟨bb_ BK147.out⟩, ⟨gb_ HB.out⟩⟩
                   case rest => as_aux_lemma =>
                    clear HC94
                    try clear c1
                    try clear c2
                    try clear p2
                    try clear c3
                    try clear c4
                    try clear c5
                    try clear c6
                    try clear p6
                    try clear c7
                    try clear c8
                    try clear c9
                    try clear c10
                    try clear c16
                    try clear c16b0
                    try clear c16b1
                    try clear c20
                    try clear c28
                    try clear c28b0
                    try clear c28b1
                    try clear c32
                    try clear c40
                    try clear c40b0
                    try clear c40b1
                    try clear c43
                    try clear c44
                    try clear c45
                    try clear c46
                    try clear c47
                    try clear c48
                    try clear c49
                    try clear c50
                    try clear c51
                    try clear c52
                    try clear c52b0
                    try clear c52b1
                    try clear c53
                    try clear c54
                    try clear c61
                    try clear p64
                    try clear c67
                    try clear c67b0
                    try clear c67b1
                    try clear c68
                    try clear c70
                    try clear c70b0
                    try clear c70b1
                    try clear c73
                    try clear c76
                    try clear c76b0
                    try clear c76b1
                    try clear c77
                    try clear c78
                    try clear c78b0
                    try clear c80
                    try clear c80b0
                    try clear c80b1
                    try clear c81
                    try clear c82
                    try clear c85
                    try clear c88
                    try clear c91
                    try clear c91b0
                    try clear c91b1
                    try clear c95
                    try clear c101
                    try clear c101b0
                    try clear c101b1
                    try clear c102
                    try clear c102b0
                    try clear c102b1
                    try clear c103
                    try clear c103b0
                    try clear c103b1
                    try clear c104
                    try clear c104b0
                    try clear c104b1
                    try clear c105
                    try clear c105b0
                    try clear c105b1
                    try clear c107
                    try clear c109
                    try clear hcz11_0
                    try clear hcz14_0
                    try clear hcz24_0
                    try clear hcz26_0
                    try clear hcz36_0
                    try clear hcz38_0
                    try clear hcz48_0
                    try clear hcz50_0
                    try clear hcz62_0
                    try clear hcz65_0
                    try clear hcz74_0
                    try clear hcz83_0
                    try clear hcz86_0
                    try clear hcz89_0
                    try clear hcz96_0
                    try clear hcz99_0
                    try clear hfz11_0
                    try clear hfz14_0
                    try clear hfz24_0
                    try clear hfz26_0
                    try clear hfz36_0
                    try clear hfz38_0
                    try clear hfz48_0
                    try clear hfz50_0
                    try clear hfz62_0
                    try clear hfz65_0
                    try clear hfz74_0
                    try clear hfz83_0
                    try clear hfz86_0
                    try clear hfz89_0
                    try clear hfz96_0
                    try clear hfz99_0
                    try clear p2
                    try clear p6
                    try clear p64
                    obtain ⟨kq, x261_93, rfl, HA, HJ93, HO_6, HO_14, HO_110000, HO_148000, BK109, BK147, HB⟩ := hcut
                    cases kq with
                    | zero => exact absurd HA.out (by simp [laws_FnCovers.j7])
                    | succ kj93 =>
                     have H := HA.out
                     clear HA
                     simp only [laws_FnCovers.j7] at H
                     by_cases c118 : x261_93 = true
                     ·as_aux_lemma =>
                      subst c118
                      have H1 : (some false) = some r := by rw [if_pos rfl] at H; exact H
                      clear H
                      have H := H1
                      clear H1
                      obtain rfl := Option.some.inj H
                      go_wp2
                      go_ret
                      exact ⟨t5_, gb_ HB.out⟩
                     ·as_aux_lemma =>
                      replace c118 := Bool.eq_false_iff.mpr c118
                      subst c118
                      have H1 : (laws_FnCovers.l0 kj93 t110 t128 0) = some r := by rw [if_neg (show ¬ (false = true) by decide)] at H; exact H
                      clear H
                      have H := H1
                      clear H1
                      have H' := Aside0.mk H
                      clear H
                      go_wp2
                      go_loopg [36] kj93 (fun kq v36 w' => ∃ (x36_8 : Int), v36 = .int .i64 x36_8 ∧ Aside0 (laws_FnCovers.l0 kq t110 t128 x36_8 = some r) ∧ Aside0 (kq ≤ kj93) ∧ Aside0 (Kd.R (Kd.int .i64) 2 w' w.heap.size (fun k_ => OB_ k_ v129 ∧ OB_ k_ (.slice Ao10 t102.length co10) ∧ OB_ k_ (.slice Ao60 t141.length co60)) (.slice Ao97 t110.length co97) t110) ∧ Aside0 (Kd.R (Kd.int .i64) 2 w' w.heap.size (fun k_ => OB_ k_ (.slice Ao97 t110.length co97) ∧ OB_ k_ (.slice Ao10 t102.length co10) ∧ OB_ k_ (.slice Ao60 t141.length co60)) v129 t128) ∧ Aside0 (Kd.R (Kd.int .i64) 2 w' w.heap.size (fun k_ => OB_ k_ (.slice Ao97 t110.length co97) ∧ OB_ k_ v129 ∧ OB_ k_ (.slice Ao60 t141.length co60)) (.slice Ao10 t102.length co10) t102) ∧ Aside0 (Kd.R (Kd.int .i64) 2 w' w.heap.size (fun k_ => OB_ k_ (.slice Ao97 t110.length co97) ∧ OB_ k_ v129 ∧ OB_ k_ (.slice Ao10 t102.length co10)) (.slice Ao60 t141.length co60) t141) ∧ Aside0 (w'.heap[gb109]? = some (.cells #[(.slice Ao10 t102.length co10)] 26 (0, 0))) ∧ Aside0 (w'.heap[gb147]? = some (.cells #[(.slice Ao60 t141.length co60)] 26 (0, 0))) ∧ Aside0 (Below w.heap.size w w'))
                      case atStart => exact ⟨(0), t2_, H', ⟨Nat.le_refl _⟩, ⟨rb_ HO_6.out⟩, ⟨rb_ HO_14.out⟩, ⟨rb_ HO_110000.out⟩, ⟨rb_ HO_148000.out⟩, ⟨bb_ BK109.out⟩, ⟨bb_ BK147.out⟩, ⟨gb_ HB.out⟩⟩
                      case round => as_aux_lemma =>
                       clear H'
                       try clear c1
                       try clear c2
                       try clear p2
                       try clear c3
                       try clear c4
                       try clear c5
                       try clear c6
                       try clear p6
                       try clear c7
                       try clear c8
                       try clear c9
                       try clear c10
                       try clear c11
                       try clear c16
                       try clear c16b0
                       try clear c16b1
                       try clear c20
                       try clear c28
                       try clear c28b0
                       try clear c28b1
                       try clear c32
                       try clear c40
                       try clear c40b0
                       try clear c40b1
                       try clear c43
                       try clear c44
                       try clear c45
                       try clear c46
                       try clear c47
                       try clear c48
                       try clear c49
                       try clear c50
                       try clear c51
                       try clear c52
                       try clear c52b0
                       try clear c52b1
                       try clear c53
                       try clear c54
                       try clear c61
                       try clear p64
                       try clear c67
                       try clear c67b0
                       try clear c67b1
                       try clear c68
                       try clear c70
                       try clear c70b0
                       try clear c70b1
                       try clear c73
                       try clear c76
                       try clear c76b0
                       try clear c76b1
                       try clear c77
                       try clear c78
                       try clear c78b0
                       try clear c80
                       try clear c80b0
                       try clear c80b1
                       try clear c81
                       try clear c82
                       try clear c85
                       try clear c88
                       try clear c91
                       try clear c91b0
                       try clear c91b1
                       try clear c95
                       try clear c101
                       try clear c101b0
                       try clear c101b1
                       try clear c102
                       try clear c102b0
                       try clear c102b1
                       try clear c103
                       try clear c103b0
                       try clear c103b1
                       try clear c104
                       try clear c104b0
                       try clear c104b1
                       try clear c105
                       try clear c105b0
                       try clear c105b1
                       try clear c107
                       try clear c109
                       try clear c118
                       try clear hcz11_0
                       try clear hcz14_0
                       try clear hcz24_0
                       try clear hcz26_0
                       try clear hcz36_0
                       try clear hcz38_0
                       try clear hcz48_0
                       try clear hcz50_0
                       try clear hcz62_0
                       try clear hcz65_0
                       try clear hcz74_0
                       try clear hcz83_0
                       try clear hcz86_0
                       try clear hcz89_0
                       try clear hcz96_0
                       try clear hcz99_0
                       try clear hfz11_0
                       try clear hfz14_0
                       try clear hfz24_0
                       try clear hfz26_0
                       try clear hfz36_0
                       try clear hfz38_0
                       try clear hfz48_0
                       try clear hfz50_0
                       try clear hfz62_0
                       try clear hfz65_0
                       try clear hfz74_0
                       try clear hfz83_0
                       try clear hfz86_0
                       try clear hfz89_0
                       try clear hfz96_0
                       try clear hfz99_0
                       try clear p2
                       try clear p6
                       try clear p64
                       obtain ⟨x36_8, rfl, HA, HK8, HO_6, HO_14, HO_110000, HO_148000, BK109, BK147, HB⟩ := hrel
                       cases gk with
                       | zero => exact absurd HA.out (by simp [laws_FnCovers.l0])
                       | succ k8 =>
                        have H := HA.out
                        clear HA
                        simp only [laws_FnCovers.l0] at H
                        by_cases c119 : x36_8 < (t128.length : Int)
                        ·as_aux_lemma =>
                         rw [if_pos c119] at H
                         have c119b0 : decide (x36_8 < (t128.length : Int)) = true := decide_eq_true c119
                         clear c119
                         by_cases c120 : 0 ≤ x36_8
                         ·as_aux_lemma =>
                          rw [if_pos c120] at H
                          have c120b0 : decide (0 ≤ x36_8) = true := decide_eq_true c120
                          clear c120
                          replace H := Option.bind_eq_some_iff.mp H
                          obtain ⟨t167, A1210, H⟩ := H
                          replace H : (if t167 = true then (laws_FnCovers.l0 k8 t110 t128 (wrap64 (x36_8 + 1))) else (some false)) = some r := H
                          have A121 := Aside0.mk A1210
                          clear A1210
                          by_cases c122 : t167 = true
                          ·as_aux_lemma =>
                           subst c122
                           have H1 : (laws_FnCovers.l0 k8 t110 t128 (wrap64 (x36_8 + 1))) = some r := by rw [if_pos rfl] at H; exact H
                           clear H
                           have H := H1
                           clear H1
                           have H' := Aside0.mk H
                           clear H
                           obtain ⟨Ao123, co123, eo123⟩ := Kd.R_slice HO_14.out
                           subst eo123
                           have p166 : 0 ≤ (x36_8 : Int) := of_decide_eq_true t6_
                           have q166 : x36_8 < (t128.length : Int) := of_decide_eq_true t6_
                           obtain ⟨ad166, e166, hx166_0⟩ := Kd.at_int (Kd.R_reads' HO_14.out).2.2 x36_8 p166 q166
                           cases e166
                           replace p166 := eq_true p166
                           replace q166 := eq_true q166
                           go_wp2_with (first | ((with_reducible refine gate_callee (f := 29) rfl ?_); refine gl_ (some 273) rfl rfl Try.func29 #[.slice Ao97 t110.length co97, .int .i64 (rd t128 x36_8)] rfl ?_; (with_reducible refine (laws_hasInt.calls k8 _ _ t110 (rd t128 x36_8) true _ ?side1 ?side2 A121.out).mono ?_); (case side1 => exact c1_ HO_6); (case side2 => exact (Kd.R_reads' HO_6.out).2.1); rintro e w' ⟨rfl, ⟨nd, rfl⟩⟩; refine ⟨_, rfl, ?_⟩))
                           go_roundg k8
                           case measure => have := HJ6.out; have := HJ22.out; have := HJ34.out; have := HJ46.out; have := HJ56.out; have := HJ68.out; have := HJ93.out; have := HK8.out; omega
                           case rel => exact ⟨(wrap64 (x36_8 + 1)), t2_, H', ⟨by have := HJ6.out; have := HJ22.out; have := HJ34.out; have := HJ46.out; have := HJ56.out; have := HJ68.out; have := HJ93.out; have := HK8.out; omega⟩, ⟨rb_ HO_6.out⟩, ⟨rb_ HO_14.out⟩, ⟨rb_ HO_110000.out⟩, ⟨rb_ HO_148000.out⟩, ⟨bb_ BK109.out⟩, ⟨bb_ BK147.out⟩, ⟨gb_ HB.out⟩⟩
                          ·as_aux_lemma =>
                           replace c122 := Bool.eq_false_iff.mpr c122
                           subst c122
                           have H1 : (some false) = some r := by rw [if_neg (show ¬ (false = true) by decide)] at H; exact H
                           clear H
                           have H := H1
                           clear H1
                           obtain rfl := Option.some.inj H
                           obtain ⟨Ao124, co124, eo124⟩ := Kd.R_slice HO_14.out
                           subst eo124
                           have p166 : 0 ≤ (x36_8 : Int) := of_decide_eq_true t6_
                           have q166 : x36_8 < (t128.length : Int) := of_decide_eq_true t6_
                           obtain ⟨ad166, e166, hx166_0⟩ := Kd.at_int (Kd.R_reads' HO_14.out).2.2 x36_8 p166 q166
                           cases e166
                           replace p166 := eq_true p166
                           replace q166 := eq_true q166
                           go_wp2_with (first | ((with_reducible refine gate_callee (f := 29) rfl ?_); refine gl_ (some 273) rfl rfl Try.func29 #[.slice Ao97 t110.length co97, .int .i64 (rd t128 x36_8)] rfl ?_; (with_reducible refine (laws_hasInt.calls k8 _ _ t110 (rd t128 x36_8) false _ ?side1 ?side2 A121.out).mono ?_); (case side1 => exact c1_ HO_6); (case side2 => exact (Kd.R_reads' HO_6.out).2.1); rintro e w' ⟨rfl, ⟨nd, rfl⟩⟩; refine ⟨_, rfl, ?_⟩))
                           go_ret
                           exact ⟨t5_, gb_ HB.out⟩
                         ·as_aux_lemma =>
                          rw [if_neg c120] at H
                          exact absurd H (by simp)
                        ·as_aux_lemma =>
                         rw [if_neg c119] at H
                         have c119b0 : decide (x36_8 < (t128.length : Int)) = false := decide_eq_false c119
                         clear c119
                         obtain rfl := Option.some.inj H
                         obtain ⟨Ao125, co125, eo125⟩ := Kd.R_slice HO_14.out
                         subst eo125
                         go_wp2
                         go_ret
                         exact ⟨t5_, gb_ HB.out⟩
                  ·as_aux_lemma =>
                   rw [if_neg c91] at H
                   have c91b0 : (t113 == 0) = false := beq_eq_false_iff_ne.mpr c91
                   have c91b1 : (t113 != 0) = true := bne_iff_ne.mpr c91
                   by_cases c126 : (t110.length : Int) = 0
                   ·as_aux_lemma =>
                    rw [if_pos c126] at H
                    have c126b0 : ((t110.length : Int) == 0) = true := beq_iff_eq.mpr c126
                    have c126b1 : ((t110.length : Int) != 0) = false := bne_eq_false_iff_eq.mpr c126
                    clear c126
                    by_cases c127 : t122 = t113
                    ·as_aux_lemma =>
                     rw [if_pos c127] at H
                     have c127b0 : (t122 == t113) = true := beq_iff_eq.mpr c127
                     have c127b1 : (t122 != t113) = false := bne_eq_false_iff_eq.mpr c127
                     clear c127
                     by_cases c128 : t131 = t113
                     ·as_aux_lemma =>
                      rw [if_pos c128] at H
                      have c128b0 : (t131 == t113) = true := beq_iff_eq.mpr c128
                      have c128b1 : (t131 != t113) = false := bne_eq_false_iff_eq.mpr c128
                      clear c128
                      obtain rfl := Option.some.inj H
                      obtain ⟨Ao129, co129, eo129⟩ := Kd.R_slice HO_6.out
                      subst eo129
                      go_wp2
                      go_ret
                      exact ⟨t5_, gb_ HB.out⟩
                     ·as_aux_lemma =>
                      rw [if_neg c128] at H
                      have c128b0 : (t131 == t113) = false := beq_eq_false_iff_ne.mpr c128
                      have c128b1 : (t131 != t113) = true := bne_iff_ne.mpr c128
                      obtain rfl := Option.some.inj H
                      obtain ⟨Ao130, co130, eo130⟩ := Kd.R_slice HO_6.out
                      subst eo130
                      go_wp2
                      go_ret
                      exact ⟨t5_, gb_ HB.out⟩
                    ·as_aux_lemma =>
                     rw [if_neg c127] at H
                     have c127b0 : (t122 == t113) = false := beq_eq_false_iff_ne.mpr c127
                     have c127b1 : (t122 != t113) = true := bne_iff_ne.mpr c127
                     obtain rfl := Option.some.inj H
                     obtain ⟨Ao131, co131, eo131⟩ := Kd.R_slice HO_6.out
                     subst eo131
                     go_wp2
                     go_ret
                     exact ⟨t5_, gb_ HB.out⟩
                   ·as_aux_lemma =>
                    rw [if_neg c126] at H
                    have c126b0 : ((t110.length : Int) == 0) = false := beq_eq_false_iff_ne.mpr c126
                    have c126b1 : ((t110.length : Int) != 0) = true := bne_iff_ne.mpr c126
                    have c126b2 : ¬ (t110 = []) := fun h_ => c126 (by rw [h_]; rfl)
                    obtain rfl := Option.some.inj H
                    obtain ⟨Ao132, co132, eo132⟩ := Kd.R_slice HO_6.out
                    subst eo132
                    go_wp2
                    go_ret
                    exact ⟨t5_, gb_ HB.out⟩
end Go.Proofs.Ytlfipjdjmpdblaa.P
set_option linter.unusedVariables false
set_option linter.unusedSimpArgs false
namespace Go.Proofs.Ytlfipjdjmpdblaa.Q
open Go.RowKit Go.Proofs.Ytlfipjdjmpdblaa.P Go.Proofs.YtlfipjdjmpdblaaW.PrintWords CC
theorem pw_asc : ∀ {l : List Int}, l.Pairwise (· < ·) → asc l = true
  | [], _ => rfl
  | [a], _ => rfl
  | a :: b :: t, h => by
    rw [List.pairwise_cons] at h
    simp only [asc, Bool.and_eq_true, decide_eq_true_eq]
    exact ⟨h.1 b (by simp), pw_asc h.2⟩
theorem isC_sub {s c O : List Int} (hc : isC s c = true) (h : O.Sublist c) : isC s O = true := by
  unfold isC at *
  simp only [Bool.and_eq_true, List.all_eq_true] at *
  exact ⟨fun x hx => hc.1 x (h.subset hx), pw_asc ((asc_pw hc.2).sublist h)⟩
theorem leanQ_sub (s c : List Int) (r : Int) (T0 : List Int) : ∀ n, n ≤ c.length → (leanQ s c r T0 n).1.Sublist (c.take n)
  | 0, _ => by simp [leanQ]
  | n + 1, h => by
    have ih := leanQ_sub s c r T0 n (by omega)
    have e : c.take (n + 1) = c.take n ++ [rd c (n : Int)] := by
      rw [List.take_add_one, List.getElem?_eq_getElem (by omega)]
      simp [rd, List.getD_eq_getElem?_getD, show n < c.length from by omega]
    rw [leanQ, e]
    split
    · exact ih.append (List.Sublist.refl _)
    · exact ih.trans (List.sublist_append_left _ _)
theorem cov_app (s a b : List Int) (r u : Int) : cov s (a ++ b) r u = cov s a r u + cov s b r u := by
  unfold cov
  rw [List.countP_append]
  omega
theorem cov_cons (s : List Int) (x : Int) (l : List Int) (r u : Int) : cov s (x :: l) r u = (if dist s x u ≤ r then 1 else 0) + cov s l r u := by
  unfold cov
  rw [List.countP_cons]
  by_cases h : dist s x u ≤ r
  · simp [h]
    omega
  · simp [h]
theorem cov_pos {s : List Int} {c : List Int} {r u x : Int} (hx : x ∈ c) (h : dist s x u ≤ r) : 1 ≤ cov s c r u := by
  unfold cov
  have : 0 < c.countP fun w => decide (dist s w u ≤ r) := List.countP_pos_iff.2 ⟨x, hx, decide_eq_true h⟩
  omega
theorem need_iff {s : List Int} (hs : isSp s = true) (T : List Int) (x r : Int) : needQ s T x r 0 (prd s).toNat = true ↔ ∃ u : Nat, u < NW s ∧ rd T (u : Int) = 1 ∧ dist s x (u : Int) ≤ r := by
  rw [show (prd s).toNat = NW s from rfl, needQ_iff]
  constructor
  · rintro ⟨u, _, h1, h2, h3⟩
    rw [ham_dig8 (isSp_len hs)] at h3
    exact ⟨u, by omega, h2, h3⟩
  · rintro ⟨u, h1, h2, h3⟩
    refine ⟨u, by omega, by omega, h2, ?_⟩
    rw [ham_dig8 (isSp_len hs)]
    exact h3
theorem decL_rd {s : List Int} (hs : isSp s = true) {T : List Int} (hT : T.length = NW s) (x r : Int) {u : Nat} (hu : u < NW s) : rd (decL s T x r) (u : Int) = rd T (u : Int) - if dist s x (u : Int) ≤ r then 1 else 0 := by
  unfold decL
  rw [rd_map_range, if_pos (by omega), ham_dig8 (isSp_len hs)]
  split <;> omega
theorem lean_cov {s c : List Int} (hs : isSp s = true) (r : Int) : ∀ n, n ≤ c.length → ∀ u : Nat, u < NW s → rd (leanQ s c r (covL s c r) n).2 (u : Int) = cov s ((leanQ s c r (covL s c r) n).1 ++ c.drop n) r (u : Int)
  | 0, _, u, hu => by simp [leanQ, covL_rd s c r hu]
  | n + 1, h, u, hu => by
    have ih := lean_cov hs (c := c) r n (by omega) u hu
    have hTl : (leanQ s c r (covL s c r) n).2.length = NW s := by rw [leanQ_length, covL_length]
    rw [drop_cons c (show n < c.length by omega)] at ih
    rw [leanQ]
    split
    · rw [ih, List.append_assoc]
      rfl
    · rw [decL_rd hs hTl _ _ hu, ih]
      simp only [cov_app, cov_cons]
      omega
theorem lean_step {s c : List Int} (hs : isSp s = true) (r : Int) {n : Nat} (h : n < c.length) {u : Nat} (hu : u < NW s) :
    rd (leanQ s c r (covL s c r) (n + 1)).2 (u : Int) ≤ rd (leanQ s c r (covL s c r) n).2 (u : Int) ∧ (1 ≤ rd (leanQ s c r (covL s c r) n).2 (u : Int) → 1 ≤ rd (leanQ s c r (covL s c r) (n + 1)).2 (u : Int)) := by
  have hc := lean_cov hs (c := c) r n (by omega) u hu
  have hTl : (leanQ s c r (covL s c r) n).2.length = NW s := by rw [leanQ_length, covL_length]
  rw [leanQ]
  split
  · exact ⟨Int.le_refl _, id⟩
  · rename_i hn
    rw [need_iff hs] at hn
    rw [decL_rd hs hTl _ _ hu]
    by_cases hd : dist s (rd c (n : Int)) (u : Int) ≤ r
    · rw [if_pos hd]
      have h1 : ¬ rd (leanQ s c r (covL s c r) n).2 (u : Int) = 1 := fun e => hn ⟨u, hu, e, hd⟩
      constructor
      · omega
      · intro h2
        omega
    · rw [if_neg hd]
      exact ⟨by omega, fun h2 => by omega⟩
theorem lean_steps {s c : List Int} (hs : isSp s = true) (r : Int) {u : Nat} (hu : u < NW s) : ∀ (d n : Nat), n + d ≤ c.length →
    rd (leanQ s c r (covL s c r) (n + d)).2 (u : Int) ≤ rd (leanQ s c r (covL s c r) n).2 (u : Int) ∧ (1 ≤ rd (leanQ s c r (covL s c r) n).2 (u : Int) → 1 ≤ rd (leanQ s c r (covL s c r) (n + d)).2 (u : Int))
  | 0, n, _ => ⟨Int.le_refl _, id⟩
  | d + 1, n, h => by
    obtain ⟨a, b⟩ := lean_steps hs (c := c) r hu d n (by omega)
    obtain ⟨a', b'⟩ := lean_step hs (c := c) r (n := n + d) (by omega) hu
    rw [show n + (d + 1) = n + d + 1 from rfl]
    exact ⟨by omega, fun h1 => b' (b h1)⟩
theorem lean_kept {s c : List Int} (r : Int) (T0 : List Int) : ∀ n, n ≤ c.length → ∀ x ∈ (leanQ s c r T0 n).1, ∃ m, m < n ∧ x = rd c (m : Int) ∧ needQ s (leanQ s c r T0 m).2 x r 0 (prd s).toNat = true
  | 0, _, x, hx => by simp [leanQ] at hx
  | n + 1, h, x, hx => by
    rw [leanQ] at hx
    split at hx
    · rename_i hn
      rcases List.mem_append.1 hx with hx | hx
      · obtain ⟨m, h1, h2, h3⟩ := lean_kept r T0 n (by omega) x hx
        exact ⟨m, by omega, h2, h3⟩
      · rw [List.mem_singleton.1 hx]
        exact ⟨n, by omega, rfl, hn⟩
    · obtain ⟨m, h1, h2, h3⟩ := lean_kept r T0 n (by omega) x hx
      exact ⟨m, by omega, h2, h3⟩
theorem lean_keeps {s c : List Int} (r : Int) (T0 : List Int) {m : Nat} (hm : needQ s (leanQ s c r T0 m).2 (rd c (m : Int)) r 0 (prd s).toNat = true) : ∀ d, rd c (m : Int) ∈ (leanQ s c r T0 (m + 1 + d)).1
  | 0 => by
    show rd c (m : Int) ∈ (leanQ s c r T0 (m + 1)).1
    rw [leanQ, if_pos hm]
    simp
  | d + 1 => by
    have ih := lean_keeps r T0 hm d
    rw [show m + 1 + (d + 1) = (m + 1 + d) + 1 from rfl, leanQ]
    split
    · exact List.mem_append.2 (.inl ih)
    · exact ih
def leanO (s c : List Int) (r : Int) : List Int := (leanQ s c r (covL s c r) c.length).1
theorem leanO_isC {s c : List Int} (hc : isC s c = true) (r : Int) : isC s (leanO s c r) = true := by
  have h := leanQ_sub s c r (covL s c r) c.length (Nat.le_refl _)
  rw [List.take_length] at h
  exact isC_sub hc h
theorem leanO_end {s c : List Int} (hs : isSp s = true) (r : Int) {u : Nat} (hu : u < NW s) : rd (leanQ s c r (covL s c r) c.length).2 (u : Int) = cov s (leanO s c r) r (u : Int) := by
  have h := lean_cov hs (c := c) r c.length (Nat.le_refl _) u hu
  rw [List.drop_length, List.append_nil] at h
  exact h
theorem leanO_zero {s c : List Int} (hs : isSp s = true) (r : Int) {u : Nat} (hu : u < NW s) : cov s (leanO s c r) r (u : Int) = 0 ↔ cov s c r (u : Int) = 0 := by
  have h := lean_steps hs (c := c) r hu c.length 0 (by omega)
  rw [Nat.zero_add, leanO_end hs r hu] at h
  have e0 : rd (leanQ s c r (covL s c r) 0).2 (u : Int) = cov s c r (u : Int) := by simp [leanQ, covL_rd s c r hu]
  rw [e0] at h
  have h1 := cov_nonneg s c r (u : Int)
  have h2 := cov_nonneg s (leanO s c r) r (u : Int)
  constructor
  · intro h3
    by_cases h4 : 1 ≤ cov s c r (u : Int)
    · have := h.2 h4
      omega
    · omega
  · intro h3
    omega
theorem leanO_zer {s c : List Int} (hs : isSp s = true) (r : Int) : zer (covL s (leanO s c r) r) = zer (covL s c r) := by
  unfold zer
  rw [covL_length, covL_length]
  refine selL_congr fun i hi => ?_
  rw [covL_rd s _ r hi, covL_rd s c r hi, decide_eq_decide]
  exact leanO_zero hs r hi
theorem leanO_need {s c : List Int} (hs : isSp s = true) (r : Int) : (leanO s c r).filter (fun x => needQ s (covL s (leanO s c r) r) x r 0 (prd s).toNat) = leanO s c r := by
  rw [List.filter_eq_self]
  intro x hx
  obtain ⟨m, h1, h2, h3⟩ := lean_kept r (covL s c r) c.length (Nat.le_refl _) x hx
  obtain ⟨u, hu, h4, h5⟩ := (need_iff hs _ _ _).1 h3
  refine (need_iff hs _ _ _).2 ⟨u, hu, ?_, h5⟩
  rw [covL_rd s _ r hu, ← leanO_end hs r hu]
  obtain ⟨a, b⟩ := lean_steps hs (c := c) r hu (c.length - m) m (by omega)
  rw [show m + (c.length - m) = c.length by omega] at a b
  have := b (by omega)
  omega
theorem leanO_has {s c : List Int} (hs : isSp s = true) (r : Int) {x : Int} (hx : x ∈ c.filter (fun x => needQ s (covL s c r) x r 0 (prd s).toNat)) : x ∈ leanO s c r := by
  obtain ⟨hx, hn⟩ := List.mem_filter.1 hx
  obtain ⟨u, hu, h4, h5⟩ := (need_iff hs _ _ _).1 hn
  obtain ⟨m, hm, rfl⟩ := List.getElem_of_mem hx
  have e : rd c (m : Int) = c[m] := by simp [rd, List.getD_eq_getElem?_getD, hm]
  rw [← e] at h5 ⊢
  obtain ⟨a, b⟩ := lean_steps hs (c := c) r hu m 0 (by omega)
  rw [Nat.zero_add] at a b
  have e0 : rd (leanQ s c r (covL s c r) 0).2 (u : Int) = 1 := by simpa [leanQ] using h4
  rw [e0] at a b
  have := b (by omega)
  have h6 : needQ s (leanQ s c r (covL s c r) m).2 (rd c (m : Int)) r 0 (prd s).toNat = true := (need_iff hs _ _ _).2 ⟨u, hu, by omega, h5⟩
  have := lean_keeps r (covL s c r) h6 (c.length - (m + 1))
  rw [show m + 1 + (c.length - (m + 1)) = c.length by omega] at this
  exact this
end Go.Proofs.Ytlfipjdjmpdblaa.Q
