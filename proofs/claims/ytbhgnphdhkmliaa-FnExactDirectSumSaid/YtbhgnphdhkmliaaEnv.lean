/- What a law's own function has in memory: rows of numbers, each by itself, and boxes that hold a space; one fact for all of it. -/
import Derived.Test.YtbhgnphdhkmliaaHThose0
import Derived.Test.YtbhgnphdhkmliaaQBase
set_option linter.unusedVariables false
set_option linter.unusedSimpArgs false
namespace Go.Proofs.Ytbhgnphdhkmliaa.P
open Go.RowKit Go.Proofs.YtbhgnphdhkmliaaW.PrintWords Go.Proofs.YtbhgnphdhkmliaaW.PrintLast Go.Proofs.YtbhgnphdhkmliaaW.PrintMore CC

/-- Rows (their values and what they hold) and boxes (where they lie, what they hold, their type) that a call has made since w0, each in memory of its own. -/
structure Env (w0 w : World) (R : List (Value × List Int)) (B : List (Nat × Value × Nat)) : Prop where
  below : Below w0.heap.size w0 w
  rows : ∀ p ∈ R, Kd.R (Kd.int .i64) 2 w w0.heap.size (fun _ => True) p.1 p.2
  apart : R.Pairwise (fun p q => ∀ k, p.1.ownBlock = some k → q.1.ownBlock ≠ some k)
  boxes : ∀ b ∈ B, w0.heap.size ≤ b.1 ∧ w.heap[b.1]? = some (.cells #[b.2.1] b.2.2 (0, 0)) ∧ b.2.2 ≠ 2
  bapart : B.Pairwise (fun b c => b.1 ≠ c.1)
namespace Env
variable {w0 w w' : World} {R : List (Value × List Int)} {B : List (Nat × Value × Nat)}
theorem start (w : World) : Env w w [] [] := ⟨Below.refl _ _, by simp, by simp, by simp, by simp⟩
theorem step (h : Env w0 w R B) (hb : Below w.heap.size w w') : Env w0 w' R B :=
  ⟨below_then h.below h.below.size hb, fun p hp => Kd.R_below (h.rows p hp) hb, h.apart, fun b hb2 => ⟨(h.boxes b hb2).1, blk_below (h.boxes b hb2).2.1 hb, (h.boxes b hb2).2.2⟩, h.bapart⟩
theorem drew (h : Env w0 w R B) : Env w0 w.drew R B := h.step (below_drew (Below.refl _ _))
theorem alloc (h : Env w0 w R B) (o : Obj) : Env w0 (w.alloc o) R B := h.step ((Below.refl _ _).alloc (Nat.le_refl _) _)
theorem box (h : Env w0 w R B) (v : Value) {t : Nat} (ht : t ≠ 2) : Env w0 (w.alloc (.cells #[v] t)) R ((w.heap.size, v, t) :: B) := by
  have h1 := h.alloc (.cells #[v] t)
  refine ⟨h1.below, h1.rows, h1.apart, fun b hb => ?_, List.pairwise_cons.2 ⟨fun b hb e => ?_, h1.bapart⟩⟩
  · rcases List.mem_cons.1 hb with rfl | hb
    · exact ⟨h.below.size, blk_new _ _, ht⟩
    · exact h1.boxes b hb
  · have := blk_lt (h.boxes b hb).2.1
    have e2 : w.heap.size = b.1 := e
    omega
theorem row (h : Env w0 w R B) {v : Value} {xs : List Int} (hR : Kd.R (Kd.int .i64) 2 w' w.heap.size (fun _ => True) v xs) (hb : Below w.heap.size w w') : Env w0 w' ((v, xs) :: R) B := by
  have h1 := h.step hb
  refine ⟨h1.below, fun p hp => ?_, List.pairwise_cons.2 ⟨fun p hp k hk e => ?_, h1.apart⟩, h1.boxes, h1.bapart⟩
  · rcases List.mem_cons.1 hp with rfl | hp
    · exact Kd.R_lower hR h.below.size
    · exact h1.rows p hp
  · have h2 := Kd.R_base hR k hk
    have h3 := Kd.R_lt (h.rows p hp) k e
    omega
/-- Two rows out of one call. -/
theorem row2 (h : Env w0 w R B) {v0 v1 : Value} {xs ys : List Int} (hR0 : Kd.R (Kd.int .i64) 2 w' w.heap.size (fun k_ => some k_ ≠ v1.ownBlock) v0 xs) (hR1 : Kd.R (Kd.int .i64) 2 w' w.heap.size (fun k_ => some k_ ≠ v0.ownBlock) v1 ys) (hb : Below w.heap.size w w') : Env w0 w' ((v0, xs) :: (v1, ys) :: R) B := by
  have h1 := h.row (Kd.R_mono hR1 (fun _ _ => trivial)) hb
  refine ⟨h1.below, fun p hp => ?_, List.pairwise_cons.2 ⟨fun p hp k hk e => ?_, h1.apart⟩, h1.boxes, h1.bapart⟩
  · rcases List.mem_cons.1 hp with rfl | hp
    · exact Kd.R_lower (Kd.R_mono hR0 (fun _ _ => trivial)) h.below.size
    · exact h1.rows p hp
  · rcases List.mem_cons.1 hp with rfl | hp
    · exact hR0.1 k hk e.symm
    · have h2 := Kd.R_base hR0 k hk
      have h3 := Kd.R_lt (h.rows p hp) k e
      omega
/-- A row is read. -/
theorem reads (h : Env w0 w R B) (i : Nat) {A : Option Addr} {n c : Nat} {xs : List Int} (hi : R[i]? = some (.slice A n c, xs)) : n ≤ c ∧ Kd.C (Kd.int .i64) w A xs.length xs := by
  have := Kd.R_reads' (h.rows _ (List.mem_of_getElem? hi))
  exact this.2
theorem cell (h : Env w0 w R B) (i : Nat) {g : Nat} {v : Value} {t : Nat} (hi : B[i]? = some (g, v, t)) : w.cell? ⟨g, 0, none⟩ = some v := blk_cell (h.boxes _ (List.mem_of_getElem? hi)).2.1 0
theorem blk (h : Env w0 w R B) (i : Nat) {g : Nat} {v : Value} {t : Nat} (hi : B[i]? = some (g, v, t)) : w.heap[g]? = some (.cells #[v] t (0, 0)) := (h.boxes _ (List.mem_of_getElem? hi)).2.1
theorem frozen (h : Env w0 w R B) (i : Nat) {g : Nat} {v : Value} {t : Nat} (hi : B[i]? = some (g, v, t)) : w.frozen? ⟨g, 0, none⟩ = false := blk_frozen (h.boxes _ (List.mem_of_getElem? hi)).2.1 0
/-- A box gets another value: the one made last. -/
theorem set0 {g : Nat} {v : Value} {t : Nat} (h : Env w0 w R ((g, v, t) :: B)) (u : Value) : Env w0 (w.setCell ⟨g, 0, none⟩ u) R ((g, u, t) :: B) := by
  have h0 := h.boxes _ (List.mem_cons_self ..)
  refine ⟨below_set h.below h0.1, fun p hp => ?_, h.apart, fun b hb => ?_, ?_⟩
  · exact Kd.R_mono (Kd.R_far (p := ⟨g, 0, none⟩) (Kd.R_types (h.rows p hp) h0.2.1 (fun q hq => by
      rcases List.mem_cons.1 hq with rfl | hq
      · exact fun e => h0.2.2 e.symm
      · exact absurd hq (by simp [Kd.int, Kd.scalar]))) (fun _ hk => hk.2) u) (fun _ _ => trivial)
  · rcases List.mem_cons.1 hb with rfl | hb
    · exact ⟨h0.1, blk_put h0.2.1 0 u rfl, h0.2.2⟩
    · have h1 := h.boxes b (List.mem_cons_of_mem _ hb)
      exact ⟨h1.1, blk_far h1.2.1 (p := ⟨g, 0, none⟩) (fun e => (List.pairwise_cons.1 h.bapart).1 b hb e.symm) u, h1.2.2⟩
  · have := List.pairwise_cons.1 h.bapart
    exact List.pairwise_cons.2 ⟨fun b hb => this.1 b hb, this.2⟩
theorem pw_set {α : Type} {r : α → α → Prop} (hs : ∀ a b, r a b → r b a) : ∀ {l : List α} {i : Nat} {x y : α}, l.Pairwise r → l[i]? = some x → (∀ z, r x z → r y z) → (l.set i y).Pairwise r
  | [], i, x, y, _, h, _ => by simp at h
  | a :: l, 0, x, y, hp, h, hr => by
    simp only [List.getElem?_cons_zero, Option.some.injEq] at h
    subst h
    rw [List.set_cons_zero, List.pairwise_cons]
    exact ⟨fun z hz => hr z ((List.pairwise_cons.1 hp).1 z hz), (List.pairwise_cons.1 hp).2⟩
  | a :: l, i + 1, x, y, hp, h, hr => by
    rw [List.getElem?_cons_succ] at h
    rw [List.set_cons_succ, List.pairwise_cons]
    have h2 := List.pairwise_cons.1 hp
    refine ⟨fun z hz => ?_, pw_set hs h2.2 h hr⟩
    rcases List.mem_or_eq_of_mem_set hz with hz | rfl
    · exact h2.1 z hz
    · exact hs _ _ (hr a (hs _ _ (h2.1 x (List.mem_of_getElem? h))))
theorem pw_get {α : Type} {r : α → α → Prop} (hs : ∀ a b, r a b → r b a) : ∀ {l : List α} {i j : Nat} {x y : α}, l.Pairwise r → l[i]? = some x → l[j]? = some y → i ≠ j → r x y
  | [], i, j, x, y, _, h, _, _ => by simp at h
  | a :: l, 0, 0, x, y, _, _, _, h => absurd rfl h
  | a :: l, 0, j + 1, x, y, hp, h1, h2, _ => by
    simp only [List.getElem?_cons_zero, Option.some.injEq] at h1
    subst h1
    rw [List.getElem?_cons_succ] at h2
    exact (List.pairwise_cons.1 hp).1 y (List.mem_of_getElem? h2)
  | a :: l, i + 1, 0, x, y, hp, h1, h2, _ => by
    simp only [List.getElem?_cons_zero, Option.some.injEq] at h2
    subst h2
    rw [List.getElem?_cons_succ] at h1
    exact hs _ _ ((List.pairwise_cons.1 hp).1 x (List.mem_of_getElem? h1))
  | a :: l, i + 1, j + 1, x, y, hp, h1, h2, h => by
    rw [List.getElem?_cons_succ] at h1 h2
    exact pw_get hs (List.pairwise_cons.1 hp).2 h1 h2 (fun e => h (by rw [e]))
/-- One row is marked: it holds other numbers, all else is as it was. -/
theorem mark (h : Env w0 w R B) (i : Nat) {u : Value} {xs ys : List Int} (hi : R[i]? = some (u, xs)) {P : Nat → Prop} (hR : Kd.R (Kd.int .i64) 2 w' w0.heap.size P u ys) (hb : Below w0.heap.size w0 w') (hk : Kept w w' (fun k_ => some k_ = u.ownBlock)) : Env w0 w' (R.set i (u, ys)) B := by
  have hsym : ∀ a b : Value × List Int, (∀ k, a.1.ownBlock = some k → b.1.ownBlock ≠ some k) → (∀ k, b.1.ownBlock = some k → a.1.ownBlock ≠ some k) := fun a b hab k hk e => hab k e hk
  have hil : i < R.length := (List.getElem?_eq_some_iff.1 hi).1
  refine ⟨hb, fun p hp => ?_, pw_set hsym h.apart hi (fun z hz => hz), fun b hbb => ?_, h.bapart⟩
  · obtain ⟨j, hj, ej⟩ := List.getElem_of_mem hp
    have hj2 : (R.set i (u, ys))[j]? = some p := by rw [← ej]; exact List.getElem?_eq_getElem hj
    by_cases e : i = j
    · subst e
      rw [List.getElem?_set_self hil] at hj2
      injection hj2 with hj2
      subst hj2
      exact Kd.R_mono hR (fun _ _ => trivial)
    · rw [List.getElem?_set_ne e] at hj2
      have hap := pw_get hsym h.apart hj2 hi (fun z => e z.symm)
      have h0 := Kd.R_tight rfl (h.rows p (List.mem_of_getElem? hj2))
      exact Kd.R_mono (Kd.R_kept h0 hk (fun k hk1 hk2 => hap k hk1.symm hk2.symm)) (fun _ _ => trivial)
  · have h1 := h.boxes b hbb
    refine ⟨h1.1, blk_kept h1.2.1 hk (fun hs => ?_), h1.2.2⟩
    exact Kd.R_ne (h.rows _ (List.mem_of_getElem? hi)) h1.2.1 (fun e => h1.2.2 e.symm) hs
end Env
end Go.Proofs.Ytbhgnphdhkmliaa.P
