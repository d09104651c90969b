/- What the law FnForms needs, part 6: words, walks of functions (each says that a call returns what the plain Lean function beside it says), plain lemmas. -/
import Derived.Test.YtnkndaapamenmaaGreatKFnFormsE
import Derived.Test.YtnkndaapamenmaaGreatProg
namespace Go.Proofs.YtnkndaapamenmaaGreat.P
open Go.RowKit Go.Proofs.YtnkndaapamenmaaGreatW.PrintWords Go.Proofs.YtnkndaapamenmaaGreatW.PrintLast Go.Proofs.YtnkndaapamenmaaGreatW.PrintMore
attribute [local go_sem] max2_int min2_int max_two min_two max_three min_three max_four min_four
set_option linter.unusedVariables false
set_option linter.unusedSimpArgs false
def errW : Option Int → Value
  | none => .nilIface
  | some c => .iface 0 (.int .i64 c)
theorem errW_none : errW none = .nilIface := rfl
theorem errW_some (c : Int) : errW (some c) = .iface 0 (.int .i64 c) := rfl
inductive Stp_ (w : World) : World → Prop
  | refl : Stp_ w w
  | alloc {w' : World} (h : Stp_ w w') (o : Obj) : Stp_ w (w'.alloc o)
  | drew {w' : World} (h : Stp_ w w') : Stp_ w w'.drew
  | drewN {w' : World} (h : Stp_ w w') (n : Nat) : Stp_ w (w'.drewN n)
theorem rb_ {α : Type} {d : Kd α} {e base : Nat} {ok : Nat → Prop} {v : Value} {xs : List α} {w w' : World} (h : d.R e w base ok v xs) (s : Stp_ w w' := by with_reducible repeat first | exact .refl | apply Stp_.alloc | apply Stp_.drewN | apply Stp_.drew) : d.R e w' base ok v xs := by
  induction s with
  | refl => exact h
  | alloc _ o ih => exact Kd.R_alloc ih o
  | drew _ ih => exact Kd.R_drew ih
  | drewN _ n ih => exact Kd.R_drewN ih n
theorem bb_ {w w' : World} {g : Nat} {o : Obj} (h : w.heap[g]? = some o) (s : Stp_ w w' := by with_reducible repeat first | exact .refl | apply Stp_.alloc | apply Stp_.drewN | apply Stp_.drew) : w'.heap[g]? = some o := by
  induction s with
  | refl => exact h
  | alloc _ o ih => exact blk_alloc ih o
  | drew _ ih => exact blk_drew ih
  | drewN _ n ih => exact blk_drewN ih n
inductive StG_ (n : Nat) (w : World) : World → Prop
  | refl : StG_ n w w
  | alloc {w' : World} (h : StG_ n w w') (o : Obj) : StG_ n w (w'.alloc o)
  | drew {w' : World} (h : StG_ n w w') : StG_ n w w'.drew
  | drewN {w' : World} (h : StG_ n w w') (m : Nat) : StG_ n w (w'.drewN m)
  | set {w' : World} {k j : Nat} {v : Value} (h : StG_ n w w') (hk : n ≤ k) : StG_ n w (w'.setCell ⟨k, j, none⟩ v)
theorem gb_ {w0 w w' : World} (h : Below w0.heap.size w0 w) (s : StG_ w0.heap.size w w' := by repeat (first | (with_reducible first | exact .refl | apply StG_.alloc | apply StG_.drewN | apply StG_.drew | refine StG_.set ?_ (Aside0.out (by assumption))) | exact .refl)) : Below w0.heap.size w0 w' := by
  induction s with
  | refl => exact h
  | alloc _ o ih => exact below_alloc ih o
  | drew _ ih => exact below_drew1 ih
  | drewN _ m ih => exact pw_below_drewN ih m
  | set _ hk ih => exact below_set ih hk
theorem a1_ {α : Type} {d : Kd α} {e base : Nat} {ok : Nat → Prop} {v : Value} {xs : List α} {w w' w1 : World} (h : Aside0 (d.R e w base ok v xs)) (hb : Below w'.heap.size w' w1) (s : Stp_ w w' := by with_reducible repeat first | exact .refl | apply Stp_.alloc | apply Stp_.drewN | apply Stp_.drew) : Aside0 (d.R e w1 base ok v xs) := ⟨Kd.R_below (rb_ h.out s) hb⟩
theorem a2_ {w w' w1 : World} {g : Nat} {o : Obj} (h : Aside0 (w.heap[g]? = some o)) (hb : Below w'.heap.size w' w1) (s : Stp_ w w' := by with_reducible repeat first | exact .refl | apply Stp_.alloc | apply Stp_.drewN | apply Stp_.drew) : Aside0 (w1.heap[g]? = some o) := ⟨blk_below (bb_ h.out s) hb⟩
theorem a5_ {α β : Type} {d : Kd α} {d2 : Kd β} {e e2 base : Nat} {ok ok2 : Nat → Prop} {u v : Value} {xs : List α} {ys : List β} {w W w1 w2 : World} (h : Aside0 (d.R e w base ok u xs)) (ho : d2.R e2 w2 W.heap.size ok2 v ys) (hb : Below W.heap.size W w1) (s : Stp_ w W := by with_reducible repeat first | exact .refl | apply Stp_.alloc | apply Stp_.drewN | apply Stp_.drew) : Aside0 (d.R e w1 base (fun k => ok k ∧ some k ≠ v.ownBlock) u xs) := ⟨Kd.R_elder' (rb_ h.out s) (Kd.R_base ho) hb⟩
inductive Sts_ (g : Nat) (w : World) : World → Prop
  | refl : Sts_ g w w
  | alloc {w' : World} (h : Sts_ g w w') (o : Obj) : Sts_ g w (w'.alloc o)
  | drew {w' : World} (h : Sts_ g w w') : Sts_ g w w'.drew
  | drewN {w' : World} (h : Sts_ g w w') (n : Nat) : Sts_ g w (w'.drewN n)
  | set {w' : World} {j : Nat} {u : Value} (h : Sts_ g w w') : Sts_ g w (w'.setCell ⟨g, j, none⟩ u)
theorem rs_ {α : Type} {d : Kd α} {e base : Nat} {ok : Nat → Prop} {v : Value} {xs : List α} {w w' : World} {g t : Nat} {cells : Array Value} (h : d.R e w base ok v xs) (k : w.heap[g]? = some (.cells cells t (0, 0))) (ht : ∀ q, q ∈ e :: d.E → q ≠ t) (s : Sts_ g w w') : d.R e w' base ok v xs := by
  refine Kd.R_mono (ok := fun k => ok k ∧ k ≠ g) ?_ (fun _ hk => hk.1)
  have h0 := Kd.R_types h k ht
  induction s with
  | refl => exact h0
  | alloc _ o ih => exact Kd.R_alloc ih o
  | drew _ ih => exact Kd.R_drew ih
  | drewN _ n ih => exact Kd.R_drewN ih n
  | set _ ih => exact Kd.R_far (p := ⟨g, _, none⟩) ih (fun _ hk => hk.2) _
theorem bs_ {w w' : World} {g g2 t : Nat} {cs : Array Value} (h : w.heap[g]? = some (.cells cs t (0, 0))) (nb : g ≠ g2) (s : Sts_ g2 w w') : w'.heap[g]? = some (.cells cs t (0, 0)) := by
  induction s with
  | refl => exact h
  | alloc _ o ih => exact blk_alloc ih o
  | drew _ ih => exact blk_drew ih
  | drewN _ n ih => exact blk_drewN ih n
  | set _ ih => exact blk_far ih (p := ⟨g2, _, none⟩) nb _
theorem a3_ {w w' w1 : World} {g g2 t : Nat} {cs : Array Value} (h : Aside0 (w.heap[g]? = some (.cells cs t (0, 0)))) (nb : Aside0 (g ≠ g2)) (hb : Below w'.heap.size w' w1) (s : Sts_ g2 w w' := by repeat (first | (with_reducible first | exact .refl | apply Sts_.alloc | apply Sts_.drewN | apply Sts_.drew | apply Sts_.set) | exact .refl)) : Aside0 (w1.heap[g]? = some (.cells cs t (0, 0))) := ⟨blk_below (bs_ h.out nb.out s) hb⟩
theorem a4_ {α : Type} {d : Kd α} {e base : Nat} {ok : Nat → Prop} {v : Value} {xs : List α} {w w' w1 : World} {g t : Nat} {cells : Array Value} (h : Aside0 (d.R e w base ok v xs)) (k : Aside0 (w.heap[g]? = some (.cells cells t (0, 0)))) (hb : Below w'.heap.size w' w1) (s : Sts_ g w w' := by repeat (first | (with_reducible first | exact .refl | apply Sts_.alloc | apply Sts_.drewN | apply Sts_.drew | apply Sts_.set) | exact .refl)) (ht : ∀ q, q ∈ e :: d.E → q ≠ t := by decide) : Aside0 (d.R e w1 base ok v xs) := ⟨Kd.R_below (rs_ h.out k.out ht s) hb⟩
theorem a8_ {α β : Type} {d : Kd α} {d2 : Kd β} {e e2 base : Nat} {ok ok2 : Nat → Prop} {u v : Value} {xs : List α} {ys : List β} {w W w1 w2 : World} {g t : Nat} {cells : Array Value} (h : Aside0 (d.R e w base ok u xs)) (k : Aside0 (w.heap[g]? = some (.cells cells t (0, 0)))) (ho : d2.R e2 w2 W.heap.size ok2 v ys) (hb : Below W.heap.size W w1) (s : Sts_ g w W := by repeat (first | (with_reducible first | exact .refl | apply Sts_.alloc | apply Sts_.drewN | apply Sts_.drew | apply Sts_.set) | exact .refl)) (ht : ∀ q, q ∈ e :: d.E → q ≠ t := by decide) : Aside0 (d.R e w1 base (fun k => ok k ∧ some k ≠ v.ownBlock) u xs) := ⟨Kd.R_elder' (rs_ h.out k.out ht s) (Kd.R_base ho) hb⟩
theorem a7_ {α : Type} {d : Kd α} {e base : Nat} {ok : Nat → Prop} {v : Value} {xs : List α} {w w' w1 : World} {g t : Nat} {cs : Array Value} (k : Aside0 (w.heap[g]? = some (.cells cs t (0, 0)))) (hk : Kept w' w1 (fun k_ => some k_ = v.ownBlock)) (h : Aside0 (d.R e w base ok v xs)) (s : Stp_ w w' := by with_reducible repeat first | exact .refl | apply Stp_.alloc | apply Stp_.drewN | apply Stp_.drew) (ht : e ≠ t := by decide) : Aside0 (w1.heap[g]? = some (.cells cs t (0, 0))) := ⟨blk_kept (bb_ k.out s) hk (fun hs => Kd.R_ne h.out k.out ht hs)⟩
theorem c1_ {α : Type} {d : Kd α} {e base : Nat} {ok : Nat → Prop} {A : Option Addr} {n c : Nat} {xs : List α} {w w' : World} (h : Aside0 (d.R e w base ok (.slice A n c) xs)) (s : Stp_ w w' := by with_reducible repeat first | exact .refl | apply Stp_.alloc | apply Stp_.drewN | apply Stp_.drew) : d.C w' A xs.length xs := (Kd.R_reads' (rb_ h.out s)).2.2
theorem c2_ {α : Type} {d : Kd α} {A : Option Addr} {n : Nat} {xs : List α} {w W w' : World} (h : Aside0 (d.C w A n xs)) (hb : Aside0 (Below w.heap.size w W)) (s : Stp_ W w' := by with_reducible repeat first | exact .refl | apply Stp_.alloc | apply Stp_.drewN | apply Stp_.drew) : d.C w' A n xs := by
  have h0 := Kd.C_below h.out hb.out
  induction s with
  | refl => exact h0
  | alloc _ o ih => exact Kd.C_alloc ih o
  | drew _ ih => exact Kd.C_drew ih
  | drewN _ n ih => exact Kd.C_drewN ih n
abbrev OB_ (k : Nat) (v : Value) : Prop := some k ≠ v.ownBlock
theorem info2 : (Tryz.prog.info? 2).map (fun i => (i.zero, i.size, i.bytes)) = some (some (.int .i64 0), 1, 8) := by kernel_rfl
theorem info4 : (Tryz.prog.info? 4).map (fun i => (i.zero, i.size, i.bytes)) = some (some (.bool false), 1, 1) := by kernel_rfl
theorem info24 : (Tryz.prog.info? 24).map (fun i => (i.zero, i.size, i.bytes)) = some (some (.slice none 0 0), 1, 24) := by kernel_rfl
-- the values' own types
def rd_L2 (xs : List (List Int)) (i : Int) : (List Int) := xs.getD i.toNat ([] : List Int)
theorem at_L2 {w : World} {A : Option Addr} {n : Nat} {xs : List (List Int)} (h : Kd.C (Kd.slice 2 (Kd.int .i64)) w A n xs) (i : Int) (h0 : 0 ≤ i) (h1 : i < n) : ∃ ad A0 c0, A = some ad ∧ w.cell? (ad.add i.toNat) = some (.slice A0 (rd_L2 xs i).length c0) ∧ (rd_L2 xs i).length ≤ c0 ∧ (Kd.int .i64).C w A0 (rd_L2 xs i).length (rd_L2 xs i) := by
  obtain ⟨ad, c, e, _, hK, hc0⟩ := Kd.C_get h ([] : List Int) i h0 h1
  have hc : ∀ j u, c[j]? = some u → w.cell? (ad.add (i.toNat * 1 + j)) = some u := hc0
  obtain ⟨A0, c0, rfl, l0, g0⟩ := hK
  exact ⟨ad, A0, c0, e, by have hq := hc 0 _ rfl; rwa [Nat.mul_one, Nat.add_zero] at hq, l0, g0⟩
def IsS93 (w0 W : World) (g : Nat) (f0 : List Int) (f1 : Int) (f2 : Int) : Prop := ∃ A0 c0, W.heap[g]? = some (.cells #[.slice A0 f0.length c0, .int .i64 f1, .int .u64 f2] 93 (0, 0)) ∧ w0.heap.size ≤ g ∧ Kd.C (Kd.int .u8) w0 A0 f0.length f0
theorem IsS93.grown {w0 W : World} {g : Nat} {f0 : List Int} {f1 : Int} {f2 : Int} {W1 : World} {row : Option Nat} (h : IsS93 w0 W g f0 f1 f2) (hw : W.grownBy W1 row) (hne : some g ≠ row) : IsS93 w0 W1 g f0 f1 f2 := by
  obtain ⟨A0, c0, hb, hg, hr0⟩ := h
  exact ⟨A0, c0, blk_grown hb hw hne, hg, hr0⟩
theorem IsS93.own_neN {w0 W : World} {g : Nat} {f0 : List Int} {f1 : Int} {f2 : Int} {α : Type} {d : Kd α} {e : Nat} {base : Nat} {ok : Nat → Prop} {v : Value} {xs : List α} (h : IsS93 w0 W g f0 f1 f2) (ho : Kd.N d e W base ok v xs) (ht : e ≠ 93) : some g ≠ v.ownBlock := by
  obtain ⟨A0, c0, hb, hg, hr0⟩ := h
  exact Kd.N_ne ho hb ht
theorem IsS93.fresh {w0 W : World} {g : Nat} {f0 : List Int} {f1 : Int} {f2 : Int} (h : IsS93 w0 W g f0 f1 f2) : ∀ k, W.heap.size ≤ k → k ≠ g := by
  obtain ⟨A0, c0, hb, hg, hr0⟩ := h
  exact Kd.freshB hb
theorem IsS93.kept {w0 W : World} {g : Nat} {f0 : List Int} {f1 : Int} {f2 : Int} {W1 : World} {S : Nat → Prop} (h : IsS93 w0 W g f0 f1 f2) (hk : Kept W W1 S) (hne : ¬ S g) : IsS93 w0 W1 g f0 f1 f2 := by
  obtain ⟨A0, c0, hb, hg, hr0⟩ := h
  exact ⟨A0, c0, blk_kept hb hk hne, hg, hr0⟩
theorem IsS93.below {w0 W : World} {g : Nat} {f0 : List Int} {f1 : Int} {f2 : Int} {W1 : World} (h : IsS93 w0 W g f0 f1 f2) (hw : Below W.heap.size W W1) : IsS93 w0 W1 g f0 f1 f2 := h.grown (grown_of_below hw none) (by simp)
theorem IsS93.alloc {w0 W : World} {g : Nat} {f0 : List Int} {f1 : Int} {f2 : Int} (h : IsS93 w0 W g f0 f1 f2) (o : Obj) : IsS93 w0 (W.alloc o) g f0 f1 f2 := h.below (below_alloc (Below.refl _ _) o)
theorem IsS93.drewN {w0 W : World} {g : Nat} {f0 : List Int} {f1 : Int} {f2 : Int} (h : IsS93 w0 W g f0 f1 f2) (m : Nat) : IsS93 w0 (W.drewN m) g f0 f1 f2 := h
theorem IsS93.drew {w0 W : World} {g : Nat} {f0 : List Int} {f1 : Int} {f2 : Int} (h : IsS93 w0 W g f0 f1 f2) : IsS93 w0 W.drew g f0 f1 f2 := h
theorem IsS93.at_ {w0 W : World} {g : Nat} {f0 : List Int} {f1 : Int} {f2 : Int} {w' : World} {m : Nat} (hq : W.drewN m = w') (h : IsS93 w0 W g f0 f1 f2) : IsS93 w0 w' g f0 f1 f2 := by subst hq; exact IsS93.drewN h m
theorem IsS93.apart {w0 W : World} {g : Nat} {f0 : List Int} {f1 : Int} {f2 : Int} {α : Type} {d : Kd α} {e : Nat} {base : Nat} {ok : Nat → Prop} {v : Value} {xs : List α} (h : IsS93 w0 W g f0 f1 f2) (ho : d.R e W base ok v xs) (ht : ∀ q, q ∈ e :: d.E → q ≠ 93) : d.R e W base (fun k => ok k ∧ k ≠ g) v xs := by
  obtain ⟨A0, c0, hb, hg, hr0⟩ := h
  exact Kd.R_types ho hb ht
theorem IsS93.own_ne {w0 W : World} {g : Nat} {f0 : List Int} {f1 : Int} {f2 : Int} {α : Type} {d : Kd α} {e : Nat} {base : Nat} {ok : Nat → Prop} {v : Value} {xs : List α} (h : IsS93 w0 W g f0 f1 f2) (ho : d.R e W base ok v xs) (ht : e ≠ 93) : some g ≠ v.ownBlock := by
  obtain ⟨A0, c0, hb, hg, hr0⟩ := h
  exact Kd.R_ne ho hb ht
theorem IsS93.apartQ {w0 W : World} {g : Nat} {f0 : List Int} {f1 : Int} {f2 : Int} {α : Type} {d : Kd α} {e : Nat} {base : Nat} {ok : Nat → Prop} {v : Value} {xs : List α} (h : IsS93 w0 W g f0 f1 f2) (ho : d.Q e W base ok v xs) (ht : ∀ q, q ∈ e :: d.E → q ≠ 93) : d.Q e W base (fun k => ok k ∧ k ≠ g) v xs := by
  obtain ⟨A0, c0, hb, hg, hr0⟩ := h
  exact Kd.Q_types ho hb ht
theorem IsS93.own_neQ {w0 W : World} {g : Nat} {f0 : List Int} {f1 : Int} {f2 : Int} {α : Type} {d : Kd α} {e : Nat} {base : Nat} {ok : Nat → Prop} {v : Value} {xs : List α} (h : IsS93 w0 W g f0 f1 f2) (ho : d.Q e W base ok v xs) (ht : e ≠ 93) : some g ≠ v.ownBlock := by
  obtain ⟨A0, c0, hb, hg, hr0⟩ := h
  exact Kd.Q_ne ho hb ht
theorem IsS93.lt {w0 W : World} {g : Nat} {f0 : List Int} {f1 : Int} {f2 : Int} (h : IsS93 w0 W g f0 f1 f2) : g < W.heap.size := by
  obtain ⟨A0, c0, hb, hg, hr0⟩ := h
  exact blk_lt hb
theorem IsS93.ge {w0 W : World} {g : Nat} {f0 : List Int} {f1 : Int} {f2 : Int} (h : IsS93 w0 W g f0 f1 f2) : w0.heap.size ≤ g := by
  obtain ⟨A0, c0, hb, hg, hr0⟩ := h
  exact hg
theorem IsS93.ne_blk {w0 W : World} {g : Nat} {f0 : List Int} {f1 : Int} {f2 : Int} {a : Nat} {cs : Array Value} {t : TypeId} {fr : Nat × Nat} (h : IsS93 w0 W g f0 f1 f2) (hb2 : W.heap[a]? = some (.cells cs t fr)) (ht : t ≠ 93) : g ≠ a := by
  obtain ⟨A0, c0, hb, hg, hr0⟩ := h
  rintro rfl
  rw [hb] at hb2
  injection hb2 with hb2
  injection hb2 with _ ht2
  exact ht ht2.symm
theorem IsS93.far {w0 W : World} {g : Nat} {f0 : List Int} {f1 : Int} {f2 : Int} {p : Addr} (h : IsS93 w0 W g f0 f1 f2) (hne : g ≠ p.block) (u : Value) : IsS93 w0 (W.setCell p u) g f0 f1 f2 := by
  obtain ⟨A0, c0, hb, hg, hr0⟩ := h
  exact ⟨A0, c0, blk_far hb hne u, hg, hr0⟩
theorem cellS93_0 {W : World} {g : Nat} {A0 : Option Addr} {c0 : Nat} {f0 : List Int} {f1 : Int} {f2 : Int} (h : W.heap[g]? = some (.cells #[.slice A0 f0.length c0, .int .i64 f1, .int .u64 f2] 93 (0, 0))) : W.cell? ⟨g, 0, none⟩ = some (.slice A0 f0.length c0) := (blk_cell h 0).trans rfl
theorem cellS93_1 {W : World} {g : Nat} {A0 : Option Addr} {c0 : Nat} {f0 : List Int} {f1 : Int} {f2 : Int} (h : W.heap[g]? = some (.cells #[.slice A0 f0.length c0, .int .i64 f1, .int .u64 f2] 93 (0, 0))) : W.cell? ⟨g, 1, none⟩ = some (.int .i64 f1) := (blk_cell h 1).trans rfl
theorem IsS93.set_1 {w0 W : World} {g : Nat} {f0 : List Int} {f1 : Int} {f2 : Int} (h : IsS93 w0 W g f0 f1 f2) (x : Int) : IsS93 w0 (W.setCell ⟨g, 1, none⟩ (.int .i64 x)) g f0 x f2 := by
  obtain ⟨A0, c0, hb, hg, hr0⟩ := h
  exact ⟨A0, c0, by simpa using blk_set hb 1 (.int .i64 x), hg, hr0⟩
theorem cellS93_2 {W : World} {g : Nat} {A0 : Option Addr} {c0 : Nat} {f0 : List Int} {f1 : Int} {f2 : Int} (h : W.heap[g]? = some (.cells #[.slice A0 f0.length c0, .int .i64 f1, .int .u64 f2] 93 (0, 0))) : W.cell? ⟨g, 2, none⟩ = some (.int .u64 f2) := (blk_cell h 2).trans rfl
theorem IsS93.set_2 {w0 W : World} {g : Nat} {f0 : List Int} {f1 : Int} {f2 : Int} (h : IsS93 w0 W g f0 f1 f2) (x : Int) : IsS93 w0 (W.setCell ⟨g, 2, none⟩ (.int .u64 x)) g f0 f1 x := by
  obtain ⟨A0, c0, hb, hg, hr0⟩ := h
  exact ⟨A0, c0, by simpa using blk_set hb 2 (.int .u64 x), hg, hr0⟩
theorem t1_ {P : Prop} (h : P := by (try simp only [List.map_toArray, List.map_cons, List.map_nil]); first | done | rfl | (simp only [List.length_drop, List.length_take]; rfl)) : P := h
theorem t2_ {P : Prop} (h : P := by first | rfl | (simp; done) | (simp [*]; done)) : P := h
theorem t3_ {P : Prop} (h : P := by first | (go_simp; done) | (go_simp; rfl)) : P := h
theorem t4_ {P : Prop} (h : P := by (simp only [Act.put, List.setIfInBounds_toArray, List.set_cons_zero, List.set_cons_succ, i64_w, i32_w]; rfl)) : P := h
theorem t5_ {P : Prop} (h : P := by first | rfl | (simp [errW_none, errW_some] <;> rfl) | (simp [*, errW_none, errW_some] <;> rfl)) : P := h
theorem kb_ {w w1 w' : World} {g : Nat} (h : Aside0 (KeepBut w w1 g none)) (s : StG_ w.heap.size w1 w' := by repeat (first | (with_reducible first | exact .refl | apply StG_.alloc | apply StG_.drewN | apply StG_.drew | refine StG_.set ?_ (Aside0.out (by assumption))) | exact .refl)) : KeepBut w w' g none := by
  replace h := h.out
  induction s with
  | refl => exact h
  | alloc _ o ih => exact keep_alloc ih o
  | drew _ ih => exact keep_drew ih
  | drewN _ m ih => exact keep_drewN ih m
  | set _ hk ih => exact keep_far (p := ⟨_, _, none⟩) ih hk _
theorem kt_ {w w1 w' : World} {S : Nat → Prop} (h : Aside0 (Kept w w1 S)) (s : StG_ w.heap.size w1 w' := by repeat (first | (with_reducible first | exact .refl | apply StG_.alloc | apply StG_.drewN | apply StG_.drew | refine StG_.set ?_ (Aside0.out (by assumption))) | exact .refl)) : Kept w w' S := by
  replace h := h.out
  induction s with
  | refl => exact h
  | alloc _ o ih => exact Kept.alloc ih o
  | drew _ ih => exact Kept.drew ih
  | drewN _ m ih => exact Kept.drewN ih m
  | set _ hk ih => exact Kept.setCell (p := ⟨_, _, none⟩) ih (.inr hk) _
theorem b1_ {w W W' w2 : World} (h : Aside0 (Below w.heap.size w W)) (hb : Below W'.heap.size W' w2) (s : StG_ w.heap.size W W' := by repeat (first | (with_reducible first | exact .refl | apply StG_.alloc | apply StG_.drewN | apply StG_.drew | refine StG_.set ?_ (Aside0.out (by assumption))) | exact .refl)) : Aside0 (Below w.heap.size w w2) := ⟨below_step (gb_ h.out s) hb⟩
theorem k1_ {w W W' w2 : World} {g : Nat} (h : Aside0 (KeepBut w W g none)) (hb : Below W'.heap.size W' w2) (s : StG_ w.heap.size W W' := by repeat (first | (with_reducible first | exact .refl | apply StG_.alloc | apply StG_.drewN | apply StG_.drew | refine StG_.set ?_ (Aside0.out (by assumption))) | exact .refl)) : Aside0 (KeepBut w w2 g none) := ⟨KeepBut.trans (kb_ h s) (KeepBut.of_below hb g none) (.inl rfl)⟩
theorem t6_ {P : Prop} (h : P := by first | (with_reducible assumption) | assumption) : P := h
theorem t7_ {P : Prop} (h : P := by (intro w'; go_simp; with_reducible rfl)) : P := h
theorem y_ {P Q : Prop} (H : P) (h : P → Q := by (intro H_; subst_vars; first | with_reducible exact H_ | (have H2_ := (Option.bind_some _ _).symm.trans H_; with_reducible exact H2_) | exact H_)) : Q := h H
theorem hz_ {w : World} {g t : Nat} {v : Value} (h : Aside0 (w.heap[g]? = some (.cells #[v] t (0, 0)))) : w.cell? ⟨g, 0, none⟩ = some v := (blk_cell h.out 0).trans rfl
theorem ge_ {w W W' : World} {g : Nat} (hg : g = W'.heap.size) (h : Aside0 (Below w.heap.size w W)) (s : StG_ w.heap.size W W' := by repeat (first | (with_reducible first | exact .refl | apply StG_.alloc | apply StG_.drewN | apply StG_.drew | refine StG_.set ?_ (Aside0.out (by assumption))) | exact .refl)) : Aside0 (w.heap.size ≤ g) := ⟨by rw [hg]; exact below_size (gb_ h.out s)⟩
theorem gk_ {w W W' : World} {g g0 : Nat} (hg : g = W'.heap.size) (h : Aside0 (KeepBut w W g0 none)) (s : StG_ w.heap.size W W' := by repeat (first | (with_reducible first | exact .refl | apply StG_.alloc | apply StG_.drewN | apply StG_.drew | refine StG_.set ?_ (Aside0.out (by assumption))) | exact .refl)) : Aside0 (w.heap.size ≤ g) := ⟨by rw [hg]; exact (kb_ h s).1⟩
theorem nl_ {w W' : World} {g g0 : Nat} {o : Obj} (hg : g = W'.heap.size) (h : Aside0 (w.heap[g0]? = some o)) (s : Stp_ w W' := by with_reducible repeat first | exact .refl | apply Stp_.alloc | apply Stp_.drewN | apply Stp_.drew) : Aside0 (g0 ≠ g) := ⟨by rw [hg]; exact Nat.ne_of_lt (blk_lt (bb_ h.out s))⟩
theorem nr_ {w W' : World} {g g0 : Nat} {o : Obj} (hg : g = W'.heap.size) (h : Aside0 (w.heap[g0]? = some o)) (s : Stp_ w W' := by with_reducible repeat first | exact .refl | apply Stp_.alloc | apply Stp_.drewN | apply Stp_.drew) : Aside0 (g ≠ g0) := ⟨Ne.symm (nl_ hg h s).out⟩
theorem kx_ {w W' w1 : World} {g g' : Nat} {o : Obj} (h : Aside0 (w.heap[g']? = some o)) (hn : Aside0 (g' ≠ g)) (hk : KeepBut W' w1 g none) (s : Stp_ w W' := by with_reducible repeat first | exact .refl | apply Stp_.alloc | apply Stp_.drewN | apply Stp_.drew) : Aside0 (w1.heap[g']? = some o) := ⟨KeepBut.blk hk (bb_ h.out s) hn.out (by simp)⟩
theorem bx_ {P : Program} {ops : Array Oper} {rest : List Oper} {o : Oper} {a : Act} {Q : Exit → Act → World → Prop} {W : World} {N : Tmp} {cs : Array Value} {t : TypeId} (hgd : o.guard = none) (hd : o.dst = some N)
    (h : ∀ g, g = W.heap.size → ∀ w1, w1.heap[g]? = some (.cells cs t (0, 0)) → Below W.heap.size W w1 → wpList P ops Q rest (a.put o.dst (.pointer (some ⟨g, 0, none⟩))) w1)
    (hrun : (execOp a.eval o).run P W = .ok (.value (.pointer (some ⟨W.heap.size, 0, none⟩))) (W.alloc (.cells cs t (0, 0))) := by first | (go_simp; done) | (go_simp; rfl)) : wpList P ops Q (o :: rest) a W := box_event hgd hd hrun h
theorem tk_ {P : Program} {ops : Array Oper} {Q : Exit → Act → World → Prop} {md : Region.Mode} {S : World → Prop} {ds : List Nat} {T : Bool × List (List Nat × List Nat)} {B : List Nat} {i : Nat} {N : Option Tmp} {oi : Oper} {v : Value} {fuel : Nat} {l : Array Bool} {a : Act} {w : World} (l' : Array Bool) (hi : ops[i]? = some oi) (hN : oi.dst = N) (HT : Aside0 (rtab md ops = T)) (HW : Aside0 (waitsOk T.2 B = true))
    (hy : YieldsIf P ops S oi v a) (hS : S w) {a' : Act} (ha : a.put N v = a') (h : wpAnyLast P md ops Q S ds fuel l' a' w) (hc : takeW T B ds l.toList l'.toList i = true := by as_aux_lemma => kernel_rfl) (hQ : ∀ c a w, Q (.panic c) (a.put oi.dst v) w → Q (.panic c) a w := by exact fun _ _ _ h => h) : wpAnyLast P md ops Q S ds (fuel + 1) l a w := take_ l' hi hN (take_ofW HT.out HW.out hc) hQ hy hS ha h
theorem on_ {P : Program} {ops : Array Oper} {Q : Exit → Act → World → Prop} {md : Region.Mode} {S : World → Prop} {ds : List Nat} {T : Bool × List (List Nat × List Nat)} {i : Nat} {N : Option Tmp} {oi : Oper} {fuel : Nat} {l : Array Bool} {a : Act} {w : World} (l' : Array Bool) (hi : ops[i]? = some oi) (hN : oi.dst = N) (HT : Aside0 (rtab md ops = T))
    (h : ∀ K : Act → World → Prop, Shut (∀ a' w', S w' → (S w' → wpAnyLast P md ops Q S ds fuel l' a' w') → K a' w') → if Region.wanted oi (yielded ops a.tmps) = true then Oper.wp P oi a w K Q else K (a.put N undef) w) (hc : (readyT T.2 l.toList == [i] && l.toList.set i true == l'.toList) = true := by as_aux_lemma => kernel_rfl) (hd : i ∉ ds := by decide) : wpAnyLast P md ops Q S ds (fuel + 1) l a w := one_ l' hi hN (one_of HT.out hc) hd h
theorem gl_ {P : Program} {ops : Array Oper} {Q : Exit → Act → World → Prop} {rest : List Oper} {oi : Oper} {a : Act} {w : World} (N : Option Tmp) (hd : oi.dst = N) (hg : oi.guard = none) {f : FuncId} {fn : Func} {az : Array Operand} {ts : Array TypeId} (hf : P.funcs[f]? = some fn) (args : Array Value)
    (hop : oi.op = .call { callee := .value (.func f), args := az, argTypes := ts }) (h : Calls P f args w fun e w' => ∃ v, e = .returned v ∧ wpList P ops Q rest (a.put N v) w')
    (hargs : az.map a.eval = args := by (try simp only [List.map_toArray, List.map_cons, List.map_nil]); first | done | rfl | (simp only [List.length_drop, List.length_take]; rfl)) (hname : (fn.name == "runtime.NumGoroutine") = false := by kernel_rfl) (hb : fn.body.isSome = true := by rfl) : wpList P ops Q (oi :: rest) a w := goesL_ N hd hg hf hname hb args hop hargs h
inductive StS93_ (g : Nat) (w : World) : World → Prop
  | refl : StS93_ g w w
  | alloc {w' : World} (h : StS93_ g w w') (o : Obj) : StS93_ g w (w'.alloc o)
  | drew {w' : World} (h : StS93_ g w w') : StS93_ g w w'.drew
  | drewN {w' : World} (h : StS93_ g w w') (n : Nat) : StS93_ g w (w'.drewN n)
  | far {w' : World} {k j : Nat} {u : Value} (h : StS93_ g w w') (hk : g ≠ k) : StS93_ g w (w'.setCell ⟨k, j, none⟩ u)
theorem i_ {w0 w w' : World} {g : Nat} {f0 : List Int} {f1 f2 : Int} (h : Aside0 (IsS93 w0 w g f0 f1 f2)) (s : StS93_ g w w' := by repeat (first | (with_reducible first | exact .refl | apply StS93_.alloc | apply StS93_.drewN | apply StS93_.drew | refine StS93_.far ?_ (Aside0.out (by assumption))) | exact .refl)) : IsS93 w0 w' g f0 f1 f2 := by
  replace h := h.out
  induction s with
  | refl => exact h
  | alloc _ o ih => exact ih.alloc o
  | drew _ ih => exact ih.drew
  | drewN _ m ih => exact ih.drewN m
  | far _ hk ih => exact IsS93.far (p := ⟨_, _, none⟩) ih hk _
theorem i1_ {w0 w w' w1 : World} {g : Nat} {f0 : List Int} {f1 f2 : Int} (h : Aside0 (IsS93 w0 w g f0 f1 f2)) (hb : Below w'.heap.size w' w1) (s : StS93_ g w w' := by repeat (first | (with_reducible first | exact .refl | apply StS93_.alloc | apply StS93_.drewN | apply StS93_.drew | refine StS93_.far ?_ (Aside0.out (by assumption))) | exact .refl)) : Aside0 (IsS93 w0 w1 g f0 f1 f2) := ⟨IsS93.below (i_ h s) hb⟩
theorem kr_ {w0 w wr w' w1 : World} {g : Nat} {f0 : List Int} {f1 f2 : Int} {α : Type} {d : Kd α} {e base : Nat} {ok : Nat → Prop} {v : Value} {xs : List α} (h : Aside0 (IsS93 w0 w g f0 f1 f2)) (hr : Aside0 (d.R e wr base ok v xs)) (hk : KeepBut w' w1 g none) (s : StS93_ g w w' := by repeat (first | (with_reducible first | exact .refl | apply StS93_.alloc | apply StS93_.drewN | apply StS93_.drew | refine StS93_.far ?_ (Aside0.out (by assumption))) | exact .refl)) (s2 : Stp_ wr w' := by with_reducible repeat first | exact .refl | apply Stp_.alloc | apply Stp_.drewN | apply Stp_.drew) (ht : ∀ q, q ∈ e :: d.E → q ≠ 93 := by decide) : Aside0 (d.R e w1 base ok v xs) := ⟨Kd.R_mono (Kd.R_keep (IsS93.apart (i_ h s) (rb_ hr.out s2) ht) hk (fun _ h => h.2)) (fun _ h => h.1)⟩
theorem il_ {w0 w W' : World} {g gb : Nat} {f0 : List Int} {f1 f2 : Int} (hg : gb = W'.heap.size) (h : Aside0 (IsS93 w0 w g f0 f1 f2)) (s : StS93_ g w W' := by repeat (first | (with_reducible first | exact .refl | apply StS93_.alloc | apply StS93_.drewN | apply StS93_.drew | refine StS93_.far ?_ (Aside0.out (by assumption))) | exact .refl)) : Aside0 (g ≠ gb) := ⟨by rw [hg]; exact Nat.ne_of_lt (IsS93.lt (i_ h s))⟩
theorem ir_ {w0 w W' : World} {g gb : Nat} {f0 : List Int} {f1 f2 : Int} (hg : gb = W'.heap.size) (h : Aside0 (IsS93 w0 w g f0 f1 f2)) (s : StS93_ g w W' := by repeat (first | (with_reducible first | exact .refl | apply StS93_.alloc | apply StS93_.drewN | apply StS93_.drew | refine StS93_.far ?_ (Aside0.out (by assumption))) | exact .refl)) : Aside0 (gb ≠ g) := ⟨Ne.symm (il_ hg h s).out⟩
theorem pv_ {P : Program} {ops : Array Oper} {Q : Exit → Act → World → Prop} {md : Region.Mode} {S : World → Prop} {ds : List Nat} {T : Bool × List (List Nat × List Nat)} (i N : Nat) {oi : Oper} {v : Value} {fuel : Nat} {l : Array Bool} {a : Act} {w : World} (HT : Aside0 (rtab md ops = T)) {a' : Act} (h : wpAnyLast P md ops Q S ds fuel (l.toList.set i true).toArray a' w)
    (hi : ops[i]? = some oi := by exact rfl) (hN : oi.dst = some N := by exact rfl) (hy : Yields P ops oi v a := by exact Or.inl ⟨by rfl, t7_⟩) (ha : a.put (some N) v = a' := by (simp only [Act.put, List.setIfInBounds_toArray, List.set_cons_zero, List.set_cons_succ, i64_w, i32_w]; rfl)) (hc : anyT T l.toList (l.toList.set i true) i = true := by as_aux_lemma => kernel_rfl) (hQ : ∀ c a w, Q (.panic c) (a.put oi.dst v) w → Q (.panic c) a w := by exact fun _ _ _ h => h) : wpAnyLast P md ops Q S ds (fuel + 1) l a w := pure_ (l.toList.set i true).toArray hi hN (any_of HT.out hc) hQ hy ha h
theorem pw_ {P : Program} {ops : Array Oper} {Q : Exit → Act → World → Prop} {md : Region.Mode} {S : World → Prop} {ds : List Nat} {T : Bool × List (List Nat × List Nat)} (i N : Nat) {oi : Oper} {fuel : Nat} {l : Array Bool} {a : Act} {w : World} (HT : Aside0 (rtab md ops = T)) {a' : Act} (h : wpAnyLast P md ops Q S ds fuel (l.toList.set i true).toArray a' w)
    (hi : ops[i]? = some oi := by exact rfl) (hN : oi.dst = some N := by exact rfl) (hy : Yields P ops oi undef a := by exact Or.inr ⟨by rfl, rfl⟩) (ha : a.put (some N) undef = a' := by (simp only [Act.put, List.setIfInBounds_toArray, List.set_cons_zero, List.set_cons_succ, i64_w, i32_w]; rfl)) (hc : anyT T l.toList (l.toList.set i true) i = true := by as_aux_lemma => kernel_rfl) (hQ : ∀ c a w, Q (.panic c) (a.put oi.dst undef) w → Q (.panic c) a w := by exact fun _ _ _ h => h) : wpAnyLast P md ops Q S ds (fuel + 1) l a w := pure_ (l.toList.set i true).toArray hi hN (any_of HT.out hc) hQ hy ha h
theorem tv1_ {P : Program} {ops : Array Oper} {Q : Exit → Act → World → Prop} {md : Region.Mode} {S : World → Prop} {ds : List Nat} {T : Bool × List (List Nat × List Nat)} {B : List Nat} (i N : Nat) {oi : Oper} {v : Value} {fuel : Nat} {l : Array Bool} {a : Act} {w : World} (HT : Aside0 (rtab md ops = T)) (HW : Aside0 (waitsOk T.2 B = true)) (hS : S w) {a' : Act} (h : wpAnyLast P md ops Q S ds fuel (l.toList.set i true).toArray a' w)
    (hi : ops[i]? = some oi := by exact rfl) (hN : oi.dst = some N := by exact rfl) (hy : YieldsIf P ops S oi v a := by exact Or.inl ⟨by rfl, by (intro w' s0; go_simp; with_reducible rfl)⟩) (ha : a.put (some N) v = a' := by (simp only [Act.put, List.setIfInBounds_toArray, List.set_cons_zero, List.set_cons_succ, i64_w, i32_w]; rfl)) (hc : takeW T B ds l.toList (l.toList.set i true) i = true := by as_aux_lemma => kernel_rfl) (hQ : ∀ c a w, Q (.panic c) (a.put oi.dst v) w → Q (.panic c) a w := by exact fun _ _ _ h => h) : wpAnyLast P md ops Q S ds (fuel + 1) l a w := take_ (l.toList.set i true).toArray hi hN (take_ofW HT.out HW.out hc) hQ hy hS ha h
theorem tv2_ {P : Program} {ops : Array Oper} {Q : Exit → Act → World → Prop} {md : Region.Mode} {S : World → Prop} {ds : List Nat} {T : Bool × List (List Nat × List Nat)} {B : List Nat} (i N : Nat) {oi : Oper} {v : Value} {fuel : Nat} {l : Array Bool} {a : Act} {w : World} (HT : Aside0 (rtab md ops = T)) (HW : Aside0 (waitsOk T.2 B = true)) (hS : S w) {a' : Act} (h : wpAnyLast P md ops Q S ds fuel (l.toList.set i true).toArray a' w)
    (hi : ops[i]? = some oi := by exact rfl) (hN : oi.dst = some N := by exact rfl) (hy : YieldsIf P ops S oi v a := by exact Or.inl ⟨by rfl, by (rintro w' ⟨s0, s1⟩; go_simp; with_reducible rfl)⟩) (ha : a.put (some N) v = a' := by (simp only [Act.put, List.setIfInBounds_toArray, List.set_cons_zero, List.set_cons_succ, i64_w, i32_w]; rfl)) (hc : takeW T B ds l.toList (l.toList.set i true) i = true := by as_aux_lemma => kernel_rfl) (hQ : ∀ c a w, Q (.panic c) (a.put oi.dst v) w → Q (.panic c) a w := by exact fun _ _ _ h => h) : wpAnyLast P md ops Q S ds (fuel + 1) l a w := take_ (l.toList.set i true).toArray hi hN (take_ofW HT.out HW.out hc) hQ hy hS ha h
theorem tv3n_ {P : Program} {ops : Array Oper} {Q : Exit → Act → World → Prop} {md : Region.Mode} {S : World → Prop} {ds : List Nat} {T : Bool × List (List Nat × List Nat)} {B : List Nat} (i N : Nat) {oi : Oper} {v : Value} {fuel : Nat} {l : Array Bool} {a : Act} {w : World} (HT : Aside0 (rtab md ops = T)) (HW : Aside0 (waitsOk T.2 B = true)) (hS : S w) {a' : Act} (h : wpAnyLast P md ops Q S ds fuel (l.toList.set i true).toArray a' w)
    (hi : ops[i]? = some oi := by exact rfl) (hN : oi.dst = some N := by exact rfl) (hy : YieldsIf P ops S oi v a := by exact Or.inl ⟨by rfl, by (rintro w' ⟨s0, s1, s2⟩; (try simp only [Int.toNat_natCast] at s0 s1 s2); go_simp; with_reducible rfl)⟩) (ha : a.put (some N) v = a' := by (simp only [Act.put, List.setIfInBounds_toArray, List.set_cons_zero, List.set_cons_succ, i64_w, i32_w]; rfl)) (hc : takeW T B ds l.toList (l.toList.set i true) i = true := by as_aux_lemma => kernel_rfl) (hQ : ∀ c a w, Q (.panic c) (a.put oi.dst v) w → Q (.panic c) a w := by exact fun _ _ _ h => h) : wpAnyLast P md ops Q S ds (fuel + 1) l a w := take_ (l.toList.set i true).toArray hi hN (take_ofW HT.out HW.out hc) hQ hy hS ha h
theorem tv4_ {P : Program} {ops : Array Oper} {Q : Exit → Act → World → Prop} {md : Region.Mode} {S : World → Prop} {ds : List Nat} {T : Bool × List (List Nat × List Nat)} {B : List Nat} (i N : Nat) {oi : Oper} {v : Value} {fuel : Nat} {l : Array Bool} {a : Act} {w : World} (HT : Aside0 (rtab md ops = T)) (HW : Aside0 (waitsOk T.2 B = true)) (hS : S w) {a' : Act} (h : wpAnyLast P md ops Q S ds fuel (l.toList.set i true).toArray a' w)
    (hi : ops[i]? = some oi := by exact rfl) (hN : oi.dst = some N := by exact rfl) (hy : YieldsIf P ops S oi v a := by exact Or.inl ⟨by rfl, by (rintro w' ⟨s0, s1, s2, s3⟩; go_simp; with_reducible rfl)⟩) (ha : a.put (some N) v = a' := by (simp only [Act.put, List.setIfInBounds_toArray, List.set_cons_zero, List.set_cons_succ, i64_w, i32_w]; rfl)) (hc : takeW T B ds l.toList (l.toList.set i true) i = true := by as_aux_lemma => kernel_rfl) (hQ : ∀ c a w, Q (.panic c) (a.put oi.dst v) w → Q (.panic c) a w := by exact fun _ _ _ h => h) : wpAnyLast P md ops Q S ds (fuel + 1) l a w := take_ (l.toList.set i true).toArray hi hN (take_ofW HT.out HW.out hc) hQ hy hS ha h
theorem nm_ {P : Program} {ops : Array Oper} {Q : Exit → Act → World → Prop} {md : Region.Mode} {S : World → Prop} {ds : List Nat} {fuel : Nat} {l : Array Bool} {a a' : Act} {w : World} (h : wpAnyLast P md ops Q S ds fuel l a' w) (ha : a = a' := by (show Act.put _ (some _) _ = _; simp only [Act.put, List.setIfInBounds_toArray, List.set_cons_zero, List.set_cons_succ, i64_w, i32_w]; rfl)) : wpAnyLast P md ops Q S ds fuel l a w := norm_ ha h
theorem nj_ {P : Program} {ops : Array Oper} {Q : Exit → Act → World → Prop} {md : Region.Mode} {S : World → Prop} {ds : List Nat} {fuel : Nat} {l : Array Bool} {a a' : Act} {w : World} (h : wpAnyLast P md ops Q S ds fuel l a' w) (ha : a = a' := by (simp only [putAll, Act.put, List.setIfInBounds_toArray, List.set_cons_zero, List.set_cons_succ]; rfl)) : wpAnyLast P md ops Q S ds fuel l a w := norm_ ha h
theorem bd_ {α β : Type} {x : Option α} {f : α → Option β} {r : β} (h : x.bind f = some r) : ∃ a, Aside0 (x = some a) ∧ f a = some r := by
  obtain ⟨a, h1, h2⟩ := Option.bind_eq_some_iff.mp h
  exact ⟨a, ⟨h1⟩, h2⟩
theorem ip_ {p : Prop} {_ : Decidable p} {α : Type} {x y : Option α} {r : α} (h : (if p then x else y) = some r) (hy : ¬ y = some r := by simp) : p ∧ x = some r := by
  by_cases hp : p
  · rw [if_pos hp] at h
    exact ⟨hp, h⟩
  · rw [if_neg hp] at h
    exact absurd h hy
theorem id_ {p : Prop} {_ : Decidable p} {α : Type} {x y : Option α} {r : α} (h : (if p then x else y) = some r) (hy : ¬ y = some r := by simp) : decide p = true ∧ x = some r := ⟨decide_eq_true (ip_ h hy).1, (ip_ h hy).2⟩
theorem ie_ {p : Prop} {_ : Decidable p} {α : Type} {x y : Option α} {r : α} (h : (if p then x else y) = some r) : (decide p = false ∧ y = some r) ∨ (decide p = true ∧ x = some r) := by
  by_cases hp : p
  · rw [if_pos hp] at h
    exact .inr ⟨decide_eq_true hp, h⟩
  · rw [if_neg hp] at h
    exact .inl ⟨decide_eq_false hp, h⟩
theorem yb_ {α β : Type} {x : α} {f : α → Option β} {r : β} (h : (some x).bind f = some r) : ∃ y, Aside0 (y = x) ∧ f y = some r := ⟨x, ⟨rfl⟩, h⟩
theorem qb_ {α : Type} {d : Kd α} {e base : Nat} {ok : Nat → Prop} {v : Value} {xs : List α} {w w' : World} (h : d.Q e w base ok v xs) (s : Stp_ w w' := by with_reducible repeat first | exact .refl | apply Stp_.alloc | apply Stp_.drewN | apply Stp_.drew) : d.Q e w' base ok v xs := by
  induction s with
  | refl => exact h
  | alloc _ o ih => exact Kd.Q_alloc ih o
  | drew _ ih => exact Kd.Q_drew ih
  | drewN _ n ih => exact Kd.Q_drewN ih n
theorem cb_ {α : Type} {d : Kd α} {A : Option Addr} {n : Nat} {xs : List α} {w w' : World} (h : Aside0 (d.C w A n xs)) (s : Stp_ w w' := by with_reducible repeat first | exact .refl | apply Stp_.alloc | apply Stp_.drewN | apply Stp_.drew) : d.C w' A n xs := by
  induction s with
  | refl => exact h.out
  | alloc _ o ih => exact Kd.C_alloc ih o
  | drew _ ih => exact Kd.C_drew ih
  | drewN _ n ih => exact Kd.C_drewN ih n
theorem hc_ {w W w' : World} {p : Addr} {v : Value} (h : Aside0 (Below w.heap.size w W)) (hx : w.cell? p = some v) (s : Stp_ W w' := by with_reducible repeat first | exact .refl | apply Stp_.alloc | apply Stp_.drewN | apply Stp_.drew) : w'.cell? p = some v := by
  have hb : Below w.heap.size w w' := by
    induction s with
    | refl => exact h.out
    | alloc _ o ih => exact below_alloc ih o
    | drew _ ih => exact below_drew1 ih
    | drewN _ n ih => exact pw_below_drewN ih n
  exact (hb.cell (World.block_lt_of_cell? _ _ hx)).trans hx
theorem sr_ {P : Program} {ops : Array Oper} {Q : Exit → Act → World → Prop} {ds : List Nat} {S : World → Prop} {id n : Nat} {a : Act} {w : World} {T : Bool × List (List Nat × List Nat)} {B : List Nat} (hS : S w.drew) (hT : rtab .any ops = T) (hB : waitsOk T.2 B = true)
    (h : S w.drew → Aside0 (rtab .any ops = T) → Aside0 (waitsOk T.2 B = true) → wpAnyLast P .any ops Q S ds n (Array.replicate n false) a w.drew) (hm : P.follows .mixedOrders = true := by kernel_rfl) (hn : ops.size = n := by exact rfl) : (Code.region id ops true).wp P Q a w := start_ (Array.replicate n false) hm hn rfl hS fun hs => with_tabW hT hB fun h1 h2 => h hs h1 h2
theorem ow_ {P : Program} {ops : Array Oper} {Q : Exit → Act → World → Prop} {md : Region.Mode} {S : World → Prop} {ds : List Nat} {T : Bool × List (List Nat × List Nat)} (i N : Nat) {oi : Oper} {fuel : Nat} {l : Array Bool} {a : Act} {w : World} (HT : Aside0 (rtab md ops = T))
    (h : ∀ K : Act → World → Prop, Shut (∀ a' w', S w' → (S w' → wpAnyLast P md ops Q S ds fuel (l.toList.set i true).toArray a' w') → K a' w') → if Region.wanted oi (yielded ops a.tmps) = true then Oper.wp P oi a w K Q else K (a.put (some N) undef) w) (hi : ops[i]? = some oi := by exact rfl) (hN : oi.dst = some N := by exact rfl) (hc : (readyT T.2 l.toList == [i] && l.toList.set i true == (l.toList.set i true).toArray.toList) = true := by as_aux_lemma => kernel_rfl) (hd : i ∉ ds := by decide) : wpAnyLast P md ops Q S ds (fuel + 1) l a w := one_ (l.toList.set i true).toArray hi hN (one_of HT.out hc) hd h
theorem at1_ {w w' : World} {A : Option Addr} {n : Nat} {xs : List Int} {kd : IntKind} (h : Aside0 (Kd.C (Kd.int kd) w A n xs)) (hb : Aside0 (Below w.heap.size w w')) (i : Int) (h0 : decide (0 ≤ i) = true := by first | (with_reducible assumption) | assumption) (h1 : decide (i < (n : Int)) = true := by first | (with_reducible assumption) | assumption) :
    ∃ ad, A = some ad ∧ w.cell? (ad.add i.toNat) = some (.int kd (rd xs i)) ∧ w'.cell? (ad.add i.toNat) = some (.int kd (rd xs i)) ∧ (0 ≤ i) = True ∧ (i < (n : Int)) = True := by
  obtain ⟨ad, e, hx⟩ := Kd.at_int h.out i (of_decide_eq_true h0) (of_decide_eq_true h1)
  exact ⟨ad, e, hx, hc_ hb hx, eq_true (of_decide_eq_true h0), eq_true (of_decide_eq_true h1)⟩
theorem vb_ {α : Type} {d : Kd α} {e base : Nat} {ok : Nat → Prop} {v : Value} {xs : List α} {w w' : World} (h : Kd.V d e w base ok v xs) (s : Stp_ w w' := by with_reducible repeat first | exact .refl | apply Stp_.alloc | apply Stp_.drewN | apply Stp_.drew) : Kd.V d e w' base ok v xs := by
  induction s with
  | refl => exact h
  | alloc _ o ih => exact Kd.V_alloc ih o
  | drew _ ih => exact Kd.V_drew ih
  | drewN _ n ih => exact Kd.V_drewN ih n
theorem nb_ {α : Type} {d : Kd α} {e base : Nat} {ok : Nat → Prop} {v : Value} {xs : List α} {w w' : World} (h : Kd.N d e w base ok v xs) (s : Stp_ w w' := by with_reducible repeat first | exact .refl | apply Stp_.alloc | apply Stp_.drewN | apply Stp_.drew) : Kd.N d e w' base ok v xs := by
  induction s with
  | refl => exact h
  | alloc _ o ih => exact Kd.N_alloc ih o
  | drew _ ih => exact Kd.N_drew ih
  | drewN _ n ih => exact Kd.N_drewN ih n
def spec_l01N.l0 : Nat → Int → Int → List Int → Option (Int)
  | 0, _, _, _ => none
  | k + 1, x3, x4, x102000 => if x4 < (x102000.length : Int) then (if 0 ≤ x4 then (spec_l01N.l0 k (wrap64 (x3 * (rd x102000 x4))) (wrap64 (x4 + 1)) x102000) else (none)) else (some x3)
def spec_l01N.f (k : Nat) (l0_0 : List Int) : Option (Int) := spec_l01N.l0 k 1 0 l0_0
set_option maxHeartbeats 8000000 in
set_option maxRecDepth 100000 in
theorem spec_l01N.calls (k : Nat) (A0_0 : Option Addr) (c0_0 : Nat) (l0_0 : List Int) (r : Int) (w : World) (hr0_0 : Kd.C (Kd.int .i64) w A0_0 l0_0.length l0_0) (hc0_0 : l0_0.length ≤ c0_0) (h : spec_l01N.f k l0_0 = some r) :
  Calls Tryz.prog 53 #[.agg #[.slice A0_0 l0_0.length c0_0]] w fun e w' => e = .returned (.int .i64 r) ∧ Below w.heap.size w w' := by
 have hu26 := Tryz.underlying26
 have HR0_0 := Aside0.mk hr0_0
 have HC0_0 := Aside0.mk hc0_0
 clear hr0_0 hc0_0
 have HB := Aside0.mk (Below.refl w.heap.size w)
 have H := h
 clear h
 unfold spec_l01N.f at H
 have H' := Aside0.mk H
 clear H
 go_enter Tryz.func53, Tryz.ntmps53
 go_wp2_with (first | ((with_reducible refine gate_dst (N := 1) rfl ?_); refine bx_ (N := 1) (cs := #[.slice A0_0 l0_0.length c0_0]) (t := 26) rfl rfl ?_; intro gb101 hg w2 hbox hb; have BK101 := Aside0.mk (hbox); have GW101 := ge_ hg HB; have GE101 := ge_ hg HB; replace HB := b1_ HB hb; clear hb hbox hg))
 go_loopg [3, 4] k (fun kq v3 v4 w' => ∃ (x3_1 : Int) (x4_1 : Int), v3 = .int .i64 x3_1 ∧ v4 = .int .i64 x4_1 ∧ Aside0 (spec_l01N.l0 kq x3_1 x4_1 l0_0 = some r) ∧ Aside0 (kq ≤ k) ∧ Aside0 (w'.heap[gb101]? = some (.cells #[(.slice A0_0 l0_0.length c0_0)] 26 (0, 0))) ∧ Aside0 (Below w.heap.size w w'))
 case atStart => exact ⟨(1), (0), t2_, t2_, H', ⟨Nat.le_refl _⟩, ⟨bb_ BK101.out⟩, ⟨gb_ HB.out⟩⟩
 clear H'
 try clear p2
 obtain ⟨x3_1, x4_1, rfl, rfl, HA, HK1, BK101, HB⟩ := hrel
 obtain _ | k1 := gk
 ·exact absurd HA.out (by simp [spec_l01N.l0])
 have H := HA.out
 clear HA
 simp only [spec_l01N.l0] at H
 replace H := ie_ H
 obtain ⟨c3b0, H⟩ | ⟨c3b0, H⟩ := H
 ·obtain rfl := Option.some.inj H
  have hcz6_0 := hz_ BK101
  have hfz6_0 := blk_frozen BK101.out 0
  go_wp2
  go_ret
  exact ⟨t5_, gb_ HB.out⟩

 replace H := id_ H
 obtain ⟨c4b0, H⟩ := H
 have H' := Aside0.mk H
 clear H
 have hcz5_0 := hz_ BK101
 have hfz5_0 := blk_frozen BK101.out 0
 have p102 : 0 ≤ (x4_1 : Int) := of_decide_eq_true t6_
 have q102 : x4_1 < (l0_0.length : Int) := of_decide_eq_true t6_
 obtain ⟨ad102, e102, hx102_0⟩ := Kd.at_int HR0_0.out x4_1 p102 q102
 cases e102
 replace hx102_0 := hc_ HB hx102_0
 replace p102 := eq_true p102
 replace q102 := eq_true q102
 go_wp2
 go_roundg k1
 case measure => have := HK1.out; omega
 case rel => exact ⟨(wrap64 (x3_1 * (rd l0_0 x4_1))), (wrap64 (x4_1 + 1)), t2_, t2_, H', ⟨by have := HK1.out; omega⟩, ⟨bb_ BK101.out⟩, ⟨gb_ HB.out⟩⟩
def spec_l01In.f (a0 : Int) (a1 : Int) (a2 : Int) : Option (Bool) := if a0 ≥ a1 then (some (decide (a0 ≤ a2))) else (some false)
set_option maxHeartbeats 8000000 in
set_option maxRecDepth 100000 in
theorem spec_l01In.calls (a0 : Int) (a1 : Int) (a2 : Int) (r : Bool) (w : World) (h : spec_l01In.f a0 a1 a2 = some r) :
  Calls Tryz.prog 97 #[.int .i64 a0, .int .i64 a1, .int .i64 a2] w fun e w' => e = .returned (.bool r) ∧ Drawn0 w w' := by
 have H := h
 clear h
 unfold spec_l01In.f at H
 by_cases c4 : a0 ≥ a1
 ·rw [if_pos c4] at H
  have c4b0 : decide (a1 ≤ a0) = true := decide_eq_true c4
  clear c4
  obtain rfl := Option.some.inj H
  go_enter Tryz.func97, Tryz.ntmps97
  go_wp2
  go_ret
  exact ⟨by first | rfl | (simp; done) | (simp [*]; done), by repeat (first | exact Drawn0.refl _ | apply Drawn0.step)⟩
 rw [if_neg c4] at H
 have c4b0 : decide (a1 ≤ a0) = false := decide_eq_false c4
 clear c4
 obtain rfl := Option.some.inj H
 go_enter Tryz.func97, Tryz.ntmps97
 go_wp2
 go_ret
 exact ⟨by first | rfl | (simp; done) | (simp [*]; done), by repeat (first | exact Drawn0.refl _ | apply Drawn0.step)⟩
def spec_l01Is.l0 : Nat → Int → List Int → Option (Bool)
 | 0, _, _ => none
 | k + 1, x3, x102000 => if x3 < (x102000.length : Int) then (if 0 ≤ x3 then ((spec_l01In.f (rd x102000 x3) 2 4).bind fun t104 => (if t104 = true then (spec_l01Is.l0 k (wrap64 (x3 + 1)) x102000) else (some false))) else (none)) else ((spec_l01N.f k x102000).bind fun t105 => (some (decide (t105 ≤ 1024))))
def spec_l01Is.f (k : Nat) (l0_0 : List Int) : Option (Bool) := (spec_l01In.f (l0_0.length : Int) 1 8).bind fun t102 => (if t102 = true then (spec_l01Is.l0 k 0 l0_0) else (some false))
set_option maxHeartbeats 8000000 in
set_option maxRecDepth 100000 in
theorem spec_l01Is.calls (k : Nat) (A0_0 : Option Addr) (c0_0 : Nat) (l0_0 : List Int) (r : Bool) (w : World) (hr0_0 : Kd.C (Kd.int .i64) w A0_0 l0_0.length l0_0) (hc0_0 : l0_0.length ≤ c0_0) (h : spec_l01Is.f k l0_0 = some r) :
  Calls Tryz.prog 82 #[.agg #[.slice A0_0 l0_0.length c0_0]] w fun e w' => e = .returned (.bool r) ∧ Below w.heap.size w w' := by
 have hu26 := Tryz.underlying26
 have HR0_0 := Aside0.mk hr0_0
 have HC0_0 := Aside0.mk hc0_0
 clear hr0_0 hc0_0
 have HB := Aside0.mk (Below.refl w.heap.size w)
 have H := h
 clear h
 unfold spec_l01Is.f at H
 replace H := bd_ H
 obtain ⟨t102, A2, H⟩ := H
 by_cases c3 : t102 = true
 rotate_left
 ·replace c3 := Bool.eq_false_iff.mpr c3
  subst c3
  have H1 : (some false) = some r := by rw [if_neg (show ¬ (false = true) by decide)] at H; exact H
  clear H
  have H := H1
  clear H1
  obtain rfl := Option.some.inj H
  go_enter Tryz.func82, Tryz.ntmps82
  go_wp2_with (first | ((with_reducible refine gate_dst (N := 1) rfl ?_); refine bx_ (N := 1) (cs := #[.slice A0_0 l0_0.length c0_0]) (t := 26) rfl rfl ?_; intro gb101 hg w15 hbox hb; have BK101 := Aside0.mk (hbox); have GW101 := ge_ hg HB; have GE101 := ge_ hg HB; replace HB := b1_ HB hb; clear hb hbox hg; have hcz16_0 := hz_ BK101; have hfz16_0 := blk_frozen BK101.out 0) | ((with_reducible refine gate_callee (f := 97) rfl ?_); refine gl_ (some 7) rfl rfl Tryz.func97 #[.int .i64 (l0_0.length : Int), .int .i64 1, .int .i64 8] rfl ?_; (with_reducible refine (spec_l01In.calls (l0_0.length : Int) 1 8 false _ A2.out).mono ?_); rintro e w' ⟨rfl, ⟨nd, rfl⟩⟩; refine ⟨_, rfl, ?_⟩))
  go_ret
  exact ⟨t5_, gb_ HB.out⟩

 subst c3
 have H1 : (spec_l01Is.l0 k 0 l0_0) = some r := by rw [if_pos rfl] at H; exact H
 clear H
 have H := H1
 clear H1
 have H' := Aside0.mk H
 clear H
 go_enter Tryz.func82, Tryz.ntmps82
 go_wp2_with (first | ((with_reducible refine gate_dst (N := 1) rfl ?_); refine bx_ (N := 1) (cs := #[.slice A0_0 l0_0.length c0_0]) (t := 26) rfl rfl ?_; intro gb101 hg w4 hbox hb; have BK101 := Aside0.mk (hbox); have GW101 := ge_ hg HB; have GE101 := ge_ hg HB; replace HB := b1_ HB hb; clear hb hbox hg; have hcz5_0 := hz_ BK101; have hfz5_0 := blk_frozen BK101.out 0) | ((with_reducible refine gate_callee (f := 97) rfl ?_); refine gl_ (some 7) rfl rfl Tryz.func97 #[.int .i64 (l0_0.length : Int), .int .i64 1, .int .i64 8] rfl ?_; (with_reducible refine (spec_l01In.calls (l0_0.length : Int) 1 8 true _ A2.out).mono ?_); rintro e w' ⟨rfl, ⟨nd, rfl⟩⟩; refine ⟨_, rfl, ?_⟩))
 go_loopg [3] k (fun kq v3 w' => ∃ (x3_1 : Int), v3 = .int .i64 x3_1 ∧ Aside0 (spec_l01Is.l0 kq x3_1 l0_0 = some r) ∧ Aside0 (kq ≤ k) ∧ Aside0 (w'.heap[gb101]? = some (.cells #[(.slice A0_0 l0_0.length c0_0)] 26 (0, 0))) ∧ Aside0 (Below w.heap.size w w'))
 case atStart => exact ⟨(0), t2_, H', ⟨Nat.le_refl _⟩, ⟨bb_ BK101.out⟩, ⟨gb_ HB.out⟩⟩
 clear H'
 try clear p2
 try clear c3
 try clear hcz5_0
 try clear hfz5_0
 obtain ⟨x3_1, rfl, HA, HK1, BK101, HB⟩ := hrel
 obtain _ | k1 := gk
 ·exact absurd HA.out (by simp [spec_l01Is.l0])
 have H := HA.out
 clear HA
 simp only [spec_l01Is.l0] at H
 replace H := ie_ H
 obtain ⟨c6b0, H⟩ | ⟨c6b0, H⟩ := H
 ·replace H := bd_ H
  obtain ⟨t105, A12, H⟩ := H
  obtain rfl := Option.some.inj H
  have hcz13_0 := hz_ BK101
  have hfz13_0 := blk_frozen BK101.out 0
  go_wp2_with (first | ((with_reducible refine gate_callee (f := 53) rfl ?_); refine gl_ (some 24) rfl rfl Tryz.func53 #[.agg #[.slice A0_0 l0_0.length c0_0]] rfl ?_; (with_reducible refine (spec_l01N.calls k1 _ _ l0_0 t105 _ (c2_ HR0_0 HB) HC0_0.out A12.out).mono ?_); rintro e w14 ⟨rfl, hb⟩; refine ⟨_, rfl, ?_⟩; replace BK101 := a2_ BK101 hb; replace HB := b1_ HB hb; (try clear hb); (try clear hb2); (try clear hk); (try clear hi)))
  go_ret
  exact ⟨t5_, gb_ HB.out⟩
 replace H := id_ H
 obtain ⟨c7b0, H⟩ := H
 replace H := bd_ H
 obtain ⟨t104, A8, H⟩ := H
 by_cases c9 : t104 = true
 rotate_left
 ·replace c9 := Bool.eq_false_iff.mpr c9
  subst c9
  have H1 : (some false) = some r := by rw [if_neg (show ¬ (false = true) by decide)] at H; exact H
  clear H
  have H := H1
  clear H1
  obtain rfl := Option.some.inj H
  have hcz11_0 := hz_ BK101
  have hfz11_0 := blk_frozen BK101.out 0
  have p103 : 0 ≤ (x3_1 : Int) := of_decide_eq_true t6_
  have q103 : x3_1 < (l0_0.length : Int) := of_decide_eq_true t6_
  obtain ⟨ad103, e103, hx103_0⟩ := Kd.at_int HR0_0.out x3_1 p103 q103
  cases e103
  replace hx103_0 := hc_ HB hx103_0
  replace p103 := eq_true p103
  replace q103 := eq_true q103
  go_wp2_with (first | ((with_reducible refine gate_callee (f := 97) rfl ?_); refine gl_ (some 21) rfl rfl Tryz.func97 #[.int .i64 (rd l0_0 x3_1), .int .i64 2, .int .i64 4] rfl ?_; (with_reducible refine (spec_l01In.calls (rd l0_0 x3_1) 2 4 false _ A8.out).mono ?_); rintro e w' ⟨rfl, ⟨nd, rfl⟩⟩; refine ⟨_, rfl, ?_⟩))
  go_ret
  exact ⟨t5_, gb_ HB.out⟩
 subst c9
 have H1 : (spec_l01Is.l0 k1 (wrap64 (x3_1 + 1)) l0_0) = some r := by rw [if_pos rfl] at H; exact H
 clear H
 have H := H1
 clear H1
 have H' := Aside0.mk H
 clear H
 have hcz10_0 := hz_ BK101
 have hfz10_0 := blk_frozen BK101.out 0
 have p103 : 0 ≤ (x3_1 : Int) := of_decide_eq_true t6_
 have q103 : x3_1 < (l0_0.length : Int) := of_decide_eq_true t6_
 obtain ⟨ad103, e103, hx103_0⟩ := Kd.at_int HR0_0.out x3_1 p103 q103
 cases e103
 replace hx103_0 := hc_ HB hx103_0
 replace p103 := eq_true p103
 replace q103 := eq_true q103
 go_wp2_with (first | ((with_reducible refine gate_callee (f := 97) rfl ?_); refine gl_ (some 21) rfl rfl Tryz.func97 #[.int .i64 (rd l0_0 x3_1), .int .i64 2, .int .i64 4] rfl ?_; (with_reducible refine (spec_l01In.calls (rd l0_0 x3_1) 2 4 true _ A8.out).mono ?_); rintro e w' ⟨rfl, ⟨nd, rfl⟩⟩; refine ⟨_, rfl, ?_⟩))
 go_roundg k1
 case measure => have := HK1.out; omega
 case rel => exact ⟨(wrap64 (x3_1 + 1)), t2_, H', ⟨by have := HK1.out; omega⟩, ⟨bb_ BK101.out⟩, ⟨gb_ HB.out⟩⟩
mutual
def impl_IsSpace.j0 : Nat → Bool → List Int → Option (Bool)
 | 0, _, _ => none
 | k + 1, x15, x102000 => if x15 = true then (some false) else (impl_IsSpace.l0 k 1 x102000 (x102000.length : Int) 0)
def impl_IsSpace.l0 : Nat → Int → List Int → Int → Int → Option (Bool)
 | 0, _, _, _, _ => none
 | k + 1, x3, x17, x18, x19 => if x19 < x18 then (if 0 ≤ x19 then (if x19 < (x17.length : Int) then (if (rd x17 x19) < 2 then (some false) else (if (rd x17 x19) > 4 then (some false) else (impl_IsSpace.l0 k (wrap64 (x3 * (rd x17 x19))) x17 x18 (wrap64 (x19 + 1))))) else (none)) else (none)) else (some (decide (x3 ≤ 1024)))
end
def impl_IsSpace.f (k : Nat) (l0_0 : List Int) : Option (Bool) := if (l0_0.length : Int) < 1 then (impl_IsSpace.j0 k true l0_0) else (impl_IsSpace.j0 k (decide ((l0_0.length : Int) > 8)) l0_0)
set_option maxHeartbeats 8000000 in
set_option maxRecDepth 100000 in
theorem impl_IsSpace.calls (k : Nat) (A0_0 : Option Addr) (c0_0 : Nat) (l0_0 : List Int) (r : Bool) (w : World) (hr0_0 : Kd.C (Kd.int .i64) w A0_0 l0_0.length l0_0) (hc0_0 : l0_0.length ≤ c0_0) (h : impl_IsSpace.f k l0_0 = some r) :
  Calls Tryz.prog 42 #[.agg #[.slice A0_0 l0_0.length c0_0]] w fun e w' => e = .returned (.bool r) ∧ Below w.heap.size w w' := by
 have hu26 := Tryz.underlying26
 have HR0_0 := Aside0.mk hr0_0
 have HC0_0 := Aside0.mk hc0_0
 clear hr0_0 hc0_0
 have HB := Aside0.mk (Below.refl w.heap.size w)
 have H := h
 clear h
 unfold impl_IsSpace.f at H
 have HC2 := Aside0.mk H
 clear H
 go_enter Tryz.func42, Tryz.ntmps42
 go_upto_region 1 with (first | ((with_reducible refine gate_dst (N := 1) rfl ?_); refine bx_ (N := 1) (cs := #[.slice A0_0 l0_0.length c0_0]) (t := 26) rfl rfl ?_; intro gb101 hg w3 hbox hb; have BK101 := Aside0.mk (hbox); have GW101 := ge_ hg HB; have GE101 := ge_ hg HB; replace HB := b1_ HB hb; clear hb hbox hg))
 (try simp only [Act.put, List.setIfInBounds_toArray, List.set_cons_zero, List.set_cons_succ])
 go_cut [15] (fun cs_15 wc => ∃ (kq : Nat) (x15_1 : Bool), cs_15 = .bool x15_1 ∧ Aside0 (impl_IsSpace.j0 kq x15_1 l0_0 = some r) ∧ Aside0 (kq ≤ k) ∧ Aside0 (wc.heap[gb101]? = some (.cells #[(.slice A0_0 l0_0.length c0_0)] 26 (0, 0))) ∧ Aside0 (Below w.heap.size w wc))
 case first =>
  have H := HC2.out
  clear HC2
  by_cases c4 : (l0_0.length : Int) < 1
  ·rw [if_pos c4] at H
   have c4b0 := decide_eq_true c4
   have c4b1 : decide (l0_0.length < 1) = true := decide_eq_true (by omega)
   clear c4
   (first | rw [c4b0] | (simp only [i64_w, i32_w]; rw [c4b0]) | skip)
   have H' := Aside0.mk H
   clear H
   have hcz5_0 := hz_ BK101
   have hfz5_0 := blk_frozen BK101.out 0
   go_wp2
   go_meet
   case rel => exact ⟨_, (true), t2_, H', ⟨by first | omega | exact Nat.le_refl _⟩, ⟨bb_ BK101.out⟩, ⟨gb_ HB.out⟩⟩
  rw [if_neg c4] at H
  have c4b0 := decide_eq_false c4
  have c4b1 : decide (l0_0.length < 1) = false := decide_eq_false (by omega)
  clear c4
  (first | rw [c4b0] | (simp only [i64_w, i32_w]; rw [c4b0]) | skip)
  have H' := Aside0.mk H
  clear H
  have hcz6_0 := hz_ BK101
  have hfz6_0 := blk_frozen BK101.out 0
  go_wp2
  go_meet
  case rel => exact ⟨_, (decide ((l0_0.length : Int) > 8)), t2_, H', ⟨by first | omega | exact Nat.le_refl _⟩, ⟨bb_ BK101.out⟩, ⟨gb_ HB.out⟩⟩
 clear HC2
 try clear p2
 try clear c4
 try clear c4b0
 try clear c4b1
 try clear hcz5_0
 try clear hcz6_0
 try clear hfz5_0
 try clear hfz6_0
 obtain ⟨kq, x15_1, rfl, HA, HJ1, BK101, HB⟩ := hcut
 cases kq with
 | zero => exact absurd HA.out (by simp [impl_IsSpace.j0])
 | succ kj1 =>
  have H := HA.out
  clear HA
  simp only [impl_IsSpace.j0] at H
  by_cases c7 : x15_1 = true
  ·subst c7
   have H1 : (some false) = some r := by rw [if_pos rfl] at H; exact H
   clear H
   have H := H1
   clear H1
   obtain rfl := Option.some.inj H
   go_wp2
   go_ret
   exact ⟨t5_, gb_ HB.out⟩
  replace c7 := Bool.eq_false_iff.mpr c7
  subst c7
  have H1 : (impl_IsSpace.l0 kj1 1 l0_0 (l0_0.length : Int) 0) = some r := by rw [if_neg (show ¬ (false = true) by decide)] at H; exact H
  clear H
  have H := H1
  clear H1
  have H' := Aside0.mk H
  clear H
  have hcz8_0 := hz_ BK101
  have hfz8_0 := blk_frozen BK101.out 0
  go_wp2
  go_loopg [3, 19] kj1 (fun kq v3 v19 w' => ∃ (x3_2 : Int) (x19_2 : Int), v3 = .int .i64 x3_2 ∧ v19 = .int .i64 x19_2 ∧ Aside0 (impl_IsSpace.l0 kq x3_2 l0_0 (l0_0.length : Int) x19_2 = some r) ∧ Aside0 (kq ≤ kj1) ∧ Aside0 (w'.heap[gb101]? = some (.cells #[(.slice A0_0 l0_0.length c0_0)] 26 (0, 0))) ∧ Aside0 (Below w.heap.size w w'))
  case atStart => exact ⟨(1), (0), t2_, t2_, H', ⟨Nat.le_refl _⟩, ⟨bb_ BK101.out⟩, ⟨gb_ HB.out⟩⟩
  clear H'
  try clear p2
  try clear c4
  try clear c4b0
  try clear c4b1
  try clear c7
  try clear hcz5_0
  try clear hcz6_0
  try clear hcz8_0
  try clear hfz5_0
  try clear hfz6_0
  try clear hfz8_0
  try clear p2
  obtain ⟨x3_2, x19_2, rfl, rfl, HA, HK2, BK101, HB⟩ := hrel
  obtain _ | k2 := gk
  ·exact absurd HA.out (by simp [impl_IsSpace.l0])
  have H := HA.out
  clear HA
  simp only [impl_IsSpace.l0] at H
  replace H := ie_ H
  obtain ⟨c9b0, H⟩ | ⟨c9b0, H⟩ := H
  ·obtain rfl := Option.some.inj H
   go_wp2
   go_ret
   exact ⟨t5_, gb_ HB.out⟩

  replace H := id_ H
  obtain ⟨c10b0, H⟩ := H
  replace H := id_ H
  obtain ⟨c11b0, H⟩ := H
  by_cases c12 : (rd l0_0 x19_2) < 2
  ·rw [if_pos c12] at H
   have c12b0 := decide_eq_true c12
   clear c12
   obtain rfl := Option.some.inj H
   have p102 : 0 ≤ (x19_2 : Int) := of_decide_eq_true t6_
   have q102 : x19_2 < (l0_0.length : Int) := of_decide_eq_true t6_
   obtain ⟨ad102, e102, hx102_0⟩ := Kd.at_int HR0_0.out x19_2 p102 q102
   cases e102
   replace hx102_0 := hc_ HB hx102_0
   replace p102 := eq_true p102
   replace q102 := eq_true q102
   go_wp2
   go_ret
   exact ⟨t5_, gb_ HB.out⟩
  rw [if_neg c12] at H
  have c12b0 := decide_eq_false c12
  clear c12
  by_cases c13 : (rd l0_0 x19_2) > 4
  ·rw [if_pos c13] at H
   have c13b0 : decide (4 < (rd l0_0 x19_2)) = true := decide_eq_true c13
   clear c13
   obtain rfl := Option.some.inj H
   have p102 : 0 ≤ (x19_2 : Int) := of_decide_eq_true t6_
   have q102 : x19_2 < (l0_0.length : Int) := of_decide_eq_true t6_
   obtain ⟨ad102, e102, hx102_0⟩ := Kd.at_int HR0_0.out x19_2 p102 q102
   cases e102
   replace hx102_0 := hc_ HB hx102_0
   replace p102 := eq_true p102
   replace q102 := eq_true q102
   go_wp2
   go_ret
   exact ⟨t5_, gb_ HB.out⟩
  rw [if_neg c13] at H
  have c13b0 : decide (4 < (rd l0_0 x19_2)) = false := decide_eq_false c13
  clear c13
  have H' := Aside0.mk H
  clear H
  have p102 : 0 ≤ (x19_2 : Int) := of_decide_eq_true t6_
  have q102 : x19_2 < (l0_0.length : Int) := of_decide_eq_true t6_
  obtain ⟨ad102, e102, hx102_0⟩ := Kd.at_int HR0_0.out x19_2 p102 q102
  cases e102
  replace hx102_0 := hc_ HB hx102_0
  replace p102 := eq_true p102
  replace q102 := eq_true q102
  go_wp2
  go_roundg k2
  case measure => have := HJ1.out; have := HK2.out; omega
  case rel => exact ⟨(wrap64 (x3_2 * (rd l0_0 x19_2))), (wrap64 (x19_2 + 1)), t2_, t2_, H', ⟨by have := HJ1.out; have := HK2.out; omega⟩, ⟨bb_ BK101.out⟩, ⟨gb_ HB.out⟩⟩
def impl_count.l0 : Nat → Int → List Int → Int → Int → Option (Int)
 | 0, _, _, _, _ => none
 | k + 1, x3, x7, x8, x9 => if x9 < x8 then (if 0 ≤ x9 then (if x9 < (x7.length : Int) then (impl_count.l0 k (wrap64 (x3 * (rd x7 x9))) x7 x8 (wrap64 (x9 + 1))) else (none)) else (none)) else (some x3)
def impl_count.f (k : Nat) (l0_0 : List Int) : Option (Int) := impl_count.l0 k 1 l0_0 (l0_0.length : Int) 0
set_option maxHeartbeats 8000000 in
set_option maxRecDepth 100000 in
theorem impl_count.calls (k : Nat) (A0_0 : Option Addr) (c0_0 : Nat) (l0_0 : List Int) (r : Int) (w : World) (hr0_0 : Kd.C (Kd.int .i64) w A0_0 l0_0.length l0_0) (hc0_0 : l0_0.length ≤ c0_0) (h : impl_count.f k l0_0 = some r) :
  Calls Tryz.prog 43 #[.agg #[.slice A0_0 l0_0.length c0_0]] w fun e w' => e = .returned (.int .i64 r) ∧ Below w.heap.size w w' := by
 have hu26 := Tryz.underlying26
 have HR0_0 := Aside0.mk hr0_0
 have HC0_0 := Aside0.mk hc0_0
 clear hr0_0 hc0_0
 have HB := Aside0.mk (Below.refl w.heap.size w)
 have H := h
 clear h
 unfold impl_count.f at H
 have H' := Aside0.mk H
 clear H
 go_enter Tryz.func43, Tryz.ntmps43
 go_wp2_with (first | ((with_reducible refine gate_dst (N := 1) rfl ?_); refine bx_ (N := 1) (cs := #[.slice A0_0 l0_0.length c0_0]) (t := 26) rfl rfl ?_; intro gb101 hg w2 hbox hb; have BK101 := Aside0.mk (hbox); have GW101 := ge_ hg HB; have GE101 := ge_ hg HB; replace HB := b1_ HB hb; clear hb hbox hg; have hcz3_0 := hz_ BK101; have hfz3_0 := blk_frozen BK101.out 0))
 go_loopg [3, 9] k (fun kq v3 v9 w' => ∃ (x3_1 : Int) (x9_1 : Int), v3 = .int .i64 x3_1 ∧ v9 = .int .i64 x9_1 ∧ Aside0 (impl_count.l0 kq x3_1 l0_0 (l0_0.length : Int) x9_1 = some r) ∧ Aside0 (kq ≤ k) ∧ Aside0 (w'.heap[gb101]? = some (.cells #[(.slice A0_0 l0_0.length c0_0)] 26 (0, 0))) ∧ Aside0 (Below w.heap.size w w'))
 case atStart => exact ⟨(1), (0), t2_, t2_, H', ⟨Nat.le_refl _⟩, ⟨bb_ BK101.out⟩, ⟨gb_ HB.out⟩⟩
 clear H'
 try clear p2
 try clear hcz3_0
 try clear hfz3_0
 obtain ⟨x3_1, x9_1, rfl, rfl, HA, HK1, BK101, HB⟩ := hrel
 obtain _ | k1 := gk
 ·exact absurd HA.out (by simp [impl_count.l0])
 have H := HA.out
 clear HA
 simp only [impl_count.l0] at H
 replace H := ie_ H
 obtain ⟨c4b0, H⟩ | ⟨c4b0, H⟩ := H
 ·obtain rfl := Option.some.inj H
  go_wp2
  go_ret
  exact ⟨t5_, gb_ HB.out⟩

 replace H := id_ H
 obtain ⟨c5b0, H⟩ := H
 replace H := id_ H
 obtain ⟨c6b0, H⟩ := H
 have H' := Aside0.mk H
 clear H
 have p102 : 0 ≤ (x9_1 : Int) := of_decide_eq_true t6_
 have q102 : x9_1 < (l0_0.length : Int) := of_decide_eq_true t6_
 obtain ⟨ad102, e102, hx102_0⟩ := Kd.at_int HR0_0.out x9_1 p102 q102
 cases e102
 replace hx102_0 := hc_ HB hx102_0
 replace p102 := eq_true p102
 replace q102 := eq_true q102
 go_wp2
 go_roundg k1
 case measure => have := HK1.out; omega
 case rel => exact ⟨(wrap64 (x3_1 * (rd l0_0 x9_1))), (wrap64 (x9_1 + 1)), t2_, t2_, H', ⟨by have := HK1.out; omega⟩, ⟨bb_ BK101.out⟩, ⟨gb_ HB.out⟩⟩
end Go.Proofs.YtnkndaapamenmaaGreat.P
namespace Go.Proofs.YtnkndaapamenmaaGreat.P
open Go.RowKit Go.Proofs.YtnkndaapamenmaaGreatW.PrintWords Go.Proofs.YtnkndaapamenmaaGreatW.PrintLast Go.Proofs.YtnkndaapamenmaaGreatW.PrintMore CC
set_option linter.unusedVariables false
set_option linter.unusedSimpArgs false
def arr8 (l : List Int) : Value := .agg (nums .u8 l).toArray
def dloop (s : List Int) : Nat → Int → List Int → List Int
  | 0, _, ar => ar
  | n + 1, x, ar => dloop s n (x / rd s (n : Int)) (ar.set n (x % rd s (n : Int)))
theorem below3 (w : World) (o1 o2 o3 : Obj) : Below w.heap.size w (((w.alloc o1).alloc o2).alloc o3) := (((Below.refl _ _).alloc (Nat.le_refl _) _).alloc (by simp) _).alloc (by simp; omega) _
theorem dstep_bounds {s : List Int} (hs : s.all sizeOk = true) {n : Nat} (hn : n < s.length) {x : Int} (h0 : 0 ≤ x) (h1 : x ≤ 1024) :
    2 ≤ rd s (n : Int) ∧ rd s (n : Int) ≤ 4 ∧ 0 ≤ x % rd s (n : Int) ∧ x % rd s (n : Int) ≤ 3 ∧ 0 ≤ x / rd s (n : Int) ∧ x / rd s (n : Int) ≤ 1024 := by
  have hq : sizeOk (rd s (n : Int)) = true := by
    have : rd s (n : Int) = s[n] := by simp [rd, List.getD_eq_getElem?_getD, hn]
    rw [this]
    exact List.all_eq_true.1 hs _ (List.getElem_mem hn)
  rcases (sizeOk_iff _).1 hq with e | e | e <;> rw [e] <;> omega
theorem blk_set8 {w : World} {g : Nat} {t : TypeId} {ar : List Int} (h : w.heap[g]? = some (.cells (nums .u8 ar).toArray t (0, 0))) (i : Nat) (v : Int) : (w.setCell ⟨g, i, none⟩ (.int .u8 v)).heap[g]? = some (.cells (nums .u8 (ar.set i v)).toArray t (0, 0)) := by
  rw [blk_set h]
  simp [nums, List.map_set]
theorem cell8 {w : World} {g : Nat} {t : TypeId} {ar : List Int} (h : w.heap[g]? = some (.cells (nums .u8 ar).toArray t (0, 0))) {i : Nat} (hi : i < ar.length) : w.cell? ⟨g, i, none⟩ = some (.int .u8 (rd ar (i : Int))) := by
  rw [blk_cell h]
  simp [nums, rd, List.getD_eq_getElem?_getD, hi]
theorem rd_cell {w W : World} {ad : Addr} {s : List Int} (hr : Kd.C (Kd.int .i64) w (some ad) s.length s) (hb : Below w.heap.size w W) (i : Nat) (hi : i < s.length) : W.cell? (ad.add i) = some (.int .i64 (rd s (i : Int))) := by
  obtain ⟨ad', e, hx⟩ := Kd.at_int (Kd.C_below hr hb) (i : Int) (by omega) (by omega)
  obtain rfl := Option.some.inj e
  simpa using hx
theorem z8 : (nums .u8 (List.replicate 8 0)).toArray = #[.int .u8 0, .int .u8 0, .int .u8 0, .int .u8 0, .int .u8 0, .int .u8 0, .int .u8 0, .int .u8 0] := rfl
set_option maxHeartbeats 4000000 in
set_option maxRecDepth 100000 in
theorem digitsOf_calls (A : Option Addr) (c : Nat) (s : List Int) (x : Int) (w : World) (hr : Kd.C (Kd.int .i64) w A s.length s) (hc : s.length ≤ c) (hs : isSp s = true) (h0 : 0 ≤ x) (h1 : x ≤ 1024) :
    Calls Tryz.prog 65 #[.agg #[.slice A s.length c], .int .i64 x] w
      fun e w' => e = .returned (arr8 (dloop s s.length x (List.replicate 8 0))) ∧ Below w.heap.size w w' := by
  have huD := Tryz.underlying66
  have huS := Tryz.underlying26
  have HR := Aside0.mk hr
  have hl := isSp_len hs
  have hl1 := isSp_pos hs
  have HS := Aside0.mk (isSp_all hs)
  clear hr hs
  go_enter Tryz.func65, Tryz.ntmps65
  go_wp2
  go_loopw [1, 6] (fun t i W => ∃ (n : Nat) (j x' : Int) (ar : List Int), n ≤ s.length ∧ Aside0 (j = n - 1) ∧ i = .int .i64 j ∧ t = .int .i64 x' ∧ 0 ≤ x' ∧ x' ≤ 1024 ∧ Aside0 (ar.length = 8) ∧ Aside0 (dloop s n x' ar = dloop s s.length x (List.replicate 8 0)) ∧
      Aside0 (W.heap[w.heap.size]? = some (.cells #[.slice A s.length c] 26 (0, 0))) ∧ Aside0 (W.heap[w.heap.size + 1]? = some (.cells (nums .u8 (List.replicate 8 0)).toArray 66 (0, 0))) ∧ Aside0 (W.heap[w.heap.size + 1 + 1]? = some (.cells (nums .u8 ar).toArray 66 (0, 0))) ∧
      Aside0 (Below w.heap.size w W)) (fun _ i _ => (intOf i + 1).toNat)
  case atStart =>
    refine ⟨s.length, s.length - 1, x, List.replicate 8 0, by omega, ⟨rfl⟩, by simp, rfl, h0, h1, ⟨rfl⟩, ⟨rfl⟩, ⟨?_⟩, ⟨?_⟩, ⟨?_⟩, ⟨below3 _ _ _ _⟩⟩
    · exact blk_alloc (blk_alloc (blk_new _ _) _) _
    · rw [z8]
      refine blk_alloc ?_ _
      simpa using blk_new (w.alloc (.cells #[.slice A s.length c] 26)) (.cells #[.int .u8 0, .int .u8 0, .int .u8 0, .int .u8 0, .int .u8 0, .int .u8 0, .int .u8 0, .int .u8 0] 66)
    · rw [z8]
      simpa using blk_new ((w.alloc (.cells #[.slice A s.length c] 26)).alloc (.cells #[.int .u8 0, .int .u8 0, .int .u8 0, .int .u8 0, .int .u8 0, .int .u8 0, .int .u8 0, .int .u8 0] 66)) (.cells #[.int .u8 0, .int .u8 0, .int .u8 0, .int .u8 0, .int .u8 0, .int .u8 0, .int .u8 0, .int .u8 0] 66)
  case round =>
    obtain ⟨n, j, x', ar, hn, hj, rfl, rfl, g0, g1, hal, HD, B0, B1, B2, HB⟩ := hrel
    cases n with
    | zero =>
      obtain rfl : j = -1 := by have := hj.out; omega
      match ar, hal.out with
      | [y0, y1, y2, y3, y4, y5, y6, y7], _ =>
        have k0 : wr.cell? ⟨w.heap.size + 1 + 1, 0, none⟩ = some (.int .u8 y0) := blk_cell B2.out 0
        have k1 : wr.cell? ⟨w.heap.size + 1 + 1, 1, none⟩ = some (.int .u8 y1) := blk_cell B2.out 1
        have k2 : wr.cell? ⟨w.heap.size + 1 + 1, 2, none⟩ = some (.int .u8 y2) := blk_cell B2.out 2
        have k3 : wr.cell? ⟨w.heap.size + 1 + 1, 3, none⟩ = some (.int .u8 y3) := blk_cell B2.out 3
        have k4 : wr.cell? ⟨w.heap.size + 1 + 1, 4, none⟩ = some (.int .u8 y4) := blk_cell B2.out 4
        have k5 : wr.cell? ⟨w.heap.size + 1 + 1, 5, none⟩ = some (.int .u8 y5) := blk_cell B2.out 5
        have k6 : wr.cell? ⟨w.heap.size + 1 + 1, 6, none⟩ = some (.int .u8 y6) := blk_cell B2.out 6
        have k7 : wr.cell? ⟨w.heap.size + 1 + 1, 7, none⟩ = some (.int .u8 y7) := blk_cell B2.out 7
        have hf := fun i => blk_frozen B1.out i
        have q0 : wr.cell? ⟨w.heap.size + 1, 0, none⟩ = some (.int .u8 0) := blk_cell B1.out 0
        have q1 : wr.cell? ⟨w.heap.size + 1, 1, none⟩ = some (.int .u8 0) := blk_cell B1.out 1
        have q2 : wr.cell? ⟨w.heap.size + 1, 2, none⟩ = some (.int .u8 0) := blk_cell B1.out 2
        have q3 : wr.cell? ⟨w.heap.size + 1, 3, none⟩ = some (.int .u8 0) := blk_cell B1.out 3
        have q4 : wr.cell? ⟨w.heap.size + 1, 4, none⟩ = some (.int .u8 0) := blk_cell B1.out 4
        have q5 : wr.cell? ⟨w.heap.size + 1, 5, none⟩ = some (.int .u8 0) := blk_cell B1.out 5
        have q6 : wr.cell? ⟨w.heap.size + 1, 6, none⟩ = some (.int .u8 0) := blk_cell B1.out 6
        have q7 : wr.cell? ⟨w.heap.size + 1, 7, none⟩ = some (.int .u8 0) := blk_cell B1.out 7
        go_wp2
        refine bodyPost_ret (v := .agg #[.int .u8 y0, .int .u8 y1, .int .u8 y2, .int .u8 y3, .int .u8 y4, .int .u8 y5, .int .u8 y6, .int .u8 y7]) (by simp [results, Tryz.results65, go_sem, q0, q1, q2, q3, q4, q5, q6, q7]) rfl ⟨?_, ?_⟩
        · rw [← HD.out]
          rfl
        · repeat (refine below_set ?_ (by omega))
          exact HB.out
    | succ m =>
      obtain rfl : j = (m : Int) := by have := hj.out; omega
      obtain ⟨ad, e, _⟩ := Kd.at_int HR.out (m : Int) (by omega) (by omega)
      subst e
      have hx := rd_cell HR.out HB.out m (by omega)
      have hx2 := rd_cell HR.out (below_set (g := w.heap.size + 1 + 1) (j := m) (v := .int .u8 (x' % rd s (m : Int))) HB.out (by omega)) m (by omega)
      obtain ⟨b2, b3, b0, b1, b4, b5⟩ := dstep_bounds (n := m) HS.out (by omega) g0 g1
      have HQ : Aside0 (dloop s m (x' / rd s (m : Int)) (ar.set m (x' % rd s (m : Int))) = dloop s s.length x (List.replicate 8 0)) := ⟨HD.out⟩
      clear HD
      generalize rd s (m : Int) = q at *
      have hc0 : wr.cell? ⟨w.heap.size, 0, none⟩ = some (.slice (some ad) s.length c) := blk_cell B0.out 0
      have hc2 := cell8 B2.out (i := m) (by have := hal.out; omega)
      have hf2 := blk_frozen B2.out m
      go_wp2
      go_roundw
      case rel =>
        refine ⟨m, (m : Int) - 1, x' / q, ar.set m (x' % q), by omega, ⟨rfl⟩, rfl, rfl, b4, b5, ⟨by simpa using hal.out⟩, HQ, ⟨blk_far B0.out (by simp; omega) _⟩, ⟨blk_far B1.out (by simp) _⟩, ⟨blk_set8 B2.out _ _⟩, ⟨below_set HB.out (by omega)⟩⟩
      case measure => simp [intOf]
theorem idx8 (v0 v1 v2 v3 v4 v5 v6 v7 : Value) (w : World) :
    (Instr.index 66 (.agg #[v0, v1, v2, v3, v4, v5, v6, v7]) (.int .i64 0)).run Tryz.prog w = .ok v0 w ∧ (Instr.index 66 (.agg #[v0, v1, v2, v3, v4, v5, v6, v7]) (.int .i64 1)).run Tryz.prog w = .ok v1 w ∧ (Instr.index 66 (.agg #[v0, v1, v2, v3, v4, v5, v6, v7]) (.int .i64 2)).run Tryz.prog w = .ok v2 w ∧ (Instr.index 66 (.agg #[v0, v1, v2, v3, v4, v5, v6, v7]) (.int .i64 3)).run Tryz.prog w = .ok v3 w ∧ (Instr.index 66 (.agg #[v0, v1, v2, v3, v4, v5, v6, v7]) (.int .i64 4)).run Tryz.prog w = .ok v4 w ∧ (Instr.index 66 (.agg #[v0, v1, v2, v3, v4, v5, v6, v7]) (.int .i64 5)).run Tryz.prog w = .ok v5 w ∧ (Instr.index 66 (.agg #[v0, v1, v2, v3, v4, v5, v6, v7]) (.int .i64 6)).run Tryz.prog w = .ok v6 w ∧ (Instr.index 66 (.agg #[v0, v1, v2, v3, v4, v5, v6, v7]) (.int .i64 7)).run Tryz.prog w = .ok v7 w :=
  ⟨by kernel_rfl, by kernel_rfl, by kernel_rfl, by kernel_rfl, by kernel_rfl, by kernel_rfl, by kernel_rfl, by kernel_rfl⟩
theorem ham_snoc : ∀ (a b : List Int) (x y : Int), a.length = b.length → ham (a ++ [x]) (b ++ [y]) = ham a b + if x = y then 0 else 1
  | [], [], x, y, _ => by simp [ham]
  | p :: a, q :: b, x, y, h => by
    simp only [List.cons_append, ham]
    rw [ham_snoc a b x y (by simpa using h)]
    omega
  | [], _ :: _, _, _, h => by simp at h
  | _ :: _, [], _, _, h => by simp at h
set_option maxHeartbeats 4000000 in
set_option maxRecDepth 100000 in
theorem far_calls8 (a0 a1 a2 a3 a4 a5 a6 a7 b0 b1 b2 b3 b4 b5 b6 b7 : Int) (w : World) :
    Calls Tryz.prog 48 #[.agg #[.int .u8 a0, .int .u8 a1, .int .u8 a2, .int .u8 a3, .int .u8 a4, .int .u8 a5, .int .u8 a6, .int .u8 a7], .agg #[.int .u8 b0, .int .u8 b1, .int .u8 b2, .int .u8 b3, .int .u8 b4, .int .u8 b5, .int .u8 b6, .int .u8 b7]] w
      fun e w' => e = .returned (.int .i64 (ham [a0, a1, a2, a3, a4, a5, a6, a7] [b0, b1, b2, b3, b4, b5, b6, b7])) ∧ Below w.heap.size w w' := by
  have huD := Tryz.underlying66
  go_enter Tryz.func48, Tryz.ntmps48
  go_wp2
  go_loop [5, 9] (fun t i => ∃ k : Nat, k ≤ 8 ∧ i = .int .i64 k ∧ ∃ x : Int, 0 ≤ x ∧ x ≤ k ∧ t = .int .i64 x ∧ Aside0 (x = ham ([a0, a1, a2, a3, a4, a5, a6, a7].take k) ([b0, b1, b2, b3, b4, b5, b6, b7].take k))) (fun _ i => 8 - (intOf i).toNat)
  case atStart => exact ⟨0, by omega, rfl, 0, by omega, by omega, rfl, ⟨rfl⟩⟩
  case round =>
    obtain ⟨k, hk, rfl, x, hx0, hx1, rfl, HX⟩ := hrel
    obtain ⟨i0, i1, i2, i3, i4, i5, i6, i7⟩ := idx8 (.int .u8 a0) (.int .u8 a1) (.int .u8 a2) (.int .u8 a3) (.int .u8 a4) (.int .u8 a5) (.int .u8 a6) (.int .u8 a7) ((w.alloc (.cells #[.int .u8 a0, .int .u8 a1, .int .u8 a2, .int .u8 a3, .int .u8 a4, .int .u8 a5, .int .u8 a6, .int .u8 a7] 66)).alloc (.cells #[.int .u8 b0, .int .u8 b1, .int .u8 b2, .int .u8 b3, .int .u8 b4, .int .u8 b5, .int .u8 b6, .int .u8 b7] 66))
    rcases (show k = 0 ∨ k = 1 ∨ k = 2 ∨ k = 3 ∨ k = 4 ∨ k = 5 ∨ k = 6 ∨ k = 7 ∨ k = 8 by omega) with rfl | rfl | rfl | rfl | rfl | rfl | rfl | rfl | rfl
    · go_wp2
      all_goals
        go_round
        case rel => exact ⟨1, by omega, by rfl, _, by omega, by omega, rfl, ⟨by
          have hs := ham_snoc [] [] a0 b0 rfl
          have e := HX.out
          first
            | (have t : (a0 != b0) = true := by assumption
               rw [if_neg (by simpa using t)] at hs
               exact (congrArg (· + 1) e).trans hs.symm)
            | (have t : (a0 != b0) = false := by assumption
               rw [if_pos (by simpa using t), Int.add_zero] at hs
               exact e.trans hs.symm)⟩⟩
        case measure => simp [intOf]
    · go_wp2
      all_goals
        go_round
        case rel => exact ⟨2, by omega, by rfl, _, by omega, by omega, rfl, ⟨by
          have hs := ham_snoc [a0] [b0] a1 b1 rfl
          have e := HX.out
          first
            | (have t : (a1 != b1) = true := by assumption
               rw [if_neg (by simpa using t)] at hs
               exact (congrArg (· + 1) e).trans hs.symm)
            | (have t : (a1 != b1) = false := by assumption
               rw [if_pos (by simpa using t), Int.add_zero] at hs
               exact e.trans hs.symm)⟩⟩
        case measure => simp [intOf]
    · go_wp2
      all_goals
        go_round
        case rel => exact ⟨3, by omega, by rfl, _, by omega, by omega, rfl, ⟨by
          have hs := ham_snoc [a0, a1] [b0, b1] a2 b2 rfl
          have e := HX.out
          first
            | (have t : (a2 != b2) = true := by assumption
               rw [if_neg (by simpa using t)] at hs
               exact (congrArg (· + 1) e).trans hs.symm)
            | (have t : (a2 != b2) = false := by assumption
               rw [if_pos (by simpa using t), Int.add_zero] at hs
               exact e.trans hs.symm)⟩⟩
        case measure => simp [intOf]
    · go_wp2
      all_goals
        go_round
        case rel => exact ⟨4, by omega, by rfl, _, by omega, by omega, rfl, ⟨by
          have hs := ham_snoc [a0, a1, a2] [b0, b1, b2] a3 b3 rfl
          have e := HX.out
          first
            | (have t : (a3 != b3) = true := by assumption
               rw [if_neg (by simpa using t)] at hs
               exact (congrArg (· + 1) e).trans hs.symm)
            | (have t : (a3 != b3) = false := by assumption
               rw [if_pos (by simpa using t), Int.add_zero] at hs
               exact e.trans hs.symm)⟩⟩
        case measure => simp [intOf]
    · go_wp2
      all_goals
        go_round
        case rel => exact ⟨5, by omega, by rfl, _, by omega, by omega, rfl, ⟨by
          have hs := ham_snoc [a0, a1, a2, a3] [b0, b1, b2, b3] a4 b4 rfl
          have e := HX.out
          first
            | (have t : (a4 != b4) = true := by assumption
               rw [if_neg (by simpa using t)] at hs
               exact (congrArg (· + 1) e).trans hs.symm)
            | (have t : (a4 != b4) = false := by assumption
               rw [if_pos (by simpa using t), Int.add_zero] at hs
               exact e.trans hs.symm)⟩⟩
        case measure => simp [intOf]
    · go_wp2
      all_goals
        go_round
        case rel => exact ⟨6, by omega, by rfl, _, by omega, by omega, rfl, ⟨by
          have hs := ham_snoc [a0, a1, a2, a3, a4] [b0, b1, b2, b3, b4] a5 b5 rfl
          have e := HX.out
          first
            | (have t : (a5 != b5) = true := by assumption
               rw [if_neg (by simpa using t)] at hs
               exact (congrArg (· + 1) e).trans hs.symm)
            | (have t : (a5 != b5) = false := by assumption
               rw [if_pos (by simpa using t), Int.add_zero] at hs
               exact e.trans hs.symm)⟩⟩
        case measure => simp [intOf]
    · go_wp2
      all_goals
        go_round
        case rel => exact ⟨7, by omega, by rfl, _, by omega, by omega, rfl, ⟨by
          have hs := ham_snoc [a0, a1, a2, a3, a4, a5] [b0, b1, b2, b3, b4, b5] a6 b6 rfl
          have e := HX.out
          first
            | (have t : (a6 != b6) = true := by assumption
               rw [if_neg (by simpa using t)] at hs
               exact (congrArg (· + 1) e).trans hs.symm)
            | (have t : (a6 != b6) = false := by assumption
               rw [if_pos (by simpa using t), Int.add_zero] at hs
               exact e.trans hs.symm)⟩⟩
        case measure => simp [intOf]
    · go_wp2
      all_goals
        go_round
        case rel => exact ⟨8, by omega, by rfl, _, by omega, by omega, rfl, ⟨by
          have hs := ham_snoc [a0, a1, a2, a3, a4, a5, a6] [b0, b1, b2, b3, b4, b5, b6] a7 b7 rfl
          have e := HX.out
          first
            | (have t : (a7 != b7) = true := by assumption
               rw [if_neg (by simpa using t)] at hs
               exact (congrArg (· + 1) e).trans hs.symm)
            | (have t : (a7 != b7) = false := by assumption
               rw [if_pos (by simpa using t), Int.add_zero] at hs
               exact e.trans hs.symm)⟩⟩
        case measure => simp [intOf]
    · go_wp2
      go_ret
      refine ⟨?_, ((Below.refl _ _).alloc (Nat.le_refl _) _).alloc (by simp) _⟩
      have e := HX.out
      rw [e]
      rfl
theorem eight {l : List Int} (h : l.length = 8) : ∃ y0 y1 y2 y3 y4 y5 y6 y7 : Int, l = [y0, y1, y2, y3, y4, y5, y6, y7] := by
  match l, h with
  | [y0, y1, y2, y3, y4, y5, y6, y7], _ => exact ⟨y0, y1, y2, y3, y4, y5, y6, y7, rfl⟩
theorem dloop_length (s : List Int) : ∀ (n : Nat) (x : Int) (ar : List Int), (dloop s n x ar).length = ar.length
  | 0, _, _ => rfl
  | n + 1, x, ar => by simp [dloop, dloop_length s n]
def dig8 (s : List Int) (x : Int) : List Int := dloop s s.length x (List.replicate 8 0)
theorem dig8_length (s : List Int) (x : Int) : (dig8 s x).length = 8 := by simp [dig8, dloop_length]
def KS (g : Nat) (v : Value) (w w' : World) : Prop := w'.cell? ⟨g, 0, none⟩ = some v ∧ Below w.heap.size w w'
theorem KS.step {g : Nat} {v : Value} {w W w' : World} (h : KS g v w W) (hb : Below W.heap.size W w') : KS g v w w' :=
  ⟨pw_cell_below hb h.1, below_then h.2 h.2.size hb⟩
theorem keepS {g : Nat} {v : Value} {w W w' : World} (hb : Below W.heap.size W w') (h : W.cell? ⟨g, 0, none⟩ = some v ∧ Below w.heap.size w W) : w'.cell? ⟨g, 0, none⟩ = some v ∧ Below w.heap.size w w' :=
  ⟨pw_cell_below hb h.1, below_then h.2 h.2.size hb⟩
theorem inR_rd : ∀ (s d : List Int) (k : Nat), inR s d = true → k < s.length → k < d.length → 0 ≤ rd d (k : Int) ∧ rd d (k : Int) < rd s (k : Int)
  | [], _, _, _, h, _ => by simp at h
  | _ :: _, [], _, _, _, h => by simp at h
  | q :: s, x :: d, 0, hr, _, _ => by
    simp only [inR, Bool.and_eq_true, decide_eq_true_eq] at hr
    simpa [rd] using hr.1
  | q :: s, x :: d, k + 1, hr, h1, h2 => by
    simp only [inR, Bool.and_eq_true, decide_eq_true_eq] at hr
    have := inR_rd s d k hr.2 (by simpa using h1) (by simpa using h2)
    have e1 : rd (x :: d) ((k + 1 : Nat) : Int) = rd d (k : Int) := by simp only [rd, Int.toNat_natCast]; rfl
    have e2 : rd (q :: s) ((k + 1 : Nat) : Int) = rd s (k : Int) := by simp only [rd, Int.toNat_natCast]; rfl
    rw [e1, e2]
    exact this
theorem drop_rd (s : List Int) {n : Nat} (h : n < s.length) : s.drop n = rd s (n : Int) :: s.drop (n + 1) := by
  rw [List.drop_eq_getElem_cons h]
  simp [rd, List.getD_eq_getElem?_getD, h]
theorem word_step {s d : List Int} (hs : s.all sizeOk = true) (hl : s.length ≤ 8) (hd : s.length ≤ d.length) (hr : inR s d = true) {k : Nat} (hk : k < s.length) {a : Int} (h0 : 0 ≤ a) (h1 : a + 1 ≤ 4 ^ k) :
    2 ≤ rd s (k : Int) ∧ rd s (k : Int) ≤ 4 ∧ 0 ≤ rd d (k : Int) ∧ rd d (k : Int) ≤ 3 ∧ 0 ≤ a * rd s (k : Int) ∧ a * rd s (k : Int) ≤ 65536 ∧ a * rd s (k : Int) + rd d (k : Int) + 1 ≤ 4 ^ (k + 1) ∧ hor a (s.drop k) (d.drop k) = hor (a * rd s (k : Int) + rd d (k : Int)) (s.drop (k + 1)) (d.drop (k + 1)) := by
  have hq : sizeOk (rd s (k : Int)) = true := by
    have : rd s (k : Int) = s[k] := by simp [rd, List.getD_eq_getElem?_getD, hk]
    rw [this]
    exact List.all_eq_true.1 hs _ (List.getElem_mem hk)
  obtain ⟨r0, r1⟩ := inR_rd s d k hr hk (by omega)
  have hb := pow48 (m := k + 1) (by omega)
  rw [drop_rd s hk, drop_rd d (by omega)]
  simp only [hor]
  rw [Int.pow_succ] at hb ⊢
  rcases (sizeOk_iff _).1 hq with e | e | e <;> rw [e] at r1 ⊢ <;> refine ⟨by omega, by omega, by omega, by omega, by omega, by omega, by omega, by first | trivial | rfl⟩
set_option maxHeartbeats 4000000 in
set_option maxRecDepth 100000 in
theorem wordOf_calls (A : Option Addr) (c : Nat) (s d : List Int) (w : World) (hr : Kd.C (Kd.int .i64) w A s.length s) (hc : s.length ≤ c) (hs : isSp s = true) (hd : d.length = 8) (hin : inR s d = true) :
    Calls Tryz.prog 63 #[.agg #[.slice A s.length c], arr8 d] w
      fun e w' => e = .returned (.int .i64 (hor 0 s d)) ∧ Below w.heap.size w w' := by
  have huS := Tryz.underlying26
  have huD := Tryz.underlying66
  have HR := Aside0.mk hr
  have HS := Aside0.mk (isSp_all hs)
  have hl := isSp_len hs
  have HD := Aside0.mk hd
  have HI := Aside0.mk hin
  clear hr hs hd hin
  unfold arr8
  go_enter Tryz.func63, Tryz.ntmps63
  go_wp2
  have HB : Aside0 (Below w.heap.size w ((w.alloc (.cells #[.slice A s.length c] 26)).alloc (.cells (nums .u8 d).toArray 66))) := ⟨((Below.refl _ _).alloc (Nat.le_refl _) _).alloc (by simp) _⟩
  have BD : Aside0 (((w.alloc (.cells #[.slice A s.length c] 26)).alloc (.cells (nums .u8 d).toArray 66)).heap[w.heap.size + 1]? = some (.cells (nums .u8 d).toArray 66)) := ⟨by simpa using blk_new (w.alloc (.cells #[.slice A s.length c] 26)) (.cells (nums .u8 d).toArray 66)⟩
  generalize (w.alloc (.cells #[.slice A s.length c] 26)).alloc (.cells (nums .u8 d).toArray 66) = W at *
  go_loop [5, 11] (fun t i => ∃ (k : Nat) (a : Int), k ≤ s.length ∧ i = .int .i64 k ∧ t = .int .i64 a ∧ 0 ≤ a ∧ Aside0 (a + 1 ≤ 4 ^ k) ∧ Aside0 (hor a (s.drop k) (d.drop k) = hor 0 s d)) (fun _ i => s.length - (intOf i).toNat)
  case atStart => exact ⟨0, 0, by omega, rfl, rfl, by omega, ⟨by simp⟩, ⟨by simp⟩⟩
  case round =>
    obtain ⟨k, a, hk, rfl, rfl, g0, G1, G2⟩ := hrel
    by_cases hlt : k < s.length
    · obtain ⟨ad, e, _⟩ := Kd.at_int HR.out (k : Int) (by omega) (by omega)
      subst e
      have hx := rd_cell HR.out HB.out k (by omega)
      have hy := cell8 BD.out (i := k) (by have := HD.out; omega)
      obtain ⟨b0, b1, b2, b3, b4, b5, b6, b7⟩ := word_step HS.out hl (by have := HD.out; omega) HI.out hlt g0 G1.out
      have B6 := Aside0.mk b6
      have B7 := Aside0.mk b7
      clear b6 b7
      generalize rd s (k : Int) = q at *
      generalize rd d (k : Int) = x at *
      go_wp2
      go_round
      case rel => exact ⟨k + 1, a * q + x, by omega, by go_num, rfl, by omega, B6, ⟨B7.out.symm.trans G2.out⟩⟩
      case measure => simp [intOf]; omega
    · go_wp2
      go_ret
      refine ⟨?_, HB.out⟩
      have e := G2.out
      rw [List.drop_eq_nil_of_le (show s.length ≤ k by omega)] at e
      simp only [hor] at e
      exact congrArg (fun z => Ending.returned (Value.int .i64 z)) e
end Go.Proofs.YtnkndaapamenmaaGreat.P
namespace Go.Proofs.YtnkndaapamenmaaGreat.P
open Go.RowKit Go.Proofs.YtnkndaapamenmaaGreatW.PrintWords Go.Proofs.YtnkndaapamenmaaGreatW.PrintLast Go.Proofs.YtnkndaapamenmaaGreatW.PrintMore
attribute [local go_sem] max2_int min2_int max_two min_two max_three min_three max_four min_four
set_option linter.unusedVariables false
set_option linter.unusedSimpArgs false
def slices_Index_int64_int64.l0 : Nat → List Int → Int → Int → Int → Option (Int)
  | 0, _, _, _, _ => none
  | k + 1, x0, x1, x7, x8 => if x8 < x7 then (if 0 ≤ x8 then (if x8 < (x0.length : Int) then (if x1 = (rd x0 x8) then (some x8) else (slices_Index_int64_int64.l0 k x0 x1 x7 (wrap64 (x8 + 1)))) else (none)) else (none)) else (some (-1))
def slices_Index_int64_int64.f (k : Nat) (l0 : List Int) (a1 : Int) : Option (Int) := slices_Index_int64_int64.l0 k l0 a1 (l0.length : Int) 0
set_option maxHeartbeats 8000000 in
set_option maxRecDepth 100000 in
theorem slices_Index_int64_int64.calls (k : Nat) (A0 : Option Addr) (c0 : Nat) (l0 : List Int) (a1 : Int) (r : Int) (w : World) (hr0 : Kd.C (Kd.int .i64) w A0 l0.length l0) (hc0 : l0.length ≤ c0) (h : slices_Index_int64_int64.f k l0 a1 = some r) :
  Calls Tryz.prog 85 #[.slice A0 l0.length c0, .int .i64 a1] w fun e w' => e = .returned (.int .i64 r) ∧ Drawn0 w w' := by
 have HR0 := Aside0.mk hr0
 have HC0 := Aside0.mk hc0
 clear hr0 hc0
 have H := h
 clear h
 unfold slices_Index_int64_int64.f at H
 have H' := Aside0.mk H
 clear H
 go_enter Tryz.func85, Tryz.ntmps85
 go_wp2
 go_loopg [8] k (fun kq v8 w' => ∃ (x8_1 : Int), v8 = .int .i64 x8_1 ∧ Aside0 (slices_Index_int64_int64.l0 kq l0 a1 (l0.length : Int) x8_1 = some r) ∧ Aside0 (kq ≤ k) ∧ Drawn0 w w')
 case atStart => exact ⟨(0), t2_, H', ⟨Nat.le_refl _⟩, by repeat (first | exact Drawn0.refl _ | apply Drawn0.step)⟩
 clear H'
 try clear p2
 obtain ⟨x8_1, rfl, HA, HK1, ⟨m1, rfl⟩⟩ := hrel
 obtain _ | k1 := gk
 ·exact absurd HA.out (by simp [slices_Index_int64_int64.l0])
 have H := HA.out
 clear HA
 simp only [slices_Index_int64_int64.l0] at H
 replace H := ie_ H
 obtain ⟨c3b0, H⟩ | ⟨c3b0, H⟩ := H
 ·obtain rfl := Option.some.inj H
  go_wp2
  go_ret
  exact ⟨by first | rfl | (simp; done) | (simp [*]; done), by repeat (first | exact Drawn0.refl _ | apply Drawn0.step)⟩

 replace H := id_ H
 obtain ⟨c4b0, H⟩ := H
 replace H := id_ H
 obtain ⟨c5b0, H⟩ := H
 by_cases c6 : a1 = (rd l0 x8_1)
 ·rw [if_pos c6] at H
  have c6b0 : (a1 == (rd l0 x8_1)) = true := beq_iff_eq.mpr c6
  have c6b1 : (a1 != (rd l0 x8_1)) = false := bne_eq_false_iff_eq.mpr c6
  clear c6
  obtain rfl := Option.some.inj H
  have p101 : 0 ≤ (x8_1 : Int) := of_decide_eq_true t6_
  have q101 : x8_1 < (l0.length : Int) := of_decide_eq_true t6_
  obtain ⟨ad101, e101, hx101_0⟩ := Kd.at_int HR0.out x8_1 p101 q101
  cases e101
  replace p101 := eq_true p101
  replace q101 := eq_true q101
  go_wp2
  go_ret
  exact ⟨by first | rfl | (simp; done) | (simp [*]; done), by repeat (first | exact Drawn0.refl _ | apply Drawn0.step)⟩
 rw [if_neg c6] at H
 have c6b0 : (a1 == (rd l0 x8_1)) = false := beq_eq_false_iff_ne.mpr c6
 have c6b1 : (a1 != (rd l0 x8_1)) = true := bne_iff_ne.mpr c6
 have H' := Aside0.mk H
 clear H
 have p101 : 0 ≤ (x8_1 : Int) := of_decide_eq_true t6_
 have q101 : x8_1 < (l0.length : Int) := of_decide_eq_true t6_
 obtain ⟨ad101, e101, hx101_0⟩ := Kd.at_int HR0.out x8_1 p101 q101
 cases e101
 replace p101 := eq_true p101
 replace q101 := eq_true q101
 go_wp2
 go_roundg k1
 case measure => have := HK1.out; omega
 case rel => exact ⟨(wrap64 (x8_1 + 1)), t2_, H', ⟨by have := HK1.out; omega⟩, by repeat (first | exact Drawn0.refl _ | apply Drawn0.step)⟩
def spec_l03Before.l0 : Nat → List Int → List Int → Int → Int → Option (Bool)
  | 0, _, _, _, _ => none
  | k + 1, x0, x1, x7, x8 => if x8 < x7 then (if 0 ≤ x8 then (if x8 < (x0.length : Int) then (if x8 < (x1.length : Int) then (if (rd x0 x8) = (rd x1 x8) then (spec_l03Before.l0 k x0 x1 x7 (wrap64 (x8 + 1))) else (some (decide ((rd x0 x8) < (rd x1 x8))))) else (none)) else (none)) else (none)) else (some false)
def spec_l03Before.f (k : Nat) (l0 : List Int) (l1 : List Int) : Option (Bool) := spec_l03Before.l0 k l0 l1 (l0.length : Int) 0
set_option maxHeartbeats 8000000 in
set_option maxRecDepth 100000 in
theorem spec_l03Before.calls (k : Nat) (A0 : Option Addr) (c0 : Nat) (l0 : List Int) (A1 : Option Addr) (c1 : Nat) (l1 : List Int) (r : Bool) (w : World) (hr0 : Kd.C (Kd.int .i64) w A0 l0.length l0) (hc0 : l0.length ≤ c0) (hr1 : Kd.C (Kd.int .i64) w A1 l1.length l1) (hc1 : l1.length ≤ c1) (h : spec_l03Before.f k l0 l1 = some r) :
  Calls Tryz.prog 25 #[.slice A0 l0.length c0, .slice A1 l1.length c1] w fun e w' => e = .returned (.bool r) ∧ Drawn0 w w' := by
 have HR0 := Aside0.mk hr0
 have HC0 := Aside0.mk hc0
 clear hr0 hc0
 have HR1 := Aside0.mk hr1
 have HC1 := Aside0.mk hc1
 clear hr1 hc1
 have H := h
 clear h
 unfold spec_l03Before.f at H
 have H' := Aside0.mk H
 clear H
 go_enter Tryz.func25, Tryz.ntmps25
 go_wp2
 repeat (go_quiet (fail); try go_wp2)
 go_loopg [8] k (fun kq v8 w' => ∃ (x8_1 : Int), v8 = .int .i64 x8_1 ∧ Aside0 (spec_l03Before.l0 kq l0 l1 (l0.length : Int) x8_1 = some r) ∧ Aside0 (kq ≤ k) ∧ Drawn0 w w')
 case atStart => exact ⟨(0), t2_, H', ⟨Nat.le_refl _⟩, by repeat (first | exact Drawn0.refl _ | apply Drawn0.step)⟩
 clear H'
 try clear c1
 try clear c2
 try clear p2
 obtain ⟨x8_1, rfl, HA, HK1, ⟨m1, rfl⟩⟩ := hrel
 obtain _ | k1 := gk
 ·exact absurd HA.out (by simp [spec_l03Before.l0])
 have H := HA.out
 clear HA
 simp only [spec_l03Before.l0] at H
 replace H := ie_ H
 obtain ⟨c3b0, H⟩ | ⟨c3b0, H⟩ := H
 ·obtain rfl := Option.some.inj H
  go_wp2
  repeat (go_quiet (fail); try go_wp2)
  go_ret
  exact ⟨by first | rfl | (simp; done) | (simp [*]; done), by repeat (first | exact Drawn0.refl _ | apply Drawn0.step)⟩

 replace H := id_ H
 obtain ⟨c4b0, H⟩ := H
 replace H := id_ H
 obtain ⟨c5b0, H⟩ := H
 replace H := id_ H
 obtain ⟨c6b0, H⟩ := H
 by_cases c7 : (rd l0 x8_1) = (rd l1 x8_1)
 ·rw [if_pos c7] at H
  have c7b0 : ((rd l0 x8_1) == (rd l1 x8_1)) = true := beq_iff_eq.mpr c7
  have c7b1 : ((rd l0 x8_1) != (rd l1 x8_1)) = false := bne_eq_false_iff_eq.mpr c7
  clear c7
  have H' := Aside0.mk H
  clear H
  have p101 : 0 ≤ (x8_1 : Int) := of_decide_eq_true t6_
  have q101 : x8_1 < (l0.length : Int) := of_decide_eq_true t6_
  obtain ⟨ad101, e101, hx101_0⟩ := Kd.at_int HR0.out x8_1 p101 q101
  cases e101
  replace p101 := eq_true p101
  replace q101 := eq_true q101
  have p102 : 0 ≤ (x8_1 : Int) := of_decide_eq_true t6_
  have q102 : x8_1 < (l1.length : Int) := of_decide_eq_true t6_
  obtain ⟨ad102, e102, hx102_0⟩ := Kd.at_int HR1.out x8_1 p102 q102
  cases e102
  replace p102 := eq_true p102
  replace q102 := eq_true q102
  go_wp2
  repeat (go_quiet (fail); try go_wp2)
  go_roundg k1
  case measure => have := HK1.out; omega
  case rel => exact ⟨(wrap64 (x8_1 + 1)), t2_, H', ⟨by have := HK1.out; omega⟩, by repeat (first | exact Drawn0.refl _ | apply Drawn0.step)⟩
 rw [if_neg c7] at H
 have c7b0 : ((rd l0 x8_1) == (rd l1 x8_1)) = false := beq_eq_false_iff_ne.mpr c7
 have c7b1 : ((rd l0 x8_1) != (rd l1 x8_1)) = true := bne_iff_ne.mpr c7
 obtain rfl := Option.some.inj H
 have p101 : 0 ≤ (x8_1 : Int) := of_decide_eq_true t6_
 have q101 : x8_1 < (l0.length : Int) := of_decide_eq_true t6_
 obtain ⟨ad101, e101, hx101_0⟩ := Kd.at_int HR0.out x8_1 p101 q101
 cases e101
 replace p101 := eq_true p101
 replace q101 := eq_true q101
 have p102 : 0 ≤ (x8_1 : Int) := of_decide_eq_true t6_
 have q102 : x8_1 < (l1.length : Int) := of_decide_eq_true t6_
 obtain ⟨ad102, e102, hx102_0⟩ := Kd.at_int HR1.out x8_1 p102 q102
 cases e102
 replace p102 := eq_true p102
 replace q102 := eq_true q102
 have p103 : 0 ≤ (x8_1 : Int) := of_decide_eq_true t6_
 have q103 : x8_1 < (l0.length : Int) := of_decide_eq_true t6_
 obtain ⟨ad103, e103, hx103_0⟩ := Kd.at_int HR0.out x8_1 p103 q103
 obtain rfl : ad101 = ad103 := (by injection e103)
 replace p103 := eq_true p103
 replace q103 := eq_true q103
 have p104 : 0 ≤ (x8_1 : Int) := of_decide_eq_true t6_
 have q104 : x8_1 < (l1.length : Int) := of_decide_eq_true t6_
 obtain ⟨ad104, e104, hx104_0⟩ := Kd.at_int HR1.out x8_1 p104 q104
 obtain rfl : ad102 = ad104 := (by injection e104)
 replace p104 := eq_true p104
 replace q104 := eq_true q104
 go_wp2
 repeat (go_quiet (fail); try go_wp2)
 go_ret
 exact ⟨by first | rfl | (simp; done) | (simp [*]; done), by repeat (first | exact Drawn0.refl _ | apply Drawn0.step)⟩
def spec_l01Has.l0 : Nat → List Int → Int → Int → Option (Bool)
  | 0, _, _, _ => none
  | k + 1, x0, x1, x5 => if x5 < (x0.length : Int) then (if 0 ≤ x5 then (if (rd x0 x5) = x1 then (some true) else (spec_l01Has.l0 k x0 x1 (wrap64 (x5 + 1)))) else (none)) else (some false)
def spec_l01Has.f (k : Nat) (l0 : List Int) (a1 : Int) : Option (Bool) := spec_l01Has.l0 k l0 a1 0
set_option maxHeartbeats 8000000 in
set_option maxRecDepth 100000 in
theorem spec_l01Has.calls (k : Nat) (A0 : Option Addr) (c0 : Nat) (l0 : List Int) (a1 : Int) (r : Bool) (w : World) (hr0 : Kd.C (Kd.int .i64) w A0 l0.length l0) (hc0 : l0.length ≤ c0) (h : spec_l01Has.f k l0 a1 = some r) :
  Calls Tryz.prog 41 #[.slice A0 l0.length c0, .int .i64 a1] w fun e w' => e = .returned (.bool r) ∧ Drawn0 w w' := by
 have HR0 := Aside0.mk hr0
 have HC0 := Aside0.mk hc0
 clear hr0 hc0
 have H := h
 clear h
 unfold spec_l01Has.f at H
 have H' := Aside0.mk H
 clear H
 go_enter Tryz.func41, Tryz.ntmps41
 go_wp2
 go_loopg [5] k (fun kq v5 w' => ∃ (x5_1 : Int), v5 = .int .i64 x5_1 ∧ Aside0 (spec_l01Has.l0 kq l0 a1 x5_1 = some r) ∧ Aside0 (kq ≤ k) ∧ Drawn0 w w')
 case atStart => exact ⟨(0), t2_, H', ⟨Nat.le_refl _⟩, by repeat (first | exact Drawn0.refl _ | apply Drawn0.step)⟩
 clear H'
 try clear p2
 obtain ⟨x5_1, rfl, HA, HK1, ⟨m1, rfl⟩⟩ := hrel
 obtain _ | k1 := gk
 ·exact absurd HA.out (by simp [spec_l01Has.l0])
 have H := HA.out
 clear HA
 simp only [spec_l01Has.l0] at H
 replace H := ie_ H
 obtain ⟨c3b0, H⟩ | ⟨c3b0, H⟩ := H
 ·obtain rfl := Option.some.inj H
  go_wp2
  go_ret
  exact ⟨by first | rfl | (simp; done) | (simp [*]; done), by repeat (first | exact Drawn0.refl _ | apply Drawn0.step)⟩

 replace H := id_ H
 obtain ⟨c4b0, H⟩ := H
 by_cases c5 : (rd l0 x5_1) = a1
 ·rw [if_pos c5] at H
  have c5b0 : ((rd l0 x5_1) == a1) = true := beq_iff_eq.mpr c5
  have c5b1 : ((rd l0 x5_1) != a1) = false := bne_eq_false_iff_eq.mpr c5
  clear c5
  obtain rfl := Option.some.inj H
  have p101 : 0 ≤ (x5_1 : Int) := of_decide_eq_true t6_
  have q101 : x5_1 < (l0.length : Int) := of_decide_eq_true t6_
  obtain ⟨ad101, e101, hx101_0⟩ := Kd.at_int HR0.out x5_1 p101 q101
  cases e101
  replace p101 := eq_true p101
  replace q101 := eq_true q101
  go_wp2
  go_ret
  exact ⟨by first | rfl | (simp; done) | (simp [*]; done), by repeat (first | exact Drawn0.refl _ | apply Drawn0.step)⟩
 rw [if_neg c5] at H
 have c5b0 : ((rd l0 x5_1) == a1) = false := beq_eq_false_iff_ne.mpr c5
 have c5b1 : ((rd l0 x5_1) != a1) = true := bne_iff_ne.mpr c5
 have H' := Aside0.mk H
 clear H
 have p101 : 0 ≤ (x5_1 : Int) := of_decide_eq_true t6_
 have q101 : x5_1 < (l0.length : Int) := of_decide_eq_true t6_
 obtain ⟨ad101, e101, hx101_0⟩ := Kd.at_int HR0.out x5_1 p101 q101
 cases e101
 replace p101 := eq_true p101
 replace q101 := eq_true q101
 go_wp2
 go_roundg k1
 case measure => have := HK1.out; omega
 case rel => exact ⟨(wrap64 (x5_1 + 1)), t2_, H', ⟨by have := HK1.out; omega⟩, by repeat (first | exact Drawn0.refl _ | apply Drawn0.step)⟩
def impl_places.f (l0_0 : List Int) : Option (Int) := some (l0_0.length : Int)
set_option maxHeartbeats 8000000 in
set_option maxRecDepth 100000 in
theorem impl_places.calls (A0_0 : Option Addr) (c0_0 : Nat) (l0_0 : List Int) (r : Int) (w : World) (hr0_0 : Kd.C (Kd.int .i64) w A0_0 l0_0.length l0_0) (hc0_0 : l0_0.length ≤ c0_0) (h : impl_places.f l0_0 = some r) :
  Calls Tryz.prog 46 #[.agg #[.slice A0_0 l0_0.length c0_0]] w fun e w' => e = .returned (.int .i64 r) ∧ Below w.heap.size w w' := by
 have hu26 := Tryz.underlying26
 have HR0_0 := Aside0.mk hr0_0
 have HC0_0 := Aside0.mk hc0_0
 clear hr0_0 hc0_0
 have HB := Aside0.mk (Below.refl w.heap.size w)
 have H := h
 clear h
 unfold impl_places.f at H
 obtain rfl := Option.some.inj H
 go_enter Tryz.func46, Tryz.ntmps46
 go_wp2_with (first | ((with_reducible refine gate_dst (N := 1) rfl ?_); refine bx_ (N := 1) (cs := #[.slice A0_0 l0_0.length c0_0]) (t := 26) rfl rfl ?_; intro gb101 hg w2 hbox hb; have BK101 := Aside0.mk (hbox); have GW101 := ge_ hg HB; have GE101 := ge_ hg HB; replace HB := b1_ HB hb; clear hb hbox hg; have hcz3_0 := hz_ BK101; have hfz3_0 := blk_frozen BK101.out 0))
 go_ret
 exact ⟨t5_, gb_ HB.out⟩
def spec_l01Next.f (s0_0 : List Int) (s0_1 : Int) (s0_2 : Int) (a1 : Int) : Option (Int × Int × Int) := if a1 < 1 then (some (0, s0_1, s0_2)) else (if s0_1 < (s0_0.length : Int) then (if 0 ≤ s0_1 then (if a1 = 0 then (none) else (some (Int.tmod (wrap64 ((wrap64 (Go.bits .and .u64 ((IntKind.u64.wrap ((IntKind.u64.wrap (s0_2 * 6364136223846793005)) + 1442695040888963407)) / 8589934592) 16777215)) + (wrap64 (rd s0_0 s0_1)))) a1, wrap64 (s0_1 + 1), IntKind.u64.wrap ((IntKind.u64.wrap (s0_2 * 6364136223846793005)) + 1442695040888963407)))) else (none)) else (if a1 = 0 then (none) else (some (Int.tmod (wrap64 (Go.bits .and .u64 ((IntKind.u64.wrap ((IntKind.u64.wrap (s0_2 * 6364136223846793005)) + 1442695040888963407)) / 8589934592) 16777215)) a1, s0_1, IntKind.u64.wrap ((IntKind.u64.wrap (s0_2 * 6364136223846793005)) + 1442695040888963407)))))
set_option maxHeartbeats 8000000 in
set_option maxRecDepth 100000 in
theorem spec_l01Next.calls (g : Nat) (s0_0 : List Int) (s0_1 : Int) (s0_2 : Int) (a1 : Int) (r1 : Int) (r2 : Int) (r3 : Int) (w0 w : World) (hI : IsS93 w0 w g s0_0 s0_1 s0_2) (hB : Below w0.heap.size w0 w) (h : spec_l01Next.f s0_0 s0_1 s0_2 a1 = some (r1, r2, r3)) :
  Calls Tryz.prog 52 #[.pointer (some ⟨g, 0, none⟩), .int .i64 a1] w fun e w' => e = .returned (.int .i64 r1) ∧ IsS93 w0 w' g s0_0 r2 r3 ∧ Below w0.heap.size w0 w' ∧ KeepBut w w' g none := by
 have HI0 := Aside0.mk hI
 have HK := Aside0.mk (KeepBut.refl w g none)
 have HL := Aside0.mk hB.size
 clear hI
 have HW0 := Aside0.mk hB.size
 have HB := Aside0.mk hB
 clear hB
 have H := h
 clear h
 unfold spec_l01Next.f at H
 by_cases c3 : a1 < 1
 ·rw [if_pos c3] at H
  have c3b0 := decide_eq_true c3
  clear c3
  simp only [Option.some.injEq, Prod.mk.injEq] at H
  obtain ⟨rfl, rfl, rfl⟩ := H
  go_enter Tryz.func52, Tryz.ntmps52
  go_wp2
  repeat (go_quiet (fail); try go_wp2)
  go_ret
  exact ⟨t5_, by repeat (first | (with_reducible first | exact HI0.out | apply IsS93.alloc | apply IsS93.drewN | apply IsS93.drew | apply IsS93.set_1 | apply IsS93.set_2) | exact HI0.out), by repeat (first | (with_reducible first | exact HB.out | apply below_alloc | apply pw_below_drewN | apply below_drew1 | refine below_set ?_ (IsS93.ge HI0.out)) | exact HB.out), by repeat (first | (with_reducible first | exact HK.out | apply KeepBut.set_ | apply keep_drewN | apply keep_drew | apply keep_alloc) | exact HK.out)⟩
 rw [if_neg c3] at H
 have c3b0 := decide_eq_false c3
 clear c3
 replace H := ie_ H
 obtain ⟨c4b0, H⟩ | ⟨c4b0, H⟩ := H
 ·by_cases c8 : a1 = 0
  ·rw [if_pos c8] at H
   exact absurd H (by simp)
  rw [if_neg c8] at H
  have c8b0 : (a1 == 0) = false := beq_eq_false_iff_ne.mpr c8
  have c8b1 : (a1 != 0) = true := bne_iff_ne.mpr c8
  simp only [Option.some.injEq, Prod.mk.injEq] at H
  obtain ⟨rfl, rfl, rfl⟩ := H
  obtain ⟨ASz9_0, cSz9_0, HGz9, hgz9, HSz9_0⟩ := HI0.out
  have hcz9_0 := cellS93_0 HGz9
  have hcz9_1 := cellS93_1 HGz9
  have hcz9_2 := cellS93_2 HGz9
  have hfz9_1 := blk_frozen HGz9 1
  have hfz9_2 := blk_frozen HGz9 2
  clear HGz9 hgz9
  go_enter Tryz.func52, Tryz.ntmps52
  go_wp2
  repeat (go_quiet (fail); try go_wp2)
  go_ret
  exact ⟨t5_, by repeat (first | (with_reducible first | exact HI0.out | apply IsS93.alloc | apply IsS93.drewN | apply IsS93.drew | apply IsS93.set_1 | apply IsS93.set_2) | exact HI0.out), by repeat (first | (with_reducible first | exact HB.out | apply below_alloc | apply pw_below_drewN | apply below_drew1 | refine below_set ?_ (IsS93.ge HI0.out)) | exact HB.out), by repeat (first | (with_reducible first | exact HK.out | apply KeepBut.set_ | apply keep_drewN | apply keep_drew | apply keep_alloc) | exact HK.out)⟩

 replace H := id_ H
 obtain ⟨c5b0, H⟩ := H
 by_cases c6 : a1 = 0
 ·rw [if_pos c6] at H
  exact absurd H (by simp)
 rw [if_neg c6] at H
 have c6b0 : (a1 == 0) = false := beq_eq_false_iff_ne.mpr c6
 have c6b1 : (a1 != 0) = true := bne_iff_ne.mpr c6
 simp only [Option.some.injEq, Prod.mk.injEq] at H
 obtain ⟨rfl, rfl, rfl⟩ := H
 obtain ⟨ASz7_0, cSz7_0, HGz7, hgz7, HSz7_0⟩ := HI0.out
 have hcz7_0 := cellS93_0 HGz7
 have hcz7_1 := cellS93_1 HGz7
 have hcz7_2 := cellS93_2 HGz7
 have hfz7_1 := blk_frozen HGz7 1
 have hfz7_2 := blk_frozen HGz7 2
 clear HGz7 hgz7
 have p101 : 0 ≤ (s0_1 : Int) := of_decide_eq_true t6_
 have q101 : s0_1 < (s0_0.length : Int) := of_decide_eq_true t6_
 obtain ⟨ad101, e101, hx101_0⟩ := Kd.at_int HSz7_0 s0_1 p101 q101
 cases e101
 have hn101_0 : ad101.block ≠ g := Nat.ne_of_lt (Nat.lt_of_lt_of_le (by have := World.block_lt_of_cell? _ _ hx101_0; first | rwa [add_block] at this | exact this) (IsS93.ge HI0.out))
 replace hx101_0 := pw_cell_below HB.out hx101_0
 replace hx101_0 := (cell_far (p := ⟨g, 2, none⟩) (by first | (rw [add_block]; exact hn101_0) | (show (Addr.add _ _).block ≠ _; rw [add_block]; exact hn101_0) | exact hn101_0) (.int .u64 (IntKind.u64.wrap ((IntKind.u64.wrap (s0_2 * 6364136223846793005)) + 1442695040888963407)))).trans hx101_0
 (try have hy101_0 := fun (n_ : Nat) => (show (((w.drewN n_).setCell ⟨g, 2, none⟩ (.int .u64 (IntKind.u64.wrap ((IntKind.u64.wrap (s0_2 * 6364136223846793005)) + 1442695040888963407))))).cell? _ = some _ from hx101_0))
 clear hn101_0
 replace p101 := eq_true p101
 replace q101 := eq_true q101
 go_enter Tryz.func52, Tryz.ntmps52
 go_wp2
 repeat (go_quiet (fail); try go_wp2)
 go_ret
 exact ⟨t5_, by repeat (first | (with_reducible first | exact HI0.out | apply IsS93.alloc | apply IsS93.drewN | apply IsS93.drew | apply IsS93.set_1 | apply IsS93.set_2) | exact HI0.out), by repeat (first | (with_reducible first | exact HB.out | apply below_alloc | apply pw_below_drewN | apply below_drew1 | refine below_set ?_ (IsS93.ge HI0.out)) | exact HB.out), by repeat (first | (with_reducible first | exact HK.out | apply KeepBut.set_ | apply keep_drewN | apply keep_drew | apply keep_alloc) | exact HK.out)⟩
def spec_l01From.l0 : Nat → List Int → Int → List Int → Int → Int → Option (List Int × Int × Int)
  | 0, _, _, _, _, _ => none
  | k + 1, x0, x4, x102000, x102001, x102002 => if x4 < (x0.length : Int) then (if x4 < 4096 then (if 0 ≤ x4 then (spec_l01From.l0 k x0 (wrap64 (x4 + 1)) x102000 x102001 (IntKind.u64.wrap ((IntKind.u64.wrap ((IntKind.u64.wrap (x102002 * 1099511628211)) + (IntKind.u64.wrap (rd x0 x4)))) + 251))) else (none)) else (some (x102000, x102001, x102002))) else (some (x102000, x102001, x102002))
def spec_l01From.f (k : Nat) (l0 : List Int) : Option (List Int × Int × Int) := spec_l01From.l0 k l0 0 l0 0 (IntKind.u64.wrap (14111 + (IntKind.u64.wrap ((l0.length : Int)))))
def spec_l01From.T5 : Bool × List (List Nat × List Nat) := (true, [([], []), ([], []), ([1], [1]), ([2], [2]), ([3], [3]), ([4], [4]), ([], []), ([], []), ([6, 7], [6, 7]), ([8], [8]), ([9], [9]), ([5, 10], [5, 10]), ([11], [11]), ([0, 0, 1, 2, 3, 4, 5, 6, 7, 8, 9, 10, 11, 12], [0]), ([13, 0, 1, 2, 3, 4, 5, 6, 7, 8, 9, 10, 11, 12], [13]), ([14, 12, 0, 1, 2, 3, 4, 5, 6, 7, 8, 9, 10, 11, 12], [12, 14])])
def spec_l01From.B5 : List Nat := [0, 0, 2, 6, 14, 30, 0, 0, 192, 448, 960, 2046, 4094, 8191, 16383, 32767]
theorem spec_l01From.tab5 : rtab .any (opsOf Tryz.f49 5) = spec_l01From.T5 := by kernel_rfl
theorem spec_l01From.bits5 : waitsOk spec_l01From.T5.2 spec_l01From.B5 = true := by kernel_rfl
set_option maxHeartbeats 8000000 in
set_option maxRecDepth 100000 in
theorem spec_l01From.callsN (k : Nat) (A0 : Option Addr) (c0 : Nat) (l0 : List Int) (r1 : List Int) (r2 : Int) (r3 : Int) (w0 w : World) (hB : Below w0.heap.size w0 w) (hr0 : Kd.C (Kd.int .u8) w0 A0 l0.length l0) (hc0 : l0.length ≤ c0) (h : spec_l01From.f k l0 = some (r1, r2, r3)) :
  Calls Tryz.prog 49 #[.slice A0 l0.length c0] w fun e w' => ∃ g_ : Nat, e = .returned (.pointer (some ⟨g_, 0, none⟩)) ∧ IsS93 w0 w' g_ r1 r2 r3 ∧ Below w0.heap.size w0 w' ∧ Below w.heap.size w w' ∧ w.heap.size ≤ g_ := by
 have hu93 := Tryz.underlying93
 have HR0 := Aside0.mk hr0
 have HC0 := Aside0.mk hc0
 clear hr0 hc0
 have HBW := Aside0.mk (Below.refl w.heap.size w)
 have HW0 := Aside0.mk hB.size
 have HB := Aside0.mk hB
 clear hB
 have H := h
 clear h
 unfold spec_l01From.f at H
 have H' := Aside0.mk H
 clear H
 go_enter Tryz.func49, Tryz.ntmps49
 go_wp2_with (first | ((with_reducible refine gate_dst (N := 11) rfl ?_); refine bx_ (N := 11) (cs := #[.slice A0 l0.length c0, .int .i64 0, .int .u64 (IntKind.u64.wrap (14111 + (IntKind.u64.wrap ((l0.length : Int)))))]) (t := 93) rfl rfl ?_; intro gb101 hg w2 hbox hb; have n0_ := Aside0.mk (below_step HBW.out hb); have n1_ := Aside0.mk (below_step (gb_ HB.out) hb); have n2_ := Aside0.mk (hbox); have n3_ := Aside0.mk ((by rw [hg]; exact (below_size (by repeat (first | (with_reducible first | exact HBW.out | apply below_alloc | apply pw_below_drewN | apply below_drew1) | exact HBW.out))) : w.heap.size ≤ gb101)); have n4_ := Aside0.mk ((Nat.le_trans HW0.out (by rw [hg]; exact (below_size (by repeat (first | (with_reducible first | exact HBW.out | apply below_alloc | apply pw_below_drewN | apply below_drew1) | exact HBW.out))) : w.heap.size ≤ gb101) : w0.heap.size ≤ gb101)); clear HBW HB; have HBW := n0_; have HB := n1_; have BK101 := n2_; have GW101 := n3_; have GE101 := n4_; clear n0_ n1_ n2_ n3_ n4_ hb hbox hg))
 go_loopg [4] k (fun kq v4 w' => ∃ (x4_1 : Int) (x102002_1 : Int), v4 = .int .i64 x4_1 ∧ Aside0 (spec_l01From.l0 kq l0 x4_1 l0 0 x102002_1 = some (r1, r2, r3)) ∧ Aside0 (kq ≤ k) ∧ Aside0 (w'.heap[gb101]? = some (.cells #[(.slice A0 l0.length c0), .int .i64 0, .int .u64 x102002_1] 93 (0, 0))) ∧ Aside0 (Below w0.heap.size w0 w') ∧ Aside0 (Below w.heap.size w w'))
 case atStart => exact ⟨(0), (IntKind.u64.wrap (14111 + (IntKind.u64.wrap ((l0.length : Int))))), t2_, H', ⟨Nat.le_refl _⟩, ⟨bb_ BK101.out⟩, ⟨gb_ HB.out⟩, ⟨by repeat (first | (with_reducible first | exact HBW.out | apply below_alloc | apply pw_below_drewN | apply below_drew1 | refine below_set ?_ GW101.out) | exact HBW.out)⟩⟩
 clear H'
 try clear p2
 obtain ⟨x4_1, x102002_1, rfl, HA, HK1, BK101, HB, HBW⟩ := hrel
 obtain _ | k1 := gk
 ·exact absurd HA.out (by simp [spec_l01From.l0])
 have H := HA.out
 clear HA
 simp only [spec_l01From.l0] at H
 replace H := ie_ H
 obtain ⟨c3b0, H⟩ | ⟨c3b0, H⟩ := H
 ·simp only [Option.some.injEq, Prod.mk.injEq] at H
  obtain ⟨rfl, rfl, rfl⟩ := H
  go_wp2
  go_ret
  exact ⟨_, rfl, (show IsS93 w0 _ gb101 l0 0 x102002_1 from ⟨_, _, bb_ BK101.out, GE101.out, HR0.out⟩), gb_ HB.out, by repeat (first | (with_reducible first | exact HBW.out | apply below_alloc | apply pw_below_drewN | apply below_drew1 | refine below_set ?_ GW101.out) | exact HBW.out), GW101.out⟩
 replace H := ie_ H
 obtain ⟨c4b0, H⟩ | ⟨c4b0, H⟩ := H
 ·simp only [Option.some.injEq, Prod.mk.injEq] at H
  obtain ⟨rfl, rfl, rfl⟩ := H
  go_wp2
  go_ret
  exact ⟨_, rfl, (show IsS93 w0 _ gb101 l0 0 x102002_1 from ⟨_, _, bb_ BK101.out, GE101.out, HR0.out⟩), gb_ HB.out, by repeat (first | (with_reducible first | exact HBW.out | apply below_alloc | apply pw_below_drewN | apply below_drew1 | refine below_set ?_ GW101.out) | exact HBW.out), GW101.out⟩
 replace H := id_ H
 obtain ⟨c5b0, H⟩ := H
 have H' := Aside0.mk H
 clear H
 try go_wp2
 replace BK101 := Aside0.mk (blk_drew BK101.out)
 replace HB := Aside0.mk (below_drew1 HB.out)
 have p102 : 0 ≤ (x4_1 : Int) := of_decide_eq_true t6_
 have q102 : x4_1 < (l0.length : Int) := of_decide_eq_true t6_
 obtain ⟨ad102, e102, hx102_0⟩ := Kd.at_int HR0.out x4_1 p102 q102
 have hw102_0 := hx102_0
 cases e102
 replace hx102_0 := pw_cell_below HB.out hx102_0
 replace p102 := eq_true p102
 replace q102 := eq_true q102
 refine sr_ (n := 16) (S := fun w' => w'.cell? ⟨gb101, 0, none⟩ = some (.slice (some ad102) l0.length c0) ∧ w'.cell? ⟨gb101, 1, none⟩ = some (.int .i64 0) ∧ w'.cell? ⟨gb101, 2, none⟩ = some (.int .u64 x102002_1) ∧ w'.cell? (ad102.add (x4_1).toNat) = some (.int .u8 (rd l0 x4_1))) (ds := [15]) ⟨(blk_cell BK101.out 0).trans rfl, (blk_cell BK101.out 1).trans rfl, (blk_cell BK101.out 2).trans rfl, (hc_ HB hw102_0)⟩ spec_l01From.tab5 spec_l01From.bits5 fun hHeld HT_ HW_ => ?_
 have HBW9 := Aside0.mk (below_drew HBW.out)
 clear HBW
 have HBW := HBW9
 clear HBW9
 generalize wr.drew = w6 at BK101 HB HBW hx102_0 hHeld ⊢
 refine pv_ 0 22 HT_ ?_
 refine pv_ 1 23 HT_ ?_
 refine pv_ 2 24 HT_ ?_
 refine pv_ 3 25 HT_ ?_
 refine pv_ 6 28 HT_ ?_
 refine pv_ 7 29 HT_ ?_
 refine pv_ 8 30 HT_ ?_
 refine tv4_ 4 26 HT_ HW_ hHeld ?_
 refine pv_ 5 27 HT_ ?_
 refine tv4_ 9 31 HT_ HW_ hHeld ?_
 refine pv_ 10 32 HT_ ?_
 refine pv_ 11 33 HT_ ?_
 refine pv_ 12 34 HT_ ?_
 refine pv_ 13 35 HT_ ?_
 refine pv_ 14 36 HT_ ?_
 refine last_ (i := 15) (N := none) #[true, true, true, true, true, true, true, true, true, true, true, true, true, true, true, true] rfl rfl (one_of HT_.out (by kernel_rfl)) (by decide) (fun K hK => ?_)
 have hs7 : w6.cell? ⟨gb101, 2, none⟩ = some (.int .u64 x102002_1) := (blk_cell BK101.out 2).trans rfl
 have hfs7 := blk_frozen BK101.out 2
 refine skip_ (w1 := ?_) (by rfl) rfl ?_ ?_
 rotate_left
 ·go_simp
  rfl
 refine hK.out _ _ ?_
 clear hK K
 refine done_ (done_of HT_.out (by kernel_rfl)) ?_
 try go_wp2
 go_roundg k1
 case measure => have := HK1.out; omega
 case rel => exact ⟨(wrap64 (x4_1 + 1)), (IntKind.u64.wrap ((IntKind.u64.wrap ((IntKind.u64.wrap (x102002_1 * 1099511628211)) + (IntKind.u64.wrap (rd l0 x4_1)))) + 251)), t2_, H', ⟨by have := HK1.out; omega⟩, ⟨by (with_reducible repeat (first | refine blk_drewN ?_ _ | refine blk_drew ?_ | refine blk_alloc ?_ _)); refine blk_put (cs := #[.slice (some ad102) l0.length c0, .int .i64 0, .int .u64 x102002_1]) ?_ 2 _ rfl; (with_reducible repeat (first | refine blk_drewN ?_ _ | refine blk_drew ?_ | refine blk_alloc ?_ _)); exact BK101.out⟩, ⟨gb_ HB.out⟩, ⟨by repeat (first | (with_reducible first | exact HBW.out | apply below_alloc | apply pw_below_drewN | apply below_drew1 | refine below_set ?_ GW101.out) | exact HBW.out)⟩⟩
theorem spec_l01From.calls (k : Nat) (A0 : Option Addr) (c0 : Nat) (l0 : List Int) (r1 : List Int) (r2 : Int) (r3 : Int) (w0 w : World) (hB : Below w0.heap.size w0 w) (hr0 : Kd.C (Kd.int .u8) w0 A0 l0.length l0) (hc0 : l0.length ≤ c0) (h : spec_l01From.f k l0 = some (r1, r2, r3)) :
  Calls Tryz.prog 49 #[.slice A0 l0.length c0] w fun e w' => ∃ g_ : Nat, e = .returned (.pointer (some ⟨g_, 0, none⟩)) ∧ IsS93 w0 w' g_ r1 r2 r3 ∧ Below w0.heap.size w0 w' ∧ Below w.heap.size w w' := by
 refine (spec_l01From.callsN k A0 c0 l0 r1 r2 r3 w0 w hB hr0 hc0 h).mono ?_
 rintro e w' ⟨g_, h1, h2, h3, h4, _⟩
 exact ⟨g_, h1, h2, h3, h4⟩
def laws_likeInts.l0 : Nat → List Int → List Int → Int → Option (Bool)
  | 0, _, _, _ => none
  | k + 1, x0, x1, x5 => if x5 < (x0.length : Int) then (if 0 ≤ x5 then (if x5 < (x1.length : Int) then (if (rd x0 x5) = (rd x1 x5) then (laws_likeInts.l0 k x0 x1 (wrap64 (x5 + 1))) else (some false)) else (none)) else (none)) else (some true)
def laws_likeInts.f (k : Nat) (l0 : List Int) (l1 : List Int) : Option (Bool) := if (l0.length : Int) = (l1.length : Int) then (laws_likeInts.l0 k l0 l1 0) else (some false)
set_option maxHeartbeats 8000000 in
set_option maxRecDepth 100000 in
theorem laws_likeInts.calls (k : Nat) (A0 : Option Addr) (c0 : Nat) (l0 : List Int) (A1 : Option Addr) (c1 : Nat) (l1 : List Int) (r : Bool) (w : World) (hr0 : Kd.C (Kd.int .i64) w A0 l0.length l0) (hc0 : l0.length ≤ c0) (hr1 : Kd.C (Kd.int .i64) w A1 l1.length l1) (hc1 : l1.length ≤ c1) (h : laws_likeInts.f k l0 l1 = some r) :
  Calls Tryz.prog 16 #[.slice A0 l0.length c0, .slice A1 l1.length c1] w fun e w' => e = .returned (.bool r) ∧ Drawn0 w w' := by
 have HR0 := Aside0.mk hr0
 have HC0 := Aside0.mk hc0
 clear hr0 hc0
 have HR1 := Aside0.mk hr1
 have HC1 := Aside0.mk hc1
 clear hr1 hc1
 have H := h
 clear h
 unfold laws_likeInts.f at H
 by_cases c3 : (l0.length : Int) = (l1.length : Int)
 rotate_left
 ·rw [if_neg c3] at H
  have c3b0 : ((l0.length : Int) == (l1.length : Int)) = false := beq_eq_false_iff_ne.mpr c3
  have c3b1 : ((l0.length : Int) != (l1.length : Int)) = true := bne_iff_ne.mpr c3
  have c3b2 : (l0.length == l1.length) = false := by first | simpa using c3 | (simp at c3 ⊢; omega)
  obtain rfl := Option.some.inj H
  go_enter Tryz.func16, Tryz.ntmps16
  go_wp2
  repeat (go_quiet (fail); try go_wp2)
  go_ret
  exact ⟨by first | rfl | (simp; done) | (simp [*]; done), by repeat (first | exact Drawn0.refl _ | apply Drawn0.step)⟩

 rw [if_pos c3] at H
 have c3b0 : ((l0.length : Int) == (l1.length : Int)) = true := beq_iff_eq.mpr c3
 have c3b1 : ((l0.length : Int) != (l1.length : Int)) = false := bne_eq_false_iff_eq.mpr c3
 have c3b2 : (l0.length == l1.length) = true := by first | simpa using c3 | (simp at c3 ⊢; omega)
 clear c3
 have H' := Aside0.mk H
 clear H
 go_enter Tryz.func16, Tryz.ntmps16
 go_wp2
 repeat (go_quiet (fail); try go_wp2)
 go_loopg [5] k (fun kq v5 w' => ∃ (x5_1 : Int), v5 = .int .i64 x5_1 ∧ Aside0 (laws_likeInts.l0 kq l0 l1 x5_1 = some r) ∧ Aside0 (kq ≤ k) ∧ Drawn0 w w')
 case atStart => exact ⟨(0), t2_, H', ⟨Nat.le_refl _⟩, by repeat (first | exact Drawn0.refl _ | apply Drawn0.step)⟩
 clear H'
 try clear c1
 try clear p2
 try clear c3
 try clear c3b0
 try clear c3b1
 try clear c3b2
 obtain ⟨x5_1, rfl, HA, HK1, ⟨m1, rfl⟩⟩ := hrel
 obtain _ | k1 := gk
 ·exact absurd HA.out (by simp [laws_likeInts.l0])
 have H := HA.out
 clear HA
 simp only [laws_likeInts.l0] at H
 replace H := ie_ H
 obtain ⟨c4b0, H⟩ | ⟨c4b0, H⟩ := H
 ·obtain rfl := Option.some.inj H
  go_wp2
  repeat (go_quiet (fail); try go_wp2)
  go_ret
  exact ⟨by first | rfl | (simp; done) | (simp [*]; done), by repeat (first | exact Drawn0.refl _ | apply Drawn0.step)⟩
 replace H := id_ H
 obtain ⟨c5b0, H⟩ := H
 replace H := id_ H
 obtain ⟨c6b0, H⟩ := H
 by_cases c7 : (rd l0 x5_1) = (rd l1 x5_1)
 rotate_left
 ·rw [if_neg c7] at H
  have c7b0 : ((rd l0 x5_1) == (rd l1 x5_1)) = false := beq_eq_false_iff_ne.mpr c7
  have c7b1 : ((rd l0 x5_1) != (rd l1 x5_1)) = true := bne_iff_ne.mpr c7
  obtain rfl := Option.some.inj H
  have p101 : 0 ≤ (x5_1 : Int) := of_decide_eq_true t6_
  have q101 : x5_1 < (l0.length : Int) := of_decide_eq_true t6_
  obtain ⟨ad101, e101, hx101_0⟩ := Kd.at_int HR0.out x5_1 p101 q101
  cases e101
  replace p101 := eq_true p101
  replace q101 := eq_true q101
  have p102 : 0 ≤ (x5_1 : Int) := of_decide_eq_true t6_
  have q102 : x5_1 < (l1.length : Int) := of_decide_eq_true t6_
  obtain ⟨ad102, e102, hx102_0⟩ := Kd.at_int HR1.out x5_1 p102 q102
  cases e102
  replace p102 := eq_true p102
  replace q102 := eq_true q102
  go_wp2
  repeat (go_quiet (fail); try go_wp2)
  go_ret
  exact ⟨by first | rfl | (simp; done) | (simp [*]; done), by repeat (first | exact Drawn0.refl _ | apply Drawn0.step)⟩
 rw [if_pos c7] at H
 have c7b0 : ((rd l0 x5_1) == (rd l1 x5_1)) = true := beq_iff_eq.mpr c7
 have c7b1 : ((rd l0 x5_1) != (rd l1 x5_1)) = false := bne_eq_false_iff_eq.mpr c7
 clear c7
 have H' := Aside0.mk H
 clear H
 have p101 : 0 ≤ (x5_1 : Int) := of_decide_eq_true t6_
 have q101 : x5_1 < (l0.length : Int) := of_decide_eq_true t6_
 obtain ⟨ad101, e101, hx101_0⟩ := Kd.at_int HR0.out x5_1 p101 q101
 cases e101
 replace p101 := eq_true p101
 replace q101 := eq_true q101
 have p102 : 0 ≤ (x5_1 : Int) := of_decide_eq_true t6_
 have q102 : x5_1 < (l1.length : Int) := of_decide_eq_true t6_
 obtain ⟨ad102, e102, hx102_0⟩ := Kd.at_int HR1.out x5_1 p102 q102
 cases e102
 replace p102 := eq_true p102
 replace q102 := eq_true q102
 go_wp2
 repeat (go_quiet (fail); try go_wp2)
 go_roundg k1
 case measure => have := HK1.out; omega
 case rel => exact ⟨(wrap64 (x5_1 + 1)), t2_, H', ⟨by have := HK1.out; omega⟩, by repeat (first | exact Drawn0.refl _ | apply Drawn0.step)⟩
def laws_big.f (l0 : List Int) : Option (Bool) := some (decide ((l0.length : Int) > 4096))
set_option maxHeartbeats 8000000 in
set_option maxRecDepth 100000 in
theorem laws_big.calls (A0 : Option Addr) (c0 : Nat) (l0 : List Int) (r : Bool) (w : World) (hr0 : Kd.C (Kd.int .u8) w A0 l0.length l0) (hc0 : l0.length ≤ c0) (h : laws_big.f l0 = some r) :
  Calls Tryz.prog 4 #[.slice A0 l0.length c0] w fun e w' => e = .returned (.bool r) ∧ Drawn0 w w' := by
 have HR0 := Aside0.mk hr0
 have HC0 := Aside0.mk hc0
 clear hr0 hc0
 have H := h
 clear h
 unfold laws_big.f at H
 obtain rfl := Option.some.inj H
 go_enter Tryz.func4, Tryz.ntmps4
 go_wp2
 go_ret
 exact ⟨by first | rfl | (simp; done) | (simp [*]; done), by repeat (first | exact Drawn0.refl _ | apply Drawn0.step)⟩
def impl_CountWords.f (k : Nat) (l0_0 : List Int) : Option (Int × Int) := (impl_IsSpace.f k l0_0).bind fun t102 => (if t102 = true then ((impl_count.f k l0_0).bind fun t103 => (some (t103, 0))) else (some (0, 1)))
set_option maxHeartbeats 8000000 in
set_option maxRecDepth 100000 in
theorem impl_CountWords.calls (k : Nat) (A0_0 : Option Addr) (c0_0 : Nat) (l0_0 : List Int) (r1 : Int) (r2 : Int) (w : World) (hr0_0 : Kd.C (Kd.int .i64) w A0_0 l0_0.length l0_0) (hc0_0 : l0_0.length ≤ c0_0) (h : impl_CountWords.f k l0_0 = some (r1, r2)) :
  Calls Tryz.prog 17 #[.agg #[.slice A0_0 l0_0.length c0_0]] w fun e w' => e = .returned (.tuple #[.int .i64 r1, .int .i64 r2]) ∧ Below w.heap.size w w' := by
 have hu26 := Tryz.underlying26
 have HR0_0 := Aside0.mk hr0_0
 have HC0_0 := Aside0.mk hc0_0
 clear hr0_0 hc0_0
 have HB := Aside0.mk (Below.refl w.heap.size w)
 have H := h
 clear h
 unfold impl_CountWords.f at H
 replace H := bd_ H
 obtain ⟨t102, A2, H⟩ := H
 by_cases c3 : t102 = true
 rotate_left
 ·replace c3 := Bool.eq_false_iff.mpr c3
  subst c3
  have H1 : (some (0, 1)) = some (r1, r2) := by rw [if_neg (show ¬ (false = true) by decide)] at H; exact H
  clear H
  have H := H1
  clear H1
  simp only [Option.some.injEq, Prod.mk.injEq] at H
  obtain ⟨rfl, rfl⟩ := H
  go_enter Tryz.func17, Tryz.ntmps17
  go_wp2_with (first | ((with_reducible refine gate_dst (N := 1) rfl ?_); refine bx_ (N := 1) (cs := #[.slice A0_0 l0_0.length c0_0]) (t := 26) rfl rfl ?_; intro gb101 hg w10 hbox hb; have BK101 := Aside0.mk (hbox); have GW101 := ge_ hg HB; have GE101 := ge_ hg HB; replace HB := b1_ HB hb; clear hb hbox hg; have hcz11_0 := hz_ BK101; have hfz11_0 := blk_frozen BK101.out 0) | ((with_reducible refine gate_callee (f := 42) rfl ?_); refine gl_ (some 5) rfl rfl Tryz.func42 #[.agg #[.slice A0_0 l0_0.length c0_0]] rfl ?_; (with_reducible refine (impl_IsSpace.calls k _ _ l0_0 false _ (c2_ HR0_0 HB) HC0_0.out A2.out).mono ?_); rintro e w12 ⟨rfl, hb⟩; refine ⟨_, rfl, ?_⟩; replace BK101 := a2_ BK101 hb; replace HB := b1_ HB hb; (try clear hb); (try clear hb2); (try clear hk); (try clear hi)))
  go_ret2
  exact ⟨t5_, gb_ HB.out⟩

 subst c3
 have H1 : ((impl_count.f k l0_0).bind fun t103 => (some (t103, 0))) = some (r1, r2) := by rw [if_pos rfl] at H; exact H
 clear H
 have H := H1
 clear H1
 replace H := bd_ H
 obtain ⟨t103, A4, H⟩ := H
 simp only [Option.some.injEq, Prod.mk.injEq] at H
 obtain ⟨rfl, rfl⟩ := H
 go_enter Tryz.func17, Tryz.ntmps17
 go_wp2_with (first | ((with_reducible refine gate_dst (N := 1) rfl ?_); refine bx_ (N := 1) (cs := #[.slice A0_0 l0_0.length c0_0]) (t := 26) rfl rfl ?_; intro gb101 hg w5 hbox hb; have BK101 := Aside0.mk (hbox); have GW101 := ge_ hg HB; have GE101 := ge_ hg HB; replace HB := b1_ HB hb; clear hb hbox hg; have hcz6_0 := hz_ BK101; have hfz6_0 := blk_frozen BK101.out 0) | ((with_reducible refine gate_callee (f := 42) rfl ?_); refine gl_ (some 5) rfl rfl Tryz.func42 #[.agg #[.slice A0_0 l0_0.length c0_0]] rfl ?_; (with_reducible refine (impl_IsSpace.calls k _ _ l0_0 true _ (c2_ HR0_0 HB) HC0_0.out A2.out).mono ?_); rintro e w7 ⟨rfl, hb⟩; refine ⟨_, rfl, ?_⟩; replace BK101 := a2_ BK101 hb; replace HB := b1_ HB hb; (try clear hb); (try clear hb2); (try clear hk); (try clear hi); have hcz8_0 := hz_ BK101; have hfz8_0 := blk_frozen BK101.out 0) | ((with_reducible refine gate_callee (f := 43) rfl ?_); refine gl_ (some 8) rfl rfl Tryz.func43 #[.agg #[.slice A0_0 l0_0.length c0_0]] rfl ?_; (with_reducible refine (impl_count.calls k _ _ l0_0 t103 _ (c2_ HR0_0 HB) HC0_0.out A4.out).mono ?_); rintro e w9 ⟨rfl, hb⟩; refine ⟨_, rfl, ?_⟩; replace BK101 := a2_ BK101 hb; replace HB := b1_ HB hb; (try clear hb); (try clear hb2); (try clear hk); (try clear hi)))
 go_ret2
 exact ⟨t5_, gb_ HB.out⟩
end Go.Proofs.YtnkndaapamenmaaGreat.P
set_option linter.unusedVariables false
set_option linter.unusedSimpArgs false
namespace Go.Proofs.YtnkndaapamenmaaGreat.P
open Go.RowKit Go.Proofs.YtnkndaapamenmaaGreatW.PrintWords Go.Proofs.YtnkndaapamenmaaGreatW.PrintLast Go.Proofs.YtnkndaapamenmaaGreatW.PrintMore CC
theorem take_rd (s : List Int) {n : Nat} (hn : n < s.length) : s.take (n + 1) = s.take n ++ [rd s (n : Int)] := by
  rw [List.take_add_one]
  simp [rd, List.getD_eq_getElem?_getD, hn]
theorem dloop_eq (s : List Int) : ∀ (n : Nat) (x : Int) (ar : List Int), n ≤ s.length → n ≤ ar.length → dloop s n x ar = (dgr (s.take n).reverse x).reverse ++ ar.drop n
  | 0, x, ar, _, _ => by simp [dloop, dgr]
  | n + 1, x, ar, h1, h2 => by
    simp only [dloop]
    rw [dloop_eq s n _ _ (by omega) (by simp; omega), take_rd s (by omega), List.reverse_append]
    simp only [List.reverse_cons, List.reverse_nil, List.nil_append, List.singleton_append, dgr]
    rw [List.append_assoc]
    congr 1
    rw [List.drop_eq_getElem_cons (show n < (ar.set n (x % rd s (n : Int))).length by simp; omega), List.drop_set]
    simp
theorem dig8_eq {s : List Int} (hl : s.length ≤ 8) (x : Int) : dig8 s x = dg s x ++ List.replicate (8 - s.length) 0 := by
  unfold dig8 dg
  rw [dloop_eq s s.length x _ (Nat.le_refl _) (by simpa using hl), List.drop_replicate, List.take_length]
theorem ham_dig8 {s : List Int} (hl : s.length ≤ 8) (x y : Int) : ham (dig8 s x) (dig8 s y) = dist s x y := by
  rw [dig8_eq hl, dig8_eq hl, ham_append _ _ _ _ (by rw [dg_length, dg_length]), ham_self]
  simp [dist]
theorem dig8_inR {s : List Int} (hs : isSp s = true) (x : Int) : inR s (dig8 s x) = true := by
  rw [dig8_eq (isSp_len hs)]
  exact inR_pad (dg_length _ _) (inR_dg (isSp_all hs) x)
theorem inR_of : ∀ (s d : List Int), (∀ k : Nat, k < s.length → k < d.length → 0 ≤ rd d (k : Int) ∧ rd d (k : Int) < rd s (k : Int)) → inR s d = true
  | [], _, _ => by simp [inR]
  | _ :: _, [], _ => by simp [inR]
  | q :: s, x :: d, h => by
    have h0 := h 0 (by simp) (by simp)
    have e0 : rd (x :: d) ((0 : Nat) : Int) = x := by simp [rd]
    have e1 : rd (q :: s) ((0 : Nat) : Int) = q := by simp [rd]
    rw [e0, e1] at h0
    have ih := inR_of s d (fun k hk hk2 => by
      have := h (k + 1) (by simpa using hk) (by simpa using hk2)
      have f0 : rd (x :: d) ((k + 1 : Nat) : Int) = rd d (k : Int) := by simp only [rd, Int.toNat_natCast]; rfl
      have f1 : rd (q :: s) ((k + 1 : Nat) : Int) = rd s (k : Int) := by simp only [rd, Int.toNat_natCast]; rfl
      rwa [f0, f1] at this)
    simp [inR, h0.1, h0.2, ih]
theorem infoD : (Tryz.prog.info? 66).map (fun i => (i.zero, i.size, i.bytes)) = some (some (.agg #[.int .u8 0, .int .u8 0, .int .u8 0, .int .u8 0, .int .u8 0, .int .u8 0, .int .u8 0, .int .u8 0]), 8, 8) := by kernel_rfl
def flat8 (L : List (List Int)) : List Value := (L.map (nums .u8)).flatten
end Go.Proofs.YtnkndaapamenmaaGreat.P
namespace Go.Proofs.YtnkndaapamenmaaGreat.P
open Go.RowKit Go.Proofs.YtnkndaapamenmaaGreatW.PrintWords Go.Proofs.YtnkndaapamenmaaGreatW.PrintLast Go.Proofs.YtnkndaapamenmaaGreatW.PrintMore
attribute [local go_sem] max2_int min2_int max_two min_two max_three min_three max_four min_four
set_option linter.unusedVariables false
set_option linter.unusedSimpArgs false
def spec_l01Own.f (l0 : List Int) : Option (List Int) := (some (([] : List Int) : List Int)).bind fun y101 => (if y101.length + l0.length < 17592186044416 then (some (y101 ++ l0)) else (none))
set_option maxHeartbeats 8000000 in
set_option maxRecDepth 100000 in
theorem spec_l01Own.calls (A0 : Option Addr) (c0 : Nat) (l0 : List Int) (r : List Int) (w : World) (hr0 : Kd.C (Kd.int .i64) w A0 l0.length l0) (hc0 : l0.length ≤ c0) (h : spec_l01Own.f l0 = some r) :
  Calls Tryz.prog 35 #[.slice A0 l0.length c0] w fun e w' => ∃ v0_ : Value, e = .returned (v0_) ∧ Kd.R (Kd.int .i64) 2 w' w.heap.size (fun _ => True) v0_ r ∧ Below w.heap.size w w' := by
 have HR0 := Aside0.mk hr0
 have HC0 := Aside0.mk hc0
 clear hr0 hc0
 have HB := Aside0.mk (Below.refl w.heap.size w)
 have H := h
 clear h
 unfold spec_l01Own.f at H
 replace H := yb_ H
 obtain ⟨y101, Ny101, H⟩ := H
 replace H := ip_ H
 obtain ⟨c2, H⟩ := H
 have LMc2 := Aside0.mk c2
 clear c2
 obtain ⟨y104, hy104⟩ : ∃ y_ : List Int, y_ = (y101 ++ l0) := ⟨_, rfl⟩
 replace H : (some y104) = some r := y_ H
 have Ny104 := Aside0.mk hy104
 clear hy104
 obtain rfl := Option.some.inj H
 go_enter Tryz.func35, Tryz.ntmps35
 go_wp2_with (first | ((with_reducible refine gate_dst (N := 3) rfl ?_); refine Kd.R_lit (Kd.int .i64) _ 2 ?hg (N := 3) ?hd (xs := ([] : List Int)) (inner := []) (ok := fun _ => True) (okp := fun _ => True) ?hr ?hp (fun _ hk => hk) trivial (Below.refl _ _) (Nat.le_refl _) (by simp) ?_; (case hd => rfl); (case hg => rfl); (case hr => exact t3_); (case hp => exact (Reps.none _ _)); intro v102 w3 ho4 hb hg_ hnew_; clear hg_ hnew_; (first | rw [← Ny101.out] at ho4 | (simp only [Int.reduceToNat] at ho4; rw [← Ny101.out] at ho4)); have HO103 := Aside0.mk (Kd.R_lower ho4 (below_size (gb_ HB.out))); replace HB := b1_ HB hb; clear hb ho4) | ((with_reducible refine gate_builtin (b := .append) (xs := #[.tmp 3, .tmp 4]) rfl ?_); at_builtin; refine Kd.R_append_rows (Kd.int .i64) (w0 := w) w.heap.size rfl (.tmp 3) (.tmp 4) 24 2 (.int .i64 0) 8 rfl Tryz.underlying24 info2 rfl (by decide) (by omega) v102 y101 l0 _ _ _ (fun _ => True) (fun _ => False) rfl rfl ?aO ?aR (fun _ _ h => h) (fun _ h => h.elim) ?aF ?aB ?aS ?aL ?_; (case aR => repeat (first | exact (Kd.C_below HR0.out HB.out) | (with_reducible refine Kd.C_alloc ?_ _) | (with_reducible refine Kd.C_drewN ?_ _) | (with_reducible refine Kd.C_drew ?_))); (case aB => exact (gb_ HB.out)); (case aF => exact (fun _ _ => trivial)); (case aO => exact (rb_ HO103.out)); (case aS => exact (below_size (gb_ HB.out))); (case aL => have := LMc2.out; omega); intro v105 w5 ho hb hg hat; rw [← Ny104.out] at ho; replace HB := Aside0.mk (hb); have HO106 := Aside0.mk (ho); clear HO103 ho hb hg hat))
 go_ret
 exact ⟨_, t5_, rb_ HO106.out, gb_ HB.out⟩
def spec_l01Put.l0 : Nat → List Int → Int → Int → Option (List Int)
 | 0, _, _, _ => none
 | k + 1, x0, x1, x5 => if x5 > 0 then (if 0 ≤ (wrap64 (x5 - 1)) then (if (wrap64 (x5 - 1)) < (x0.length : Int) then (if (rd x0 (wrap64 (x5 - 1))) > x1 then (spec_l01Put.l0 k x0 x1 (wrap64 (x5 - 1))) else (if (rd x0 (wrap64 (x5 - 1))) = x1 then (some x0) else (if 0 ≤ x5 then (if x5 ≤ (x0.length : Int) then ((spec_l01Own.f (x0.take (x5 : Int).toNat)).bind fun t107 => (if t107.length < 17592186044416 then ((some (t107 ++ [x1] : List Int)).bind fun y110 => ((some (x0.drop (x5 : Int).toNat : List Int)).bind fun y113 => (if y110.length + y113.length < 17592186044416 then (some (y110 ++ y113)) else (none)))) else (none))) else (none)) else (none)))) else (none)) else (none)) else (if 0 ≤ x5 then (if x5 ≤ (x0.length : Int) then ((spec_l01Own.f (x0.take (x5 : Int).toNat)).bind fun t124 => (if t124.length < 17592186044416 then ((some (t124 ++ [x1] : List Int)).bind fun y127 => ((some (x0.drop (x5 : Int).toNat : List Int)).bind fun y130 => (if y127.length + y130.length < 17592186044416 then (some (y127 ++ y130)) else (none)))) else (none))) else (none)) else (none))
def spec_l01Put.f (k : Nat) (l0 : List Int) (a1 : Int) : Option (List Int) := spec_l01Put.l0 k l0 a1 (l0.length : Int)
set_option maxHeartbeats 8000000 in
set_option maxRecDepth 100000 in
theorem spec_l01Put.calls (k : Nat) (P0_ : Nat → Prop) (u9000_ : Value) (l0 : List Int) (a1 : Int) (r : List Int) (w0 w : World) (hB : Below w0.heap.size w0 w) (ho0 : Kd.R (Kd.int .i64) 2 w w0.heap.size P0_ u9000_ l0) (h : spec_l01Put.f k l0 a1 = some r) :
  Calls Tryz.prog 36 #[u9000_, .int .i64 a1] w fun e w' => ∃ v0_ : Value, e = .returned (v0_) ∧ Kd.R (Kd.int .i64) 2 w' w0.heap.size (fun k_ => (P0_ k_ ∨ w.heap.size ≤ k_)) v0_ r ∧ Below w0.heap.size w0 w' ∧ Kept w w' (fun k_ => P0_ k_) := by
 have HO0 := Aside0.mk (show Kd.R (Kd.int .i64) 2 w w0.heap.size (fun k_ => (P0_ k_ ∨ w.heap.size ≤ k_)) u9000_ l0 from Kd.R_mono ho0 (fun k_ hk => (.inl hk)))
 have HK := Aside0.mk (Kept.refl w (fun k_ => P0_ k_))
 have HW0 := Aside0.mk hB.size
 have HB := Aside0.mk hB
 clear hB
 have H := h
 clear h
 unfold spec_l01Put.f at H
 have H' := Aside0.mk H
 clear H
 obtain ⟨Ao3, co3, eo3⟩ := Kd.R_slice HO0.out
 subst eo3
 go_enter Tryz.func36, Tryz.ntmps36
 go_wp2
 go_loopg [5] k (fun kq v5 w' => ∃ (x5_1 : Int), v5 = .int .i64 x5_1 ∧ Aside0 (spec_l01Put.l0 kq l0 a1 x5_1 = some r) ∧ Aside0 (kq ≤ k) ∧ Aside0 (Kd.R (Kd.int .i64) 2 w' w0.heap.size (fun k_ => (P0_ k_ ∨ w.heap.size ≤ k_)) (.slice Ao3 l0.length co3) l0) ∧ Aside0 (Kept w w' (fun k_ => P0_ k_)) ∧ Aside0 (Below w0.heap.size w0 w'))
 case atStart => exact ⟨((l0.length : Int)), t2_, H', ⟨Nat.le_refl _⟩, ⟨rb_ HO0.out⟩, ⟨kt_ HK⟩, ⟨gb_ HB.out⟩⟩
 clear H'
 try clear p2
 try clear c3
 obtain ⟨x5_1, rfl, HA, HK1, HO_0, HK, HB⟩ := hrel
 obtain _ | k1 := gk
 ·exact absurd HA.out (by simp [spec_l01Put.l0])
 have H := HA.out
 clear HA
 simp only [spec_l01Put.l0] at H
 by_cases c4 : x5_1 > 0
 rotate_left
 ·rw [if_neg c4] at H
  have c4b0 : decide (0 < x5_1) = false := decide_eq_false c4
  clear c4
  replace H := ip_ H
  obtain ⟨c22, H⟩ := H
  have c22b0 := eq_true c22
  have c22b1 := decide_eq_true c22
  clear c22
  replace H := ip_ H
  obtain ⟨c23, H⟩ := H
  have c23b0 := eq_true c23
  have c23b1 := decide_eq_true c23
  clear c23
  obtain ⟨y120, hy120⟩ : ∃ y_ : List Int, y_ = (l0.take (x5_1 : Int).toNat) := ⟨_, rfl⟩
  replace H : ((spec_l01Own.f y120).bind fun t124 => (if t124.length < 17592186044416 then ((some (t124 ++ [a1] : List Int)).bind fun y127 => ((some (l0.drop (x5_1 : Int).toNat : List Int)).bind fun y130 => (if y127.length + y130.length < 17592186044416 then (some (y127 ++ y130)) else (none)))) else (none))) = some r := y_ H
  have Ny120 := Aside0.mk hy120
  clear hy120
  replace H := bd_ H
  obtain ⟨t124, A24, H⟩ := H
  replace H := ip_ H
  obtain ⟨c25, H⟩ := H
  have LMc25 := Aside0.mk c25
  clear c25
  replace H := yb_ H
  obtain ⟨y127, Ny127, H⟩ := H
  have c26b0 := eq_true (of_decide_eq_true t6_ : 0 ≤ x5_1)
  have c27b0 := eq_true (of_decide_eq_true t6_ : x5_1 ≤ (l0.length : Int))
  replace H := yb_ H
  obtain ⟨y130, Ny130, H⟩ := H
  replace H := ip_ H
  obtain ⟨c28, H⟩ := H
  have LMc28 := Aside0.mk c28
  clear c28
  obtain ⟨y134, hy134⟩ : ∃ y_ : List Int, y_ = (y127 ++ y130) := ⟨_, rfl⟩
  replace H : (some y134) = some r := y_ H
  have Ny134 := Aside0.mk hy134
  clear hy134
  obtain rfl := Option.some.inj H
  have q29 : (x5_1 : Int) ≤ ((l0.length : Int) : Int) := of_decide_eq_true t6_
  obtain ⟨i029, hi029, _, hsz29, _⟩ := info_parts info2
  have hroom29 : l0.length ≤ co3 := (Kd.R_reads' HO_0.out).2.1
  have hC29 : Kd.C (Kd.int .i64) _ Ao3 l0.length l0 := (Kd.R_reads' HO_0.out).2.2
  have hcut29 := cut_to (P := Tryz.prog) 24 2 .i64 Tryz.underlying24 hi029 Ao3 l0.length co3 x5_1 (of_decide_eq_true t6_) q29 hroom29
  have hr29 := Kd.C_take (m := (x5_1 : Int).toNat) hC29 (by omega)
  have hy29 : y120.length = (x5_1 : Int).toNat := (by rw [Ny120.out, List.length_take]; omega)
  rw [← Ny120.out] at hr29
  rw [← hy29] at hcut29
  have HR123 := Aside0.mk hr29
  have HC123 := Aside0.mk (show y120.length ≤ co3 from by omega)
  clear hr29 hC29 hroom29 hi029 hsz29
  have KY29 := Aside0.mk hy29
  clear hy29
  have KL29 := Aside0.mk (show (x5_1 : Int).toNat ≤ l0.length from by omega)
  replace q29 := eq_true q29
  go_wp2_with (first | ((with_reducible refine gate_callee (f := 35) rfl ?_); refine gl_ (some 37) rfl rfl Tryz.func35 #[.slice Ao3 y120.length co3] rfl ?_; (with_reducible refine (spec_l01Own.calls _ _ y120 t124 _ ?side1 ?side2 A24.out).mono ?_); (case side1 => exact cb_ HR123); (case side2 => exact HC123.out); rintro e w30 ⟨v125, rfl, ho0, hb⟩; refine ⟨_, rfl, ?_⟩; have HO126 := Aside0.mk (Kd.R_lower (Kd.R_new' (Kd.R_newM (M := fun k_ => (P0_ k_ ∨ w.heap.size ≤ k_)) ho0 (by first | exact HK.out.1 | exact (show Kept w _ (fun k_ => P0_ k_) from kt_ HK).1) (fun k_ h_ => .inr h_)) (Kd.R_lt (rb_ HO_0.out))) (below_size (gb_ HB.out))); replace HO_0 := a5_ HO_0 ho0 hb; replace HR123 := Aside0.mk (Kd.C_below (cb_ HR123) hb); replace HK := Aside0.mk (Kept.below (S := (fun k_ => P0_ k_)) (kt_ HK) hb); replace HB := b1_ HB hb; (try clear hb); (try clear hb2); (try clear hk); (try clear hi); (try clear ho0)) | ((with_reducible refine gate_builtin (b := .append) (xs := #[.tmp 37, .tmp 39]) rfl ?_); at_builtin; refine Kd.R_append (Kd.int .i64) (w0 := w0) w0.heap.size rfl (.tmp 37) (.tmp 39) 24 2 (.int .i64 0) 8 rfl Tryz.underlying24 info2 rfl (by decide) (by omega) v125 t124 a1 [.int .i64 a1] (fun k_ => (P0_ k_ ∨ w.heap.size ≤ k_) ∧ OB_ k_ (.slice Ao3 l0.length co3)) (fun _ => False) rfl rfl ?aP (fun _ hk => hk.elim) ?aF ?aO ?aB ?aS ?aL ?_; (case aP => exact rfl); (case aB => exact (gb_ HB.out)); (case aF => exact (fun k_ hk => ⟨(.inr (Nat.le_trans (by first | exact HK.out.1 | exact (show Kept w _ (fun k_ => P0_ k_) from kt_ HK).1) hk)), Kd.fresh' (Kd.R_lt (rb_ HO_0.out)) k_ hk⟩)); (case aO => exact (rb_ (Kd.R_mono HO126.out (fun _ hk => ⟨hk.1.1, hk.2⟩)))); (case aS => exact (below_size (gb_ HB.out))); (case aL => have := LMc25.out; omega); intro v128 w31 ho hb hg hat; rw [← Ny127.out] at ho; have n0_ := Aside0.mk (Kd.R_after (ok := (fun k_ => (P0_ k_ ∨ w.heap.size ≤ k_))) (rb_ HO_0.out) hg hat); have n1_ := Aside0.mk (hb); have n2_ := Aside0.mk (Kept.of_grown (S := (fun k_ => P0_ k_)) hg (kt_ HK) (fun k_ e_ => (HO126.out.1 k_ e_).1.1)); have n3_ := Aside0.mk ((show Kd.C (Kd.int .i64) w31 Ao3 y120.length y120 from by rw [Ny120.out]; exact Kd.C_take (m := (x5_1 : Int).toNat) ((Kd.R_reads' (Kd.R_after (ok := (fun k_ => (P0_ k_ ∨ w.heap.size ≤ k_))) (rb_ HO_0.out) hg hat)).2.2) KL29.out)); have n4_ := Aside0.mk (ho); clear HO_0 HB HK HR123 HO126; have HO_0 := n0_; have HB := n1_; have HK := n2_; have HR123 := n3_; have HO129 := n4_; clear n0_ n1_ n2_ n3_ n4_ ho hb hg hat; have q32 : (x5_1 : Int) ≤ ((l0.length : Int) : Int) := of_decide_eq_true t6_; obtain ⟨i032, hi032, _, hsz32, _⟩ := info_parts info2; have hroom32 : l0.length ≤ co3 := (Kd.R_reads' HO_0.out).2.1; have hC32 : Kd.C (Kd.int .i64) _ Ao3 l0.length l0 := (Kd.R_reads' HO_0.out).2.2; have q032 : (0 : Int) ≤ (x5_1 : Int) := of_decide_eq_true t6_; have hcut32 := cut_from (P := Tryz.prog) 24 2 .i64 Tryz.underlying24 hi032 1 hsz32 Ao3 l0.length co3 x5_1 q032 q32; have hr32 := Kd.C_drop (m := (x5_1 : Int).toNat) (c := co3) hC32 (by omega) hroom32; obtain ⟨A32, hA32⟩ : ∃ A1, A1 = (if co3 = (x5_1 : Int).toNat then Ao3 else (Ao3 : Option Addr).map (·.add ((x5_1 : Int).toNat * 1))) := ⟨_, rfl⟩; obtain ⟨c32, hc32⟩ : ∃ c1, c1 = co3 - (x5_1 : Int).toNat := ⟨_, rfl⟩; have hy32 : y130.length = l0.length - (x5_1 : Int).toNat := (by rw [Ny130.out, List.length_drop] <;> omega); rw [show (l0).drop (x5_1 : Int).toNat = y130 from Ny130.out.symm] at hr32; replace hr32 : Kd.C (Kd.int .i64) _ A32 y130.length y130 := (by rw [hA32]; exact hr32); rw [← hy32, ← hA32, ← hc32] at hcut32; have HR133 := Aside0.mk hr32; have HC133 := Aside0.mk (show y130.length ≤ c32 from by rw [hy32, hc32]; exact Nat.sub_le_sub_right hroom32 _); clear hr32 hC32 hroom32 hi032 hsz32 hc32; have KY32 := Aside0.mk hy32; have KA32 := Aside0.mk hA32; clear hy32 hA32; have KL32 := Aside0.mk (show (x5_1 : Int).toNat ≤ l0.length from by omega); replace q32 := eq_true q32) | ((with_reducible refine gate_builtin (b := .append) (xs := #[.tmp 41, .tmp 44]) rfl ?_); at_builtin; refine Kd.R_append_rows (Kd.int .i64) (w0 := w0) w0.heap.size rfl (.tmp 41) (.tmp 44) 24 2 (.int .i64 0) 8 rfl Tryz.underlying24 info2 rfl (by decide) (by omega) v128 y127 y130 _ _ _ (fun k_ => (P0_ k_ ∨ w.heap.size ≤ k_) ∧ OB_ k_ (.slice Ao3 l0.length co3)) (fun _ => False) rfl rfl ?aO ?aR (fun _ _ h => h) (fun _ h => h.elim) ?aF ?aB ?aS ?aL ?_; (case aR => exact cb_ HR133); (case aB => exact (gb_ HB.out)); (case aF => exact (fun k_ hk => ⟨(.inr (Nat.le_trans (by first | exact HK.out.1 | exact (show Kept w _ (fun k_ => P0_ k_) from kt_ HK).1) hk)), Kd.fresh' (Kd.R_lt (rb_ HO_0.out)) k_ hk⟩)); (case aO => exact (rb_ HO129.out)); (case aS => exact (below_size (gb_ HB.out))); (case aL => have := LMc28.out; omega); intro v135 w33 ho hb hg hat; rw [← Ny134.out] at ho; have n0_ := Aside0.mk (Kd.R_after (ok := (fun k_ => (P0_ k_ ∨ w.heap.size ≤ k_))) (rb_ HO_0.out) hg hat); have n1_ := Aside0.mk (hb); have n2_ := Aside0.mk (Kept.of_grown (S := (fun k_ => P0_ k_)) hg (kt_ HK) (fun k_ e_ => (HO129.out.1 k_ e_).1)); have n3_ := Aside0.mk ((show Kd.C (Kd.int .i64) w33 Ao3 y120.length y120 from by rw [Ny120.out]; exact Kd.C_take (m := (x5_1 : Int).toNat) ((Kd.R_reads' (Kd.R_after (ok := (fun k_ => (P0_ k_ ∨ w.heap.size ≤ k_))) (rb_ HO_0.out) hg hat)).2.2) KL29.out)); have n4_ := Aside0.mk ((show Kd.C (Kd.int .i64) w33 A32 y130.length y130 from by rw [Ny130.out, KA32.out]; exact Kd.C_drop (m := (x5_1 : Int).toNat) (c := co3) ((Kd.R_reads' (Kd.R_after (ok := (fun k_ => (P0_ k_ ∨ w.heap.size ≤ k_))) (rb_ HO_0.out) hg hat)).2.2) KL32.out ((Kd.R_reads' (Kd.R_after (ok := (fun k_ => (P0_ k_ ∨ w.heap.size ≤ k_))) (rb_ HO_0.out) hg hat)).2.1))); have n5_ := Aside0.mk (ho); clear HO_0 HB HK HR123 HR133 HO129; have HO_0 := n0_; have HB := n1_; have HK := n2_; have HR123 := n3_; have HR133 := n4_; have HO136 := n5_; clear n0_ n1_ n2_ n3_ n4_ n5_ ho hb hg hat))
  go_ret
  exact ⟨_, t5_, rb_ (Kd.R_mono HO136.out (fun _ hk => hk.1)), gb_ HB.out, kt_ HK⟩
 rw [if_pos c4] at H
 have c4b0 : decide (0 < x5_1) = true := decide_eq_true c4
 clear c4
 obtain ⟨ji5, hji5⟩ : ∃ j_ : Int, (wrap64 (x5_1 - 1)) = j_ := ⟨_, rfl⟩
 replace H : (if 0 ≤ (ji5) then (if (ji5) < (l0.length : Int) then (if (rd l0 (ji5)) > a1 then (spec_l01Put.l0 k1 l0 a1 ji5) else (if (rd l0 (ji5)) = a1 then (some l0) else (if 0 ≤ x5_1 then (if x5_1 ≤ (l0.length : Int) then ((spec_l01Own.f (l0.take (x5_1 : Int).toNat)).bind fun t107 => (if t107.length < 17592186044416 then ((some (t107 ++ [a1] : List Int)).bind fun y110 => ((some (l0.drop (x5_1 : Int).toNat : List Int)).bind fun y113 => (if y110.length + y113.length < 17592186044416 then (some (y110 ++ y113)) else (none)))) else (none))) else (none)) else (none)))) else (none)) else (none)) = some r := by first | (rw [hji5] at H; exact H) | (simp only [hji5] at H ⊢; exact H)
 have hji5w : (IntKind.i64.wrap (x5_1 - 1)) = ji5 := (i64_w _).trans hji5
 replace H := id_ H
 obtain ⟨c6b0, H⟩ := H
 replace H := id_ H
 obtain ⟨c7b0, H⟩ := H
 by_cases c8 : (rd l0 (ji5)) > a1
 ·rw [if_pos c8] at H
  have c8b0 : decide (a1 < (rd l0 (ji5))) = true := decide_eq_true c8
  clear c8
  have H' := Aside0.mk H
  clear H
  have p101 : 0 ≤ ((ji5) : Int) := of_decide_eq_true t6_
  have q101 : (ji5) < (l0.length : Int) := of_decide_eq_true t6_
  obtain ⟨ad101, e101, hx101_0⟩ := Kd.at_int (Kd.R_reads' HO_0.out).2.2 (ji5) p101 q101
  cases e101
  replace p101 := eq_true p101
  replace q101 := eq_true q101
  go_wp2
  go_roundg k1
  case measure => have := HK1.out; omega
  case rel => exact ⟨(ji5), (by first | rfl | (simp; done) | (simp only [← hji5] <;> (first | rfl | simp)) | (simp [*]; done)), H', ⟨by have := HK1.out; omega⟩, ⟨rb_ HO_0.out⟩, ⟨kt_ HK⟩, ⟨gb_ HB.out⟩⟩
 rw [if_neg c8] at H
 have c8b0 : decide (a1 < (rd l0 (ji5))) = false := decide_eq_false c8
 clear c8
 by_cases c9 : (rd l0 (ji5)) = a1
 ·rw [if_pos c9] at H
  have c9b0 : ((rd l0 (ji5)) == a1) = true := beq_iff_eq.mpr c9
  have c9b1 : ((rd l0 (ji5)) != a1) = false := bne_eq_false_iff_eq.mpr c9
  clear c9
  obtain rfl := Option.some.inj H
  have p101 : 0 ≤ ((ji5) : Int) := of_decide_eq_true t6_
  have q101 : (ji5) < (l0.length : Int) := of_decide_eq_true t6_
  obtain ⟨ad101, e101, hx101_0⟩ := Kd.at_int (Kd.R_reads' HO_0.out).2.2 (ji5) p101 q101
  cases e101
  replace p101 := eq_true p101
  replace q101 := eq_true q101
  have p102 : 0 ≤ ((ji5) : Int) := of_decide_eq_true t6_
  have q102 : (ji5) < (l0.length : Int) := of_decide_eq_true t6_
  obtain ⟨ad102, e102, hx102_0⟩ := Kd.at_int (Kd.R_reads' HO_0.out).2.2 (ji5) p102 q102
  obtain rfl : ad101 = ad102 := (by injection e102)
  replace p102 := eq_true p102
  replace q102 := eq_true q102
  go_wp2
  go_ret
  exact ⟨_, by first | rfl | (simp [errW_none, errW_some] <;> rfl) | (simp only [← hji5]; first | rfl | (simp [errW_none, errW_some] <;> rfl)) | (simp [*, errW_none, errW_some] <;> rfl), rb_ HO_0.out, gb_ HB.out, kt_ HK⟩
 rw [if_neg c9] at H
 have c9b0 : ((rd l0 (ji5)) == a1) = false := beq_eq_false_iff_ne.mpr c9
 have c9b1 : ((rd l0 (ji5)) != a1) = true := bne_iff_ne.mpr c9
 replace H := ip_ H
 obtain ⟨c10, H⟩ := H
 have c10b0 := eq_true c10
 have c10b1 := decide_eq_true c10
 clear c10
 replace H := ip_ H
 obtain ⟨c11, H⟩ := H
 have c11b0 := eq_true c11
 have c11b1 := decide_eq_true c11
 clear c11
 obtain ⟨y103, hy103⟩ : ∃ y_ : List Int, y_ = (l0.take (x5_1 : Int).toNat) := ⟨_, rfl⟩
 replace H : ((spec_l01Own.f y103).bind fun t107 => (if t107.length < 17592186044416 then ((some (t107 ++ [a1] : List Int)).bind fun y110 => ((some (l0.drop (x5_1 : Int).toNat : List Int)).bind fun y113 => (if y110.length + y113.length < 17592186044416 then (some (y110 ++ y113)) else (none)))) else (none))) = some r := y_ H
 have Ny103 := Aside0.mk hy103
 clear hy103
 replace H := bd_ H
 obtain ⟨t107, A12, H⟩ := H
 replace H := ip_ H
 obtain ⟨c13, H⟩ := H
 have LMc13 := Aside0.mk c13
 clear c13
 replace H := yb_ H
 obtain ⟨y110, Ny110, H⟩ := H
 have c14b0 := eq_true (of_decide_eq_true t6_ : 0 ≤ x5_1)
 have c15b0 := eq_true (of_decide_eq_true t6_ : x5_1 ≤ (l0.length : Int))
 replace H := yb_ H
 obtain ⟨y113, Ny113, H⟩ := H
 replace H := ip_ H
 obtain ⟨c16, H⟩ := H
 have LMc16 := Aside0.mk c16
 clear c16
 obtain ⟨y117, hy117⟩ : ∃ y_ : List Int, y_ = (y110 ++ y113) := ⟨_, rfl⟩
 replace H : (some y117) = some r := y_ H
 have Ny117 := Aside0.mk hy117
 clear hy117
 obtain rfl := Option.some.inj H
 have p101 : 0 ≤ ((ji5) : Int) := of_decide_eq_true t6_
 have q101 : (ji5) < (l0.length : Int) := of_decide_eq_true t6_
 obtain ⟨ad101, e101, hx101_0⟩ := Kd.at_int (Kd.R_reads' HO_0.out).2.2 (ji5) p101 q101
 cases e101
 replace p101 := eq_true p101
 replace q101 := eq_true q101
 have p102 : 0 ≤ ((ji5) : Int) := of_decide_eq_true t6_
 have q102 : (ji5) < (l0.length : Int) := of_decide_eq_true t6_
 obtain ⟨ad102, e102, hx102_0⟩ := Kd.at_int (Kd.R_reads' HO_0.out).2.2 (ji5) p102 q102
 obtain rfl : ad101 = ad102 := (by injection e102)
 replace p102 := eq_true p102
 replace q102 := eq_true q102
 have q17 : (x5_1 : Int) ≤ ((l0.length : Int) : Int) := of_decide_eq_true t6_
 obtain ⟨i017, hi017, _, hsz17, _⟩ := info_parts info2
 have hroom17 : l0.length ≤ co3 := (Kd.R_reads' HO_0.out).2.1
 have hC17 : Kd.C (Kd.int .i64) _ (some ad101) l0.length l0 := (Kd.R_reads' HO_0.out).2.2
 have hcut17 := cut_to (P := Tryz.prog) 24 2 .i64 Tryz.underlying24 hi017 (some ad101) l0.length co3 x5_1 (of_decide_eq_true t6_) q17 hroom17
 have hr17 := Kd.C_take (m := (x5_1 : Int).toNat) hC17 (by omega)
 have hy17 : y103.length = (x5_1 : Int).toNat := (by rw [Ny103.out, List.length_take]; omega)
 rw [← Ny103.out] at hr17
 rw [← hy17] at hcut17
 have HR106 := Aside0.mk hr17
 have HC106 := Aside0.mk (show y103.length ≤ co3 from by omega)
 clear hr17 hC17 hroom17 hi017 hsz17
 have KY17 := Aside0.mk hy17
 clear hy17
 have KL17 := Aside0.mk (show (x5_1 : Int).toNat ≤ l0.length from by omega)
 replace q17 := eq_true q17
 go_wp2_with (first | ((with_reducible refine gate_callee (f := 35) rfl ?_); refine gl_ (some 37) rfl rfl Tryz.func35 #[.slice (some ad101) y103.length co3] rfl ?_; (with_reducible refine (spec_l01Own.calls _ _ y103 t107 _ ?side1 ?side2 A12.out).mono ?_); (case side1 => exact cb_ HR106); (case side2 => exact HC106.out); rintro e w18 ⟨v108, rfl, ho0, hb⟩; refine ⟨_, rfl, ?_⟩; have HO109 := Aside0.mk (Kd.R_lower (Kd.R_new' (Kd.R_newM (M := fun k_ => (P0_ k_ ∨ w.heap.size ≤ k_)) ho0 (by first | exact HK.out.1 | exact (show Kept w _ (fun k_ => P0_ k_) from kt_ HK).1) (fun k_ h_ => .inr h_)) (Kd.R_lt (rb_ HO_0.out))) (below_size (gb_ HB.out))); replace HO_0 := a5_ HO_0 ho0 hb; replace HR106 := Aside0.mk (Kd.C_below (cb_ HR106) hb); replace HK := Aside0.mk (Kept.below (S := (fun k_ => P0_ k_)) (kt_ HK) hb); replace HB := b1_ HB hb; (try clear hb); (try clear hb2); (try clear hk); (try clear hi); (try clear ho0)) | ((with_reducible refine gate_builtin (b := .append) (xs := #[.tmp 37, .tmp 39]) rfl ?_); at_builtin; refine Kd.R_append (Kd.int .i64) (w0 := w0) w0.heap.size rfl (.tmp 37) (.tmp 39) 24 2 (.int .i64 0) 8 rfl Tryz.underlying24 info2 rfl (by decide) (by omega) v108 t107 a1 [.int .i64 a1] (fun k_ => (P0_ k_ ∨ w.heap.size ≤ k_) ∧ OB_ k_ (.slice (some ad101) l0.length co3)) (fun _ => False) rfl rfl ?aP (fun _ hk => hk.elim) ?aF ?aO ?aB ?aS ?aL ?_; (case aP => exact rfl); (case aB => exact (gb_ HB.out)); (case aF => exact (fun k_ hk => ⟨(.inr (Nat.le_trans (by first | exact HK.out.1 | exact (show Kept w _ (fun k_ => P0_ k_) from kt_ HK).1) hk)), Kd.fresh' (Kd.R_lt (rb_ HO_0.out)) k_ hk⟩)); (case aO => exact (rb_ (Kd.R_mono HO109.out (fun _ hk => ⟨hk.1.1, hk.2⟩)))); (case aS => exact (below_size (gb_ HB.out))); (case aL => have := LMc13.out; omega); intro v111 w19 ho hb hg hat; rw [← Ny110.out] at ho; have n0_ := Aside0.mk (Kd.R_after (ok := (fun k_ => (P0_ k_ ∨ w.heap.size ≤ k_))) (rb_ HO_0.out) hg hat); have n1_ := Aside0.mk (hb); have n2_ := Aside0.mk (Kept.of_grown (S := (fun k_ => P0_ k_)) hg (kt_ HK) (fun k_ e_ => (HO109.out.1 k_ e_).1.1)); have n3_ := Aside0.mk ((show Kd.C (Kd.int .i64) w19 (some ad101) y103.length y103 from by rw [Ny103.out]; exact Kd.C_take (m := (x5_1 : Int).toNat) ((Kd.R_reads' (Kd.R_after (ok := (fun k_ => (P0_ k_ ∨ w.heap.size ≤ k_))) (rb_ HO_0.out) hg hat)).2.2) KL17.out)); have n4_ := Aside0.mk (ho); clear HO_0 HB HK HR106 HO109; have HO_0 := n0_; have HB := n1_; have HK := n2_; have HR106 := n3_; have HO112 := n4_; clear n0_ n1_ n2_ n3_ n4_ ho hb hg hat; have q20 : (x5_1 : Int) ≤ ((l0.length : Int) : Int) := of_decide_eq_true t6_; obtain ⟨i020, hi020, _, hsz20, _⟩ := info_parts info2; have hroom20 : l0.length ≤ co3 := (Kd.R_reads' HO_0.out).2.1; have hC20 : Kd.C (Kd.int .i64) _ (some ad101) l0.length l0 := (Kd.R_reads' HO_0.out).2.2; have q020 : (0 : Int) ≤ (x5_1 : Int) := of_decide_eq_true t6_; have hcut20 := cut_from (P := Tryz.prog) 24 2 .i64 Tryz.underlying24 hi020 1 hsz20 (some ad101) l0.length co3 x5_1 q020 q20; have hr20 := Kd.C_drop (m := (x5_1 : Int).toNat) (c := co3) hC20 (by omega) hroom20; obtain ⟨A20, hA20⟩ : ∃ A1, A1 = (if co3 = (x5_1 : Int).toNat then (some ad101) else ((some ad101) : Option Addr).map (·.add ((x5_1 : Int).toNat * 1))) := ⟨_, rfl⟩; obtain ⟨c20, hc20⟩ : ∃ c1, c1 = co3 - (x5_1 : Int).toNat := ⟨_, rfl⟩; have hy20 : y113.length = l0.length - (x5_1 : Int).toNat := (by rw [Ny113.out, List.length_drop] <;> omega); rw [show (l0).drop (x5_1 : Int).toNat = y113 from Ny113.out.symm] at hr20; replace hr20 : Kd.C (Kd.int .i64) _ A20 y113.length y113 := (by rw [hA20]; exact hr20); rw [← hy20, ← hA20, ← hc20] at hcut20; have HR116 := Aside0.mk hr20; have HC116 := Aside0.mk (show y113.length ≤ c20 from by rw [hy20, hc20]; exact Nat.sub_le_sub_right hroom20 _); clear hr20 hC20 hroom20 hi020 hsz20 hc20; have KY20 := Aside0.mk hy20; have KA20 := Aside0.mk hA20; clear hy20 hA20; have KL20 := Aside0.mk (show (x5_1 : Int).toNat ≤ l0.length from by omega); replace q20 := eq_true q20) | ((with_reducible refine gate_builtin (b := .append) (xs := #[.tmp 41, .tmp 44]) rfl ?_); at_builtin; refine Kd.R_append_rows (Kd.int .i64) (w0 := w0) w0.heap.size rfl (.tmp 41) (.tmp 44) 24 2 (.int .i64 0) 8 rfl Tryz.underlying24 info2 rfl (by decide) (by omega) v111 y110 y113 _ _ _ (fun k_ => (P0_ k_ ∨ w.heap.size ≤ k_) ∧ OB_ k_ (.slice (some ad101) l0.length co3)) (fun _ => False) rfl rfl ?aO ?aR (fun _ _ h => h) (fun _ h => h.elim) ?aF ?aB ?aS ?aL ?_; (case aR => exact cb_ HR116); (case aB => exact (gb_ HB.out)); (case aF => exact (fun k_ hk => ⟨(.inr (Nat.le_trans (by first | exact HK.out.1 | exact (show Kept w _ (fun k_ => P0_ k_) from kt_ HK).1) hk)), Kd.fresh' (Kd.R_lt (rb_ HO_0.out)) k_ hk⟩)); (case aO => exact (rb_ HO112.out)); (case aS => exact (below_size (gb_ HB.out))); (case aL => have := LMc16.out; omega); intro v118 w21 ho hb hg hat; rw [← Ny117.out] at ho; have n0_ := Aside0.mk (Kd.R_after (ok := (fun k_ => (P0_ k_ ∨ w.heap.size ≤ k_))) (rb_ HO_0.out) hg hat); have n1_ := Aside0.mk (hb); have n2_ := Aside0.mk (Kept.of_grown (S := (fun k_ => P0_ k_)) hg (kt_ HK) (fun k_ e_ => (HO112.out.1 k_ e_).1)); have n3_ := Aside0.mk ((show Kd.C (Kd.int .i64) w21 (some ad101) y103.length y103 from by rw [Ny103.out]; exact Kd.C_take (m := (x5_1 : Int).toNat) ((Kd.R_reads' (Kd.R_after (ok := (fun k_ => (P0_ k_ ∨ w.heap.size ≤ k_))) (rb_ HO_0.out) hg hat)).2.2) KL17.out)); have n4_ := Aside0.mk ((show Kd.C (Kd.int .i64) w21 A20 y113.length y113 from by rw [Ny113.out, KA20.out]; exact Kd.C_drop (m := (x5_1 : Int).toNat) (c := co3) ((Kd.R_reads' (Kd.R_after (ok := (fun k_ => (P0_ k_ ∨ w.heap.size ≤ k_))) (rb_ HO_0.out) hg hat)).2.2) KL20.out ((Kd.R_reads' (Kd.R_after (ok := (fun k_ => (P0_ k_ ∨ w.heap.size ≤ k_))) (rb_ HO_0.out) hg hat)).2.1))); have n5_ := Aside0.mk (ho); clear HO_0 HB HK HR106 HR116 HO112; have HO_0 := n0_; have HB := n1_; have HK := n2_; have HR106 := n3_; have HR116 := n4_; have HO119 := n5_; clear n0_ n1_ n2_ n3_ n4_ n5_ ho hb hg hat))
 go_ret
 exact ⟨_, by first | rfl | (simp [errW_none, errW_some] <;> rfl) | (simp only [← hji5]; first | rfl | (simp [errW_none, errW_some] <;> rfl)) | (simp [*, errW_none, errW_some] <;> rfl), rb_ (Kd.R_mono HO119.out (fun _ hk => hk.1)), gb_ HB.out, kt_ HK⟩
set_option maxHeartbeats 8000000 in
set_option maxRecDepth 100000 in
theorem spec_l01Put.callsQ (k : Nat) (P0_ : Nat → Prop) (u9000_ : Value) (l0 : List Int) (a1 : Int) (r : List Int) (w0 w : World) (hB : Below w0.heap.size w0 w) (ho0 : Kd.Q (Kd.int .i64) 2 w w0.heap.size P0_ u9000_ l0) (h : spec_l01Put.f k l0 a1 = some r) :
  Calls Tryz.prog 36 #[u9000_, .int .i64 a1] w fun e w' => ∃ v0_ : Value, e = .returned (v0_) ∧ Kd.Q (Kd.int .i64) 2 w' w0.heap.size (fun k_ => (P0_ k_ ∨ w.heap.size ≤ k_)) v0_ r ∧ Below w0.heap.size w0 w' ∧ Kept w w' (fun k_ => P0_ k_) := by
 have HO0 := Aside0.mk (show Kd.Q (Kd.int .i64) 2 w w0.heap.size (fun k_ => (P0_ k_ ∨ w.heap.size ≤ k_)) u9000_ l0 from Kd.Q_mono ho0 (fun k_ hk => (.inl hk)))
 have HK := Aside0.mk (Kept.refl w (fun k_ => P0_ k_))
 have HW0 := Aside0.mk hB.size
 have HB := Aside0.mk hB
 clear hB
 have H := h
 clear h
 unfold spec_l01Put.f at H
 have H' := Aside0.mk H
 clear H
 obtain ⟨Ao3, co3, eo3, _⟩ := Kd.Q_slice HO0.out
 subst eo3
 go_enter Tryz.func36, Tryz.ntmps36
 go_wp2
 go_loopg [5] k (fun kq v5 w' => ∃ (x5_1 : Int), v5 = .int .i64 x5_1 ∧ Aside0 (spec_l01Put.l0 kq l0 a1 x5_1 = some r) ∧ Aside0 (kq ≤ k) ∧ Aside0 (Kd.Q (Kd.int .i64) 2 w' w0.heap.size (fun k_ => (P0_ k_ ∨ w.heap.size ≤ k_)) (.slice Ao3 l0.length co3) l0) ∧ Aside0 (Kept w w' (fun k_ => P0_ k_)) ∧ Aside0 (Below w0.heap.size w0 w'))
 case atStart => exact ⟨((l0.length : Int)), t2_, H', ⟨Nat.le_refl _⟩, ⟨qb_ HO0.out⟩, ⟨kt_ HK⟩, ⟨gb_ HB.out⟩⟩
 clear H'
 try clear p2
 try clear c3
 obtain ⟨x5_1, rfl, HA, HK1, HO_0, HK, HB⟩ := hrel
 obtain _ | k1 := gk
 ·exact absurd HA.out (by simp [spec_l01Put.l0])
 have H := HA.out
 clear HA
 simp only [spec_l01Put.l0] at H
 by_cases c4 : x5_1 > 0
 rotate_left
 ·rw [if_neg c4] at H
  have c4b0 : decide (0 < x5_1) = false := decide_eq_false c4
  clear c4
  replace H := ip_ H
  obtain ⟨c22, H⟩ := H
  have c22b0 := eq_true c22
  have c22b1 := decide_eq_true c22
  clear c22
  replace H := ip_ H
  obtain ⟨c23, H⟩ := H
  have c23b0 := eq_true c23
  have c23b1 := decide_eq_true c23
  clear c23
  obtain ⟨y120, hy120⟩ : ∃ y_ : List Int, y_ = (l0.take (x5_1 : Int).toNat) := ⟨_, rfl⟩
  replace H : ((spec_l01Own.f y120).bind fun t124 => (if t124.length < 17592186044416 then ((some (t124 ++ [a1] : List Int)).bind fun y127 => ((some (l0.drop (x5_1 : Int).toNat : List Int)).bind fun y130 => (if y127.length + y130.length < 17592186044416 then (some (y127 ++ y130)) else (none)))) else (none))) = some r := y_ H
  have Ny120 := Aside0.mk hy120
  clear hy120
  replace H := bd_ H
  obtain ⟨t124, A24, H⟩ := H
  replace H := ip_ H
  obtain ⟨c25, H⟩ := H
  have LMc25 := Aside0.mk c25
  clear c25
  replace H := yb_ H
  obtain ⟨y127, Ny127, H⟩ := H
  have c26b0 := eq_true (of_decide_eq_true t6_ : 0 ≤ x5_1)
  have c27b0 := eq_true (of_decide_eq_true t6_ : x5_1 ≤ (l0.length : Int))
  replace H := yb_ H
  obtain ⟨y130, Ny130, H⟩ := H
  replace H := ip_ H
  obtain ⟨c28, H⟩ := H
  have LMc28 := Aside0.mk c28
  clear c28
  obtain ⟨y134, hy134⟩ : ∃ y_ : List Int, y_ = (y127 ++ y130) := ⟨_, rfl⟩
  replace H : (some y134) = some r := y_ H
  have Ny134 := Aside0.mk hy134
  clear hy134
  obtain rfl := Option.some.inj H
  have q29 : (x5_1 : Int) ≤ ((l0.length : Int) : Int) := of_decide_eq_true t6_
  obtain ⟨i029, hi029, _, hsz29, _⟩ := info_parts info2
  have hroom29 : l0.length ≤ co3 := (Kd.Q_reads' HO_0.out).2.1
  have hC29 : Kd.C (Kd.int .i64) _ Ao3 l0.length l0 := (Kd.Q_reads' HO_0.out).2.2
  have hcut29 := cut_to (P := Tryz.prog) 24 2 .i64 Tryz.underlying24 hi029 Ao3 l0.length co3 x5_1 (of_decide_eq_true t6_) q29 hroom29
  have hr29 := Kd.C_take (m := (x5_1 : Int).toNat) hC29 (by omega)
  have hy29 : y120.length = (x5_1 : Int).toNat := (by rw [Ny120.out, List.length_take]; omega)
  rw [← Ny120.out] at hr29
  rw [← hy29] at hcut29
  have HR123 := Aside0.mk hr29
  have HC123 := Aside0.mk (show y120.length ≤ co3 from by omega)
  clear hr29 hC29 hroom29 hi029 hsz29
  have KY29 := Aside0.mk hy29
  clear hy29
  have KL29 := Aside0.mk (show (x5_1 : Int).toNat ≤ l0.length from by omega)
  replace q29 := eq_true q29
  go_wp2_with (first | ((with_reducible refine gate_callee (f := 35) rfl ?_); refine gl_ (some 37) rfl rfl Tryz.func35 #[.slice Ao3 y120.length co3] rfl ?_; (with_reducible refine (spec_l01Own.calls _ _ y120 t124 _ ?side1 ?side2 A24.out).mono ?_); (case side1 => exact cb_ HR123); (case side2 => exact HC123.out); rintro e w30 ⟨v125, rfl, ho0, hb⟩; refine ⟨_, rfl, ?_⟩; have HO126 := Aside0.mk (Kd.R_lower (Kd.R_new' (Kd.R_newM (M := fun k_ => (P0_ k_ ∨ w.heap.size ≤ k_)) ho0 (by first | exact HK.out.1 | exact (show Kept w _ (fun k_ => P0_ k_) from kt_ HK).1) (fun k_ h_ => .inr h_)) (Kd.Q_lt (qb_ HO_0.out))) (below_size (gb_ HB.out))); replace HO_0 := Aside0.mk (Kd.Q_elder' (qb_ HO_0.out) (Kd.R_base ho0) hb); replace HR123 := Aside0.mk (Kd.C_below (cb_ HR123) hb); replace HK := Aside0.mk (Kept.below (S := (fun k_ => P0_ k_)) (kt_ HK) hb); replace HB := b1_ HB hb; (try clear hb); (try clear hb2); (try clear hk); (try clear hi); (try clear ho0)) | ((with_reducible refine gate_builtin (b := .append) (xs := #[.tmp 37, .tmp 39]) rfl ?_); at_builtin; refine Kd.R_append (Kd.int .i64) (w0 := w0) w0.heap.size rfl (.tmp 37) (.tmp 39) 24 2 (.int .i64 0) 8 rfl Tryz.underlying24 info2 rfl (by decide) (by omega) v125 t124 a1 [.int .i64 a1] (fun k_ => (P0_ k_ ∨ w.heap.size ≤ k_) ∧ OB_ k_ (.slice Ao3 l0.length co3)) (fun _ => False) rfl rfl ?aP (fun _ hk => hk.elim) ?aF ?aO ?aB ?aS ?aL ?_; (case aP => exact rfl); (case aB => exact (gb_ HB.out)); (case aF => exact (fun k_ hk => ⟨(.inr (Nat.le_trans (by first | exact HK.out.1 | exact (show Kept w _ (fun k_ => P0_ k_) from kt_ HK).1) hk)), Kd.fresh' (Kd.Q_lt (qb_ HO_0.out)) k_ hk⟩)); (case aO => exact (rb_ (Kd.R_mono HO126.out (fun _ hk => ⟨hk.1.1, hk.2⟩)))); (case aS => exact (below_size (gb_ HB.out))); (case aL => have := LMc25.out; omega); intro v128 w31 ho hb hg hat; rw [← Ny127.out] at ho; have n0_ := Aside0.mk (Kd.Q_after (ok := (fun k_ => (P0_ k_ ∨ w.heap.size ≤ k_))) (qb_ HO_0.out) hg hat); have n1_ := Aside0.mk (hb); have n2_ := Aside0.mk (Kept.of_grown (S := (fun k_ => P0_ k_)) hg (kt_ HK) (fun k_ e_ => (HO126.out.1 k_ e_).1.1)); have n3_ := Aside0.mk ((show Kd.C (Kd.int .i64) w31 Ao3 y120.length y120 from by rw [Ny120.out]; exact Kd.C_take (m := (x5_1 : Int).toNat) ((Kd.Q_reads' (Kd.Q_after (ok := (fun k_ => (P0_ k_ ∨ w.heap.size ≤ k_))) (qb_ HO_0.out) hg hat)).2.2) KL29.out)); have n4_ := Aside0.mk (ho); clear HO_0 HB HK HR123 HO126; have HO_0 := n0_; have HB := n1_; have HK := n2_; have HR123 := n3_; have HO129 := n4_; clear n0_ n1_ n2_ n3_ n4_ ho hb hg hat; have q32 : (x5_1 : Int) ≤ ((l0.length : Int) : Int) := of_decide_eq_true t6_; obtain ⟨i032, hi032, _, hsz32, _⟩ := info_parts info2; have hroom32 : l0.length ≤ co3 := (Kd.Q_reads' HO_0.out).2.1; have hC32 : Kd.C (Kd.int .i64) _ Ao3 l0.length l0 := (Kd.Q_reads' HO_0.out).2.2; have q032 : (0 : Int) ≤ (x5_1 : Int) := of_decide_eq_true t6_; have hcut32 := cut_from (P := Tryz.prog) 24 2 .i64 Tryz.underlying24 hi032 1 hsz32 Ao3 l0.length co3 x5_1 q032 q32; have hr32 := Kd.C_drop (m := (x5_1 : Int).toNat) (c := co3) hC32 (by omega) hroom32; obtain ⟨A32, hA32⟩ : ∃ A1, A1 = (if co3 = (x5_1 : Int).toNat then Ao3 else (Ao3 : Option Addr).map (·.add ((x5_1 : Int).toNat * 1))) := ⟨_, rfl⟩; obtain ⟨c32, hc32⟩ : ∃ c1, c1 = co3 - (x5_1 : Int).toNat := ⟨_, rfl⟩; have hy32 : y130.length = l0.length - (x5_1 : Int).toNat := (by rw [Ny130.out, List.length_drop] <;> omega); rw [show (l0).drop (x5_1 : Int).toNat = y130 from Ny130.out.symm] at hr32; replace hr32 : Kd.C (Kd.int .i64) _ A32 y130.length y130 := (by rw [hA32]; exact hr32); rw [← hy32, ← hA32, ← hc32] at hcut32; have HR133 := Aside0.mk hr32; have HC133 := Aside0.mk (show y130.length ≤ c32 from by rw [hy32, hc32]; exact Nat.sub_le_sub_right hroom32 _); clear hr32 hC32 hroom32 hi032 hsz32 hc32; have KY32 := Aside0.mk hy32; have KA32 := Aside0.mk hA32; clear hy32 hA32; have KL32 := Aside0.mk (show (x5_1 : Int).toNat ≤ l0.length from by omega); replace q32 := eq_true q32) | ((with_reducible refine gate_builtin (b := .append) (xs := #[.tmp 41, .tmp 44]) rfl ?_); at_builtin; refine Kd.R_append_rows (Kd.int .i64) (w0 := w0) w0.heap.size rfl (.tmp 41) (.tmp 44) 24 2 (.int .i64 0) 8 rfl Tryz.underlying24 info2 rfl (by decide) (by omega) v128 y127 y130 _ _ _ (fun k_ => (P0_ k_ ∨ w.heap.size ≤ k_) ∧ OB_ k_ (.slice Ao3 l0.length co3)) (fun _ => False) rfl rfl ?aO ?aR (fun _ _ h => h) (fun _ h => h.elim) ?aF ?aB ?aS ?aL ?_; (case aR => exact cb_ HR133); (case aB => exact (gb_ HB.out)); (case aF => exact (fun k_ hk => ⟨(.inr (Nat.le_trans (by first | exact HK.out.1 | exact (show Kept w _ (fun k_ => P0_ k_) from kt_ HK).1) hk)), Kd.fresh' (Kd.Q_lt (qb_ HO_0.out)) k_ hk⟩)); (case aO => exact (rb_ HO129.out)); (case aS => exact (below_size (gb_ HB.out))); (case aL => have := LMc28.out; omega); intro v135 w33 ho hb hg hat; rw [← Ny134.out] at ho; have n0_ := Aside0.mk (Kd.Q_after (ok := (fun k_ => (P0_ k_ ∨ w.heap.size ≤ k_))) (qb_ HO_0.out) hg hat); have n1_ := Aside0.mk (hb); have n2_ := Aside0.mk (Kept.of_grown (S := (fun k_ => P0_ k_)) hg (kt_ HK) (fun k_ e_ => (HO129.out.1 k_ e_).1)); have n3_ := Aside0.mk ((show Kd.C (Kd.int .i64) w33 Ao3 y120.length y120 from by rw [Ny120.out]; exact Kd.C_take (m := (x5_1 : Int).toNat) ((Kd.Q_reads' (Kd.Q_after (ok := (fun k_ => (P0_ k_ ∨ w.heap.size ≤ k_))) (qb_ HO_0.out) hg hat)).2.2) KL29.out)); have n4_ := Aside0.mk ((show Kd.C (Kd.int .i64) w33 A32 y130.length y130 from by rw [Ny130.out, KA32.out]; exact Kd.C_drop (m := (x5_1 : Int).toNat) (c := co3) ((Kd.Q_reads' (Kd.Q_after (ok := (fun k_ => (P0_ k_ ∨ w.heap.size ≤ k_))) (qb_ HO_0.out) hg hat)).2.2) KL32.out ((Kd.Q_reads' (Kd.Q_after (ok := (fun k_ => (P0_ k_ ∨ w.heap.size ≤ k_))) (qb_ HO_0.out) hg hat)).2.1))); have n5_ := Aside0.mk (ho); clear HO_0 HB HK HR123 HR133 HO129; have HO_0 := n0_; have HB := n1_; have HK := n2_; have HR123 := n3_; have HR133 := n4_; have HO136 := n5_; clear n0_ n1_ n2_ n3_ n4_ n5_ ho hb hg hat))
  go_ret
  exact ⟨_, t5_, Kd.Q_of_R (rb_ (Kd.R_mono HO136.out (fun _ hk => hk.1))), gb_ HB.out, kt_ HK⟩
 rw [if_pos c4] at H
 have c4b0 : decide (0 < x5_1) = true := decide_eq_true c4
 clear c4
 obtain ⟨ji5, hji5⟩ : ∃ j_ : Int, (wrap64 (x5_1 - 1)) = j_ := ⟨_, rfl⟩
 replace H : (if 0 ≤ (ji5) then (if (ji5) < (l0.length : Int) then (if (rd l0 (ji5)) > a1 then (spec_l01Put.l0 k1 l0 a1 ji5) else (if (rd l0 (ji5)) = a1 then (some l0) else (if 0 ≤ x5_1 then (if x5_1 ≤ (l0.length : Int) then ((spec_l01Own.f (l0.take (x5_1 : Int).toNat)).bind fun t107 => (if t107.length < 17592186044416 then ((some (t107 ++ [a1] : List Int)).bind fun y110 => ((some (l0.drop (x5_1 : Int).toNat : List Int)).bind fun y113 => (if y110.length + y113.length < 17592186044416 then (some (y110 ++ y113)) else (none)))) else (none))) else (none)) else (none)))) else (none)) else (none)) = some r := by first | (rw [hji5] at H; exact H) | (simp only [hji5] at H ⊢; exact H)
 have hji5w : (IntKind.i64.wrap (x5_1 - 1)) = ji5 := (i64_w _).trans hji5
 replace H := id_ H
 obtain ⟨c6b0, H⟩ := H
 replace H := id_ H
 obtain ⟨c7b0, H⟩ := H
 by_cases c8 : (rd l0 (ji5)) > a1
 ·rw [if_pos c8] at H
  have c8b0 : decide (a1 < (rd l0 (ji5))) = true := decide_eq_true c8
  clear c8
  have H' := Aside0.mk H
  clear H
  have p101 : 0 ≤ ((ji5) : Int) := of_decide_eq_true t6_
  have q101 : (ji5) < (l0.length : Int) := of_decide_eq_true t6_
  obtain ⟨ad101, e101, hx101_0⟩ := Kd.at_int (Kd.Q_reads' HO_0.out).2.2 (ji5) p101 q101
  cases e101
  replace p101 := eq_true p101
  replace q101 := eq_true q101
  go_wp2
  go_roundg k1
  case measure => have := HK1.out; omega
  case rel => exact ⟨(ji5), (by first | rfl | (simp; done) | (simp only [← hji5] <;> (first | rfl | simp)) | (simp [*]; done)), H', ⟨by have := HK1.out; omega⟩, ⟨qb_ HO_0.out⟩, ⟨kt_ HK⟩, ⟨gb_ HB.out⟩⟩
 rw [if_neg c8] at H
 have c8b0 : decide (a1 < (rd l0 (ji5))) = false := decide_eq_false c8
 clear c8
 by_cases c9 : (rd l0 (ji5)) = a1
 ·rw [if_pos c9] at H
  have c9b0 : ((rd l0 (ji5)) == a1) = true := beq_iff_eq.mpr c9
  have c9b1 : ((rd l0 (ji5)) != a1) = false := bne_eq_false_iff_eq.mpr c9
  clear c9
  obtain rfl := Option.some.inj H
  have p101 : 0 ≤ ((ji5) : Int) := of_decide_eq_true t6_
  have q101 : (ji5) < (l0.length : Int) := of_decide_eq_true t6_
  obtain ⟨ad101, e101, hx101_0⟩ := Kd.at_int (Kd.Q_reads' HO_0.out).2.2 (ji5) p101 q101
  cases e101
  replace p101 := eq_true p101
  replace q101 := eq_true q101
  have p102 : 0 ≤ ((ji5) : Int) := of_decide_eq_true t6_
  have q102 : (ji5) < (l0.length : Int) := of_decide_eq_true t6_
  obtain ⟨ad102, e102, hx102_0⟩ := Kd.at_int (Kd.Q_reads' HO_0.out).2.2 (ji5) p102 q102
  obtain rfl : ad101 = ad102 := (by injection e102)
  replace p102 := eq_true p102
  replace q102 := eq_true q102
  go_wp2
  go_ret
  exact ⟨_, by first | rfl | (simp [errW_none, errW_some] <;> rfl) | (simp only [← hji5]; first | rfl | (simp [errW_none, errW_some] <;> rfl)) | (simp [*, errW_none, errW_some] <;> rfl), qb_ HO_0.out, gb_ HB.out, kt_ HK⟩
 rw [if_neg c9] at H
 have c9b0 : ((rd l0 (ji5)) == a1) = false := beq_eq_false_iff_ne.mpr c9
 have c9b1 : ((rd l0 (ji5)) != a1) = true := bne_iff_ne.mpr c9
 replace H := ip_ H
 obtain ⟨c10, H⟩ := H
 have c10b0 := eq_true c10
 have c10b1 := decide_eq_true c10
 clear c10
 replace H := ip_ H
 obtain ⟨c11, H⟩ := H
 have c11b0 := eq_true c11
 have c11b1 := decide_eq_true c11
 clear c11
 obtain ⟨y103, hy103⟩ : ∃ y_ : List Int, y_ = (l0.take (x5_1 : Int).toNat) := ⟨_, rfl⟩
 replace H : ((spec_l01Own.f y103).bind fun t107 => (if t107.length < 17592186044416 then ((some (t107 ++ [a1] : List Int)).bind fun y110 => ((some (l0.drop (x5_1 : Int).toNat : List Int)).bind fun y113 => (if y110.length + y113.length < 17592186044416 then (some (y110 ++ y113)) else (none)))) else (none))) = some r := y_ H
 have Ny103 := Aside0.mk hy103
 clear hy103
 replace H := bd_ H
 obtain ⟨t107, A12, H⟩ := H
 replace H := ip_ H
 obtain ⟨c13, H⟩ := H
 have LMc13 := Aside0.mk c13
 clear c13
 replace H := yb_ H
 obtain ⟨y110, Ny110, H⟩ := H
 have c14b0 := eq_true (of_decide_eq_true t6_ : 0 ≤ x5_1)
 have c15b0 := eq_true (of_decide_eq_true t6_ : x5_1 ≤ (l0.length : Int))
 replace H := yb_ H
 obtain ⟨y113, Ny113, H⟩ := H
 replace H := ip_ H
 obtain ⟨c16, H⟩ := H
 have LMc16 := Aside0.mk c16
 clear c16
 obtain ⟨y117, hy117⟩ : ∃ y_ : List Int, y_ = (y110 ++ y113) := ⟨_, rfl⟩
 replace H : (some y117) = some r := y_ H
 have Ny117 := Aside0.mk hy117
 clear hy117
 obtain rfl := Option.some.inj H
 have p101 : 0 ≤ ((ji5) : Int) := of_decide_eq_true t6_
 have q101 : (ji5) < (l0.length : Int) := of_decide_eq_true t6_
 obtain ⟨ad101, e101, hx101_0⟩ := Kd.at_int (Kd.Q_reads' HO_0.out).2.2 (ji5) p101 q101
 cases e101
 replace p101 := eq_true p101
 replace q101 := eq_true q101
 have p102 : 0 ≤ ((ji5) : Int) := of_decide_eq_true t6_
 have q102 : (ji5) < (l0.length : Int) := of_decide_eq_true t6_
 obtain ⟨ad102, e102, hx102_0⟩ := Kd.at_int (Kd.Q_reads' HO_0.out).2.2 (ji5) p102 q102
 obtain rfl : ad101 = ad102 := (by injection e102)
 replace p102 := eq_true p102
 replace q102 := eq_true q102
 have q17 : (x5_1 : Int) ≤ ((l0.length : Int) : Int) := of_decide_eq_true t6_
 obtain ⟨i017, hi017, _, hsz17, _⟩ := info_parts info2
 have hroom17 : l0.length ≤ co3 := (Kd.Q_reads' HO_0.out).2.1
 have hC17 : Kd.C (Kd.int .i64) _ (some ad101) l0.length l0 := (Kd.Q_reads' HO_0.out).2.2
 have hcut17 := cut_to (P := Tryz.prog) 24 2 .i64 Tryz.underlying24 hi017 (some ad101) l0.length co3 x5_1 (of_decide_eq_true t6_) q17 hroom17
 have hr17 := Kd.C_take (m := (x5_1 : Int).toNat) hC17 (by omega)
 have hy17 : y103.length = (x5_1 : Int).toNat := (by rw [Ny103.out, List.length_take]; omega)
 rw [← Ny103.out] at hr17
 rw [← hy17] at hcut17
 have HR106 := Aside0.mk hr17
 have HC106 := Aside0.mk (show y103.length ≤ co3 from by omega)
 clear hr17 hC17 hroom17 hi017 hsz17
 have KY17 := Aside0.mk hy17
 clear hy17
 have KL17 := Aside0.mk (show (x5_1 : Int).toNat ≤ l0.length from by omega)
 replace q17 := eq_true q17
 go_wp2_with (first | ((with_reducible refine gate_callee (f := 35) rfl ?_); refine gl_ (some 37) rfl rfl Tryz.func35 #[.slice (some ad101) y103.length co3] rfl ?_; (with_reducible refine (spec_l01Own.calls _ _ y103 t107 _ ?side1 ?side2 A12.out).mono ?_); (case side1 => exact cb_ HR106); (case side2 => exact HC106.out); rintro e w18 ⟨v108, rfl, ho0, hb⟩; refine ⟨_, rfl, ?_⟩; have HO109 := Aside0.mk (Kd.R_lower (Kd.R_new' (Kd.R_newM (M := fun k_ => (P0_ k_ ∨ w.heap.size ≤ k_)) ho0 (by first | exact HK.out.1 | exact (show Kept w _ (fun k_ => P0_ k_) from kt_ HK).1) (fun k_ h_ => .inr h_)) (Kd.Q_lt (qb_ HO_0.out))) (below_size (gb_ HB.out))); replace HO_0 := Aside0.mk (Kd.Q_elder' (qb_ HO_0.out) (Kd.R_base ho0) hb); replace HR106 := Aside0.mk (Kd.C_below (cb_ HR106) hb); replace HK := Aside0.mk (Kept.below (S := (fun k_ => P0_ k_)) (kt_ HK) hb); replace HB := b1_ HB hb; (try clear hb); (try clear hb2); (try clear hk); (try clear hi); (try clear ho0)) | ((with_reducible refine gate_builtin (b := .append) (xs := #[.tmp 37, .tmp 39]) rfl ?_); at_builtin; refine Kd.R_append (Kd.int .i64) (w0 := w0) w0.heap.size rfl (.tmp 37) (.tmp 39) 24 2 (.int .i64 0) 8 rfl Tryz.underlying24 info2 rfl (by decide) (by omega) v108 t107 a1 [.int .i64 a1] (fun k_ => (P0_ k_ ∨ w.heap.size ≤ k_) ∧ OB_ k_ (.slice (some ad101) l0.length co3)) (fun _ => False) rfl rfl ?aP (fun _ hk => hk.elim) ?aF ?aO ?aB ?aS ?aL ?_; (case aP => exact rfl); (case aB => exact (gb_ HB.out)); (case aF => exact (fun k_ hk => ⟨(.inr (Nat.le_trans (by first | exact HK.out.1 | exact (show Kept w _ (fun k_ => P0_ k_) from kt_ HK).1) hk)), Kd.fresh' (Kd.Q_lt (qb_ HO_0.out)) k_ hk⟩)); (case aO => exact (rb_ (Kd.R_mono HO109.out (fun _ hk => ⟨hk.1.1, hk.2⟩)))); (case aS => exact (below_size (gb_ HB.out))); (case aL => have := LMc13.out; omega); intro v111 w19 ho hb hg hat; rw [← Ny110.out] at ho; have n0_ := Aside0.mk (Kd.Q_after (ok := (fun k_ => (P0_ k_ ∨ w.heap.size ≤ k_))) (qb_ HO_0.out) hg hat); have n1_ := Aside0.mk (hb); have n2_ := Aside0.mk (Kept.of_grown (S := (fun k_ => P0_ k_)) hg (kt_ HK) (fun k_ e_ => (HO109.out.1 k_ e_).1.1)); have n3_ := Aside0.mk ((show Kd.C (Kd.int .i64) w19 (some ad101) y103.length y103 from by rw [Ny103.out]; exact Kd.C_take (m := (x5_1 : Int).toNat) ((Kd.Q_reads' (Kd.Q_after (ok := (fun k_ => (P0_ k_ ∨ w.heap.size ≤ k_))) (qb_ HO_0.out) hg hat)).2.2) KL17.out)); have n4_ := Aside0.mk (ho); clear HO_0 HB HK HR106 HO109; have HO_0 := n0_; have HB := n1_; have HK := n2_; have HR106 := n3_; have HO112 := n4_; clear n0_ n1_ n2_ n3_ n4_ ho hb hg hat; have q20 : (x5_1 : Int) ≤ ((l0.length : Int) : Int) := of_decide_eq_true t6_; obtain ⟨i020, hi020, _, hsz20, _⟩ := info_parts info2; have hroom20 : l0.length ≤ co3 := (Kd.Q_reads' HO_0.out).2.1; have hC20 : Kd.C (Kd.int .i64) _ (some ad101) l0.length l0 := (Kd.Q_reads' HO_0.out).2.2; have q020 : (0 : Int) ≤ (x5_1 : Int) := of_decide_eq_true t6_; have hcut20 := cut_from (P := Tryz.prog) 24 2 .i64 Tryz.underlying24 hi020 1 hsz20 (some ad101) l0.length co3 x5_1 q020 q20; have hr20 := Kd.C_drop (m := (x5_1 : Int).toNat) (c := co3) hC20 (by omega) hroom20; obtain ⟨A20, hA20⟩ : ∃ A1, A1 = (if co3 = (x5_1 : Int).toNat then (some ad101) else ((some ad101) : Option Addr).map (·.add ((x5_1 : Int).toNat * 1))) := ⟨_, rfl⟩; obtain ⟨c20, hc20⟩ : ∃ c1, c1 = co3 - (x5_1 : Int).toNat := ⟨_, rfl⟩; have hy20 : y113.length = l0.length - (x5_1 : Int).toNat := (by rw [Ny113.out, List.length_drop] <;> omega); rw [show (l0).drop (x5_1 : Int).toNat = y113 from Ny113.out.symm] at hr20; replace hr20 : Kd.C (Kd.int .i64) _ A20 y113.length y113 := (by rw [hA20]; exact hr20); rw [← hy20, ← hA20, ← hc20] at hcut20; have HR116 := Aside0.mk hr20; have HC116 := Aside0.mk (show y113.length ≤ c20 from by rw [hy20, hc20]; exact Nat.sub_le_sub_right hroom20 _); clear hr20 hC20 hroom20 hi020 hsz20 hc20; have KY20 := Aside0.mk hy20; have KA20 := Aside0.mk hA20; clear hy20 hA20; have KL20 := Aside0.mk (show (x5_1 : Int).toNat ≤ l0.length from by omega); replace q20 := eq_true q20) | ((with_reducible refine gate_builtin (b := .append) (xs := #[.tmp 41, .tmp 44]) rfl ?_); at_builtin; refine Kd.R_append_rows (Kd.int .i64) (w0 := w0) w0.heap.size rfl (.tmp 41) (.tmp 44) 24 2 (.int .i64 0) 8 rfl Tryz.underlying24 info2 rfl (by decide) (by omega) v111 y110 y113 _ _ _ (fun k_ => (P0_ k_ ∨ w.heap.size ≤ k_) ∧ OB_ k_ (.slice (some ad101) l0.length co3)) (fun _ => False) rfl rfl ?aO ?aR (fun _ _ h => h) (fun _ h => h.elim) ?aF ?aB ?aS ?aL ?_; (case aR => exact cb_ HR116); (case aB => exact (gb_ HB.out)); (case aF => exact (fun k_ hk => ⟨(.inr (Nat.le_trans (by first | exact HK.out.1 | exact (show Kept w _ (fun k_ => P0_ k_) from kt_ HK).1) hk)), Kd.fresh' (Kd.Q_lt (qb_ HO_0.out)) k_ hk⟩)); (case aO => exact (rb_ HO112.out)); (case aS => exact (below_size (gb_ HB.out))); (case aL => have := LMc16.out; omega); intro v118 w21 ho hb hg hat; rw [← Ny117.out] at ho; have n0_ := Aside0.mk (Kd.Q_after (ok := (fun k_ => (P0_ k_ ∨ w.heap.size ≤ k_))) (qb_ HO_0.out) hg hat); have n1_ := Aside0.mk (hb); have n2_ := Aside0.mk (Kept.of_grown (S := (fun k_ => P0_ k_)) hg (kt_ HK) (fun k_ e_ => (HO112.out.1 k_ e_).1)); have n3_ := Aside0.mk ((show Kd.C (Kd.int .i64) w21 (some ad101) y103.length y103 from by rw [Ny103.out]; exact Kd.C_take (m := (x5_1 : Int).toNat) ((Kd.Q_reads' (Kd.Q_after (ok := (fun k_ => (P0_ k_ ∨ w.heap.size ≤ k_))) (qb_ HO_0.out) hg hat)).2.2) KL17.out)); have n4_ := Aside0.mk ((show Kd.C (Kd.int .i64) w21 A20 y113.length y113 from by rw [Ny113.out, KA20.out]; exact Kd.C_drop (m := (x5_1 : Int).toNat) (c := co3) ((Kd.Q_reads' (Kd.Q_after (ok := (fun k_ => (P0_ k_ ∨ w.heap.size ≤ k_))) (qb_ HO_0.out) hg hat)).2.2) KL20.out ((Kd.Q_reads' (Kd.Q_after (ok := (fun k_ => (P0_ k_ ∨ w.heap.size ≤ k_))) (qb_ HO_0.out) hg hat)).2.1))); have n5_ := Aside0.mk (ho); clear HO_0 HB HK HR106 HR116 HO112; have HO_0 := n0_; have HB := n1_; have HK := n2_; have HR106 := n3_; have HR116 := n4_; have HO119 := n5_; clear n0_ n1_ n2_ n3_ n4_ n5_ ho hb hg hat))
 go_ret
 exact ⟨_, by first | rfl | (simp [errW_none, errW_some] <;> rfl) | (simp only [← hji5]; first | rfl | (simp [errW_none, errW_some] <;> rfl)) | (simp [*, errW_none, errW_some] <;> rfl), Kd.Q_of_R (rb_ (Kd.R_mono HO119.out (fun _ hk => hk.1))), gb_ HB.out, kt_ HK⟩
def spec_l01Digits.l0 : Nat → Int → List Int → Int → List Int → Option (List Int)
 | 0, _, _, _, _ => none
 | k + 1, x1, x5, x6, x102000 => if x6 ≥ 0 then (if 0 ≤ x6 then (if x6 < (x102000.length : Int) then (if (rd x102000 x6) = 0 then (none) else (if x6 < (x5.length : Int) then (spec_l01Digits.l0 k (wrap64 (Int.tdiv x1 (rd x102000 x6))) (x5.set (x6 : Int).toNat (Int.tmod x1 (rd x102000 x6))) (wrap64 (x6 - 1)) x102000) else (none))) else (none)) else (none)) else (some x5)
def spec_l01Digits.f (k : Nat) (l0_0 : List Int) (a1 : Int) : Option (List Int) := if 0 ≤ (l0_0.length : Int) then (if ((l0_0.length : Int) : Int).toNat ≤ 35184372088832 then (spec_l01Digits.l0 k a1 (List.replicate ((l0_0.length : Int) : Int).toNat 0) (wrap64 ((l0_0.length : Int) - 1)) l0_0) else (none)) else (none)
set_option maxHeartbeats 8000000 in
set_option maxRecDepth 100000 in
theorem spec_l01Digits.calls (k : Nat) (A0_0 : Option Addr) (c0_0 : Nat) (l0_0 : List Int) (a1 : Int) (r : List Int) (w : World) (hr0_0 : Kd.C (Kd.int .i64) w A0_0 l0_0.length l0_0) (hc0_0 : l0_0.length ≤ c0_0) (h : spec_l01Digits.f k l0_0 a1 = some r) :
  Calls Tryz.prog 76 #[.agg #[.slice A0_0 l0_0.length c0_0], .int .i64 a1] w fun e w' => ∃ v0_ : Value, e = .returned (v0_) ∧ Kd.R (Kd.int .i64) 2 w' w.heap.size (fun _ => True) v0_ r ∧ Below w.heap.size w w' := by
 have hu26 := Tryz.underlying26
 have HR0_0 := Aside0.mk hr0_0
 have HC0_0 := Aside0.mk hc0_0
 clear hr0_0 hc0_0
 have HB := Aside0.mk (Below.refl w.heap.size w)
 have H := h
 clear h
 unfold spec_l01Digits.f at H
 replace H := ip_ H
 obtain ⟨c3, H⟩ := H
 have c3b0 := eq_true c3
 have c3b1 := decide_eq_true c3
 clear c3
 replace H := ip_ H
 obtain ⟨c4, H⟩ := H
 have c4b0 := eq_true c4
 have c4b1 := decide_eq_true c4
 clear c4
 obtain ⟨y102, hy102⟩ : ∃ y_ : List Int, y_ = (List.replicate ((l0_0.length : Int) : Int).toNat 0) := ⟨_, rfl⟩
 replace H : (spec_l01Digits.l0 k a1 y102 (wrap64 ((l0_0.length : Int) - 1)) l0_0) = some r := y_ H
 have Ny102 := Aside0.mk hy102
 clear hy102
 have H' := Aside0.mk H
 clear H
 go_enter Tryz.func76, Tryz.ntmps76
 go_wp2_with (first | ((with_reducible refine gate_dst (N := 2) rfl ?_); refine bx_ (N := 2) (cs := #[.slice A0_0 l0_0.length c0_0]) (t := 26) rfl rfl ?_; intro gb101 hg w5 hbox hb; have BK101 := Aside0.mk (hbox); have GW101 := ge_ hg HB; have GE101 := ge_ hg HB; replace HB := b1_ HB hb; clear hb hbox hg; have hcz6_0 := hz_ BK101; have hfz6_0 := blk_frozen BK101.out 0) | ((with_reducible refine gate_dst (N := 10) rfl ?_); refine Kd.R_make (Kd.int .i64) _ 2 rfl (N := 10) rfl 24 _ _ rfl (l0_0.length : Int) rfl rfl Tryz.underlying24 (.int .i64 0) 8 info2 rfl (by decide) (by omega) 0 (ok := fun _ => True) (okp := fun _ => True) rfl (fun _ hk => hk) trivial (of_decide_eq_true t6_) (Nat.le_trans (Nat.mul_le_mul_right _ (of_decide_eq_true t6_ : (l0_0.length : Int).toNat ≤ 35184372088832)) (by omega)) (Below.refl _ _) (Nat.le_refl _) ?_; intro v103 w7 ho8 hb hg_ hnew_; clear hg_ hnew_; (first | rw [← Ny102.out] at ho8 | (simp only [Int.reduceToNat] at ho8; rw [← Ny102.out] at ho8)); have HO104 := Aside0.mk (Kd.R_lower ho8 (below_size (gb_ HB.out))); replace BK101 := a2_ BK101 hb; replace HB := b1_ HB hb; clear hb ho8; have hcz9_0 := hz_ BK101; have hfz9_0 := blk_frozen BK101.out 0))
 go_loopg [1, 6] k (fun kq v1 v6 w' => ∃ (x1_1 : Int) (x5_1 : List Int) (x6_1 : Int), v1 = .int .i64 x1_1 ∧ v6 = .int .i64 x6_1 ∧ Aside0 (spec_l01Digits.l0 kq x1_1 x5_1 x6_1 l0_0 = some r) ∧ Aside0 (kq ≤ k) ∧ Aside0 (Kd.R (Kd.int .i64) 2 w' w.heap.size (fun _ => True) v103 x5_1) ∧ Aside0 (w'.heap[gb101]? = some (.cells #[(.slice A0_0 l0_0.length c0_0)] 26 (0, 0))) ∧ Aside0 (Below w.heap.size w w'))
 case atStart => exact ⟨(a1), (y102), (wrap64 ((l0_0.length : Int) - 1)), t2_, t2_, H', ⟨Nat.le_refl _⟩, ⟨rb_ HO104.out⟩, ⟨bb_ BK101.out⟩, ⟨gb_ HB.out⟩⟩
 clear H'
 try clear p2
 try clear c3
 try clear c3b0
 try clear c3b1
 try clear c4
 try clear c4b0
 try clear c4b1
 try clear p6
 try clear c7
 try clear hcz6_0
 try clear hcz9_0
 try clear hfz6_0
 try clear hfz9_0
 obtain ⟨x1_1, x5_1, x6_1, rfl, rfl, HA, HK1, HO_5, BK101, HB⟩ := hrel
 obtain _ | k1 := gk
 ·exact absurd HA.out (by simp [spec_l01Digits.l0])
 have H := HA.out
 clear HA
 simp only [spec_l01Digits.l0] at H
 by_cases c10 : x6_1 ≥ 0
 rotate_left
 ·rw [if_neg c10] at H
  have c10b0 : decide (0 ≤ x6_1) = false := decide_eq_false c10
  clear c10
  obtain rfl := Option.some.inj H
  go_wp2
  go_ret
  exact ⟨_, t5_, rb_ HO_5.out, gb_ HB.out⟩
 rw [if_pos c10] at H
 have c10b0 : decide (0 ≤ x6_1) = true := decide_eq_true c10
 clear c10
 replace H := id_ H
 obtain ⟨c11b0, H⟩ := H
 replace H := id_ H
 obtain ⟨c12b0, H⟩ := H
 by_cases c13 : (rd l0_0 x6_1) = 0
 ·rw [if_pos c13] at H
  exact absurd H (by simp)
 rw [if_neg c13] at H
 have c13b0 : ((rd l0_0 x6_1) == 0) = false := beq_eq_false_iff_ne.mpr c13
 have c13b1 : ((rd l0_0 x6_1) != 0) = true := bne_iff_ne.mpr c13
 replace H := id_ H
 obtain ⟨c14b0, H⟩ := H
 obtain ⟨y106, hy106⟩ : ∃ y_ : List Int, y_ = (x5_1.set (x6_1 : Int).toNat (Int.tmod x1_1 (rd l0_0 x6_1))) := ⟨_, rfl⟩
 replace H : (spec_l01Digits.l0 k1 (wrap64 (Int.tdiv x1_1 (rd l0_0 x6_1))) y106 (wrap64 (x6_1 - 1)) l0_0) = some r := y_ H
 have Ny106 := Aside0.mk hy106
 clear hy106
 have H' := Aside0.mk H
 clear H
 have hcz16_0 := hz_ BK101
 have hfz16_0 := blk_frozen BK101.out 0
 have p105 : 0 ≤ (x6_1 : Int) := of_decide_eq_true t6_
 have q105 : x6_1 < (l0_0.length : Int) := of_decide_eq_true t6_
 obtain ⟨ad105, e105, hx105_0⟩ := Kd.at_int HR0_0.out x6_1 p105 q105
 cases e105
 replace hx105_0 := hc_ HB hx105_0
 replace p105 := eq_true p105
 replace q105 := eq_true q105
 have p15 : 0 ≤ (x6_1 : Int) := of_decide_eq_true t6_
 have q15 : (x6_1 : Int) < ((x5_1.length : Int) : Int) := of_decide_eq_true t6_
 obtain ⟨go15, co15, eo15, gb15, gl15, cl15, HG15⟩ := Kd.R_form HO_5.out (by omega)
 (first | cases eo15 | (injection eo15 with ea_ en_ ec_; (first | subst ea_ | (injection ea_ with ea_; subst ea_)); subst ec_; clear en_))
 have GB15 := Aside0.mk gb15
 have GG15 := Aside0.mk HG15
 clear gb15 gl15 HG15
 obtain ⟨hx15_0, hf15_0⟩ := Kd.R_celln 0 HO_5.out (x6_1 : Int) p15 q15
 replace p15 := eq_true p15
 replace q15 := eq_true q15
 have HP17 := Kd.R_putg HO_5.out (x6_1 : Int) (Int.tmod x1_1 (rd l0_0 x6_1))
 go_wp2_with (first | ((with_reducible refine gate_store (t := 2) (p := 28) rfl ?_); refine store_event (t := 2) (p := 28) (v := ?vo_w18) (w1 := (wr.setCell ⟨go15, (x6_1 : Int).toNat, none⟩ (.int .i64 (Int.tmod x1_1 (rd l0_0 x6_1))))) ?hg ?ho ?hn ?hr ?_; (case ho => rfl); (case hg => rfl); (case hn => rfl); (case hr => exact t3_); intro w18 hw; have hg : wr.grownBy w18 (some go15) := (by rw [hw]; exact HP17.2); have hp_ : Kd.R (Kd.int .i64) 2 w18 w.heap.size (fun _ => True) (.slice (some ⟨go15, 0, none⟩) x5_1.length co15) y106 := (by rw [hw, Ny106.out]; exact HP17.1); clear HP17; have n0_ := Aside0.mk (hp_); have n1_ := Aside0.mk (blk_grown (g := gb101) (o := .cells #[.slice (some ad105) l0_0.length c0_0] 26 (0, 0)) (bb_ BK101.out) hg (Kd.R_ne HO_5.out BK101.out (by decide))); have n2_ := Aside0.mk ((by rw [hw]; exact below_set (HB.out) GB15.out : Below w.heap.size w w18)); clear HO_5 BK101 HB; have HO_5 := n0_; have BK101 := n1_; have HB := n2_; clear n0_ n1_ n2_ hg hw hp_; have hcz19_0 := hz_ BK101; have hfz19_0 := blk_frozen BK101.out 0; have p107 : 0 ≤ (x6_1 : Int) := of_decide_eq_true t6_; have q107 : x6_1 < (l0_0.length : Int) := of_decide_eq_true t6_; obtain ⟨ad107, e107, hx107_0⟩ := Kd.at_int HR0_0.out x6_1 p107 q107; obtain rfl : ad105 = ad107 := (by injection e107); replace hx107_0 := (HB.out.cell (World.block_lt_of_cell? _ _ hx107_0)).trans hx107_0; replace p107 := eq_true p107; replace q107 := eq_true q107))
 go_roundg k1
 case measure => have := HK1.out; omega
 case rel => exact ⟨(wrap64 (Int.tdiv x1_1 (rd l0_0 x6_1))), (y106), (wrap64 (x6_1 - 1)), t2_, t2_, H', ⟨by have := HK1.out; omega⟩, ⟨rb_ HO_5.out⟩, ⟨bb_ BK101.out⟩, ⟨gb_ HB.out⟩⟩
def spec_l01Word.l0 : Nat → List Int → Int → Int → List Int → Option (Int)
 | 0, _, _, _, _ => none
 | k + 1, x1, x5, x6, x102000 => if x6 < (x1.length : Int) then (if 0 ≤ x6 then (if x6 < (x102000.length : Int) then (spec_l01Word.l0 k x1 (wrap64 ((wrap64 (x5 * (rd x102000 x6))) + (rd x1 x6))) (wrap64 (x6 + 1)) x102000) else (none)) else (none)) else (some x5)
def spec_l01Word.f (k : Nat) (l0_0 : List Int) (l1 : List Int) : Option (Int) := spec_l01Word.l0 k l1 0 0 l0_0
set_option maxHeartbeats 8000000 in
set_option maxRecDepth 100000 in
theorem spec_l01Word.calls (k : Nat) (A0_0 : Option Addr) (c0_0 : Nat) (l0_0 : List Int) (A1 : Option Addr) (c1 : Nat) (l1 : List Int) (r : Int) (w : World) (hr0_0 : Kd.C (Kd.int .i64) w A0_0 l0_0.length l0_0) (hc0_0 : l0_0.length ≤ c0_0) (hr1 : Kd.C (Kd.int .i64) w A1 l1.length l1) (hc1 : l1.length ≤ c1) (h : spec_l01Word.f k l0_0 l1 = some r) :
  Calls Tryz.prog 77 #[.agg #[.slice A0_0 l0_0.length c0_0], .slice A1 l1.length c1] w fun e w' => e = .returned (.int .i64 r) ∧ Below w.heap.size w w' := by
 have hu26 := Tryz.underlying26
 have HR0_0 := Aside0.mk hr0_0
 have HC0_0 := Aside0.mk hc0_0
 clear hr0_0 hc0_0
 have HR1 := Aside0.mk hr1
 have HC1 := Aside0.mk hc1
 clear hr1 hc1
 have HB := Aside0.mk (Below.refl w.heap.size w)
 have H := h
 clear h
 unfold spec_l01Word.f at H
 have H' := Aside0.mk H
 clear H
 go_enter Tryz.func77, Tryz.ntmps77
 go_wp2_with (first | ((with_reducible refine gate_dst (N := 2) rfl ?_); refine bx_ (N := 2) (cs := #[.slice A0_0 l0_0.length c0_0]) (t := 26) rfl rfl ?_; intro gb101 hg w3 hbox hb; have BK101 := Aside0.mk (hbox); have GW101 := ge_ hg HB; have GE101 := ge_ hg HB; replace HB := b1_ HB hb; clear hb hbox hg))
 repeat (go_quiet (first | ((with_reducible refine gate_dst (N := 2) rfl ?_); refine bx_ (N := 2) (cs := #[.slice A0_0 l0_0.length c0_0]) (t := 26) rfl rfl ?_; intro gb101 hg w3 hbox hb; have BK101 := Aside0.mk (hbox); have GW101 := ge_ hg HB; have GE101 := ge_ hg HB; replace HB := b1_ HB hb; clear hb hbox hg)); try go_wp2_with (first | ((with_reducible refine gate_dst (N := 2) rfl ?_); refine bx_ (N := 2) (cs := #[.slice A0_0 l0_0.length c0_0]) (t := 26) rfl rfl ?_; intro gb101 hg w3 hbox hb; have BK101 := Aside0.mk (hbox); have GW101 := ge_ hg HB; have GE101 := ge_ hg HB; replace HB := b1_ HB hb; clear hb hbox hg)))
 go_loopg [5, 6] k (fun kq v5 v6 w' => ∃ (x5_1 : Int) (x6_1 : Int), v5 = .int .i64 x5_1 ∧ v6 = .int .i64 x6_1 ∧ Aside0 (spec_l01Word.l0 kq l1 x5_1 x6_1 l0_0 = some r) ∧ Aside0 (kq ≤ k) ∧ Aside0 (w'.heap[gb101]? = some (.cells #[(.slice A0_0 l0_0.length c0_0)] 26 (0, 0))) ∧ Aside0 (Below w.heap.size w w'))
 case atStart => exact ⟨(0), (0), t2_, t2_, H', ⟨Nat.le_refl _⟩, ⟨bb_ BK101.out⟩, ⟨gb_ HB.out⟩⟩
 clear H'
 try clear c1
 try clear p2
 obtain ⟨x5_1, x6_1, rfl, rfl, HA, HK1, BK101, HB⟩ := hrel
 obtain _ | k1 := gk
 ·exact absurd HA.out (by simp [spec_l01Word.l0])
 have H := HA.out
 clear HA
 simp only [spec_l01Word.l0] at H
 replace H := ie_ H
 obtain ⟨c4b0, H⟩ | ⟨c4b0, H⟩ := H
 ·obtain rfl := Option.some.inj H
  go_wp2
  repeat (go_quiet (fail); try go_wp2)
  go_ret
  exact ⟨t5_, gb_ HB.out⟩

 replace H := id_ H
 obtain ⟨c5b0, H⟩ := H
 replace H := id_ H
 obtain ⟨c6b0, H⟩ := H
 have H' := Aside0.mk H
 clear H
 have hcz7_0 := hz_ BK101
 have hfz7_0 := blk_frozen BK101.out 0
 have p102 : 0 ≤ (x6_1 : Int) := of_decide_eq_true t6_
 have q102 : x6_1 < (l0_0.length : Int) := of_decide_eq_true t6_
 obtain ⟨ad102, e102, hx102_0⟩ := Kd.at_int HR0_0.out x6_1 p102 q102
 cases e102
 replace hx102_0 := hc_ HB hx102_0
 replace p102 := eq_true p102
 replace q102 := eq_true q102
 have p103 : 0 ≤ (x6_1 : Int) := of_decide_eq_true t6_
 have q103 : x6_1 < (l1.length : Int) := of_decide_eq_true t6_
 obtain ⟨ad103, e103, hx103_0⟩ := Kd.at_int HR1.out x6_1 p103 q103
 cases e103
 replace hx103_0 := hc_ HB hx103_0
 replace p103 := eq_true p103
 replace q103 := eq_true q103
 go_wp2
 repeat (go_quiet (fail); try go_wp2)
 go_roundg k1
 case measure => have := HK1.out; omega
 case rel => exact ⟨(wrap64 ((wrap64 (x5_1 * (rd l0_0 x6_1))) + (rd l1 x6_1))), (wrap64 (x6_1 + 1)), t2_, t2_, H', ⟨by have := HK1.out; omega⟩, ⟨bb_ BK101.out⟩, ⟨gb_ HB.out⟩⟩
def spec_l01Code.l0 : Nat → List Int → Int → List Int → Option (Bool)
 | 0, _, _, _ => none
 | k + 1, x1, x5, x102000 => if x5 < (x1.length : Int) then (if 0 ≤ x5 then ((spec_l01N.f k x102000).bind fun t103 => ((spec_l01In.f (rd x1 x5) 0 (wrap64 (t103 - 1))).bind fun t104 => (if t104 = true then (if x5 > 0 then (if 0 ≤ (wrap64 (x5 - 1)) then (if (wrap64 (x5 - 1)) < (x1.length : Int) then (if (rd x1 x5) ≤ (rd x1 (wrap64 (x5 - 1))) then (some false) else (spec_l01Code.l0 k x1 (wrap64 (x5 + 1)) x102000)) else (none)) else (none)) else (spec_l01Code.l0 k x1 (wrap64 (x5 + 1)) x102000)) else (some false)))) else (none)) else (some true)
def spec_l01Code.f (k : Nat) (l0_0 : List Int) (l1 : List Int) : Option (Bool) := spec_l01Code.l0 k l1 0 l0_0
def spec_l01Code.T4 : Bool × List (List Nat × List Nat) := (true, [([], []), ([], []), ([0, 1], [0, 1]), ([2], [2]), ([], []), ([4], [4]), ([5], [5]), ([3, 6, 5], [3, 6]), ([7], [7]), ([8, 7], [8]), ([9], [9]), ([10, 9], [9, 10]), ([11, 9, 9], [9, 11]), ([12], [12]), ([12], [12]), ([13, 14, 12], [12, 13, 14]), ([15, 12], [12, 15]), ([12], [12]), ([12], [12]), ([18, 12], [12, 18]), ([17, 19, 12], [12, 17, 19]), ([20, 12], [12, 20]), ([16, 21, 12], [12, 16, 21]), ([12, 22, 9], [9, 12, 22]), ([9, 23], [9, 23])])
def spec_l01Code.B4 : List Nat := [0, 0, 3, 7, 0, 16, 48, 127, 255, 511, 1023, 2047, 4095, 8191, 8191, 32767, 65535, 8191, 8191, 270335, 925695, 1974271, 4194303, 8388607, 16777215]
theorem spec_l01Code.tab4 : rtab .any (opsOf Tryz.f83 4) = spec_l01Code.T4 := by kernel_rfl
theorem spec_l01Code.bits4 : waitsOk spec_l01Code.T4.2 spec_l01Code.B4 = true := by kernel_rfl
set_option maxHeartbeats 8000000 in
set_option maxRecDepth 100000 in
theorem spec_l01Code.calls (k : Nat) (A0_0 : Option Addr) (c0_0 : Nat) (l0_0 : List Int) (A1 : Option Addr) (c1 : Nat) (l1 : List Int) (r : Bool) (w : World) (hr0_0 : Kd.C (Kd.int .i64) w A0_0 l0_0.length l0_0) (hc0_0 : l0_0.length ≤ c0_0) (hr1 : Kd.C (Kd.int .i64) w A1 l1.length l1) (hc1 : l1.length ≤ c1) (h : spec_l01Code.f k l0_0 l1 = some r) :
  Calls Tryz.prog 83 #[.agg #[.slice A0_0 l0_0.length c0_0], .slice A1 l1.length c1] w fun e w' => e = .returned (.bool r) ∧ Below w.heap.size w w' := by
 have hu26 := Tryz.underlying26
 have HR0_0 := Aside0.mk hr0_0
 have HC0_0 := Aside0.mk hc0_0
 clear hr0_0 hc0_0
 have HR1 := Aside0.mk hr1
 have HC1 := Aside0.mk hc1
 clear hr1 hc1
 have HB := Aside0.mk (Below.refl w.heap.size w)
 have H := h
 clear h
 unfold spec_l01Code.f at H
 have H' := Aside0.mk H
 clear H
 go_enter Tryz.func83, Tryz.ntmps83
 go_wp2_with (first | ((with_reducible refine gate_dst (N := 2) rfl ?_); refine bx_ (N := 2) (cs := #[.slice A0_0 l0_0.length c0_0]) (t := 26) rfl rfl ?_; intro gb101 hg w3 hbox hb; have BK101 := Aside0.mk (hbox); have GW101 := ge_ hg HB; have GE101 := ge_ hg HB; replace HB := b1_ HB hb; clear hb hbox hg))
 go_loopg [5] k (fun kq v5 w' => ∃ (x5_1 : Int), v5 = .int .i64 x5_1 ∧ Aside0 (spec_l01Code.l0 kq l1 x5_1 l0_0 = some r) ∧ Aside0 (kq ≤ k) ∧ Aside0 (w'.heap[gb101]? = some (.cells #[(.slice A0_0 l0_0.length c0_0)] 26 (0, 0))) ∧ Aside0 (Below w.heap.size w w'))
 case atStart => exact ⟨(0), t2_, H', ⟨Nat.le_refl _⟩, ⟨bb_ BK101.out⟩, ⟨gb_ HB.out⟩⟩
 clear H'
 try clear c1
 try clear p2
 obtain ⟨x5_1, rfl, HA, HK1, BK101, HB⟩ := hrel
 obtain _ | k1 := gk
 ·exact absurd HA.out (by simp [spec_l01Code.l0])
 have H := HA.out
 clear HA
 simp only [spec_l01Code.l0] at H
 replace H := ie_ H
 obtain ⟨c4b0, H⟩ | ⟨c4b0, H⟩ := H
 ·obtain rfl := Option.some.inj H
  go_wp2
  go_ret
  exact ⟨t5_, gb_ HB.out⟩

 replace H := id_ H
 obtain ⟨c5b0, H⟩ := H
 replace H := bd_ H
 obtain ⟨t103, A6, H⟩ := H
 replace H := bd_ H
 obtain ⟨t104, A7, H⟩ := H
 by_cases c8 : t104 = true
 rotate_left
 ·replace c8 := Bool.eq_false_iff.mpr c8
  subst c8
  have H1 : (some false) = some r := by rw [if_neg (show ¬ (false = true) by decide)] at H; exact H
  clear H
  have H := H1
  clear H1
  obtain rfl := Option.some.inj H
  try go_wp2
  replace BK101 := Aside0.mk (blk_drew BK101.out)
  replace HB := Aside0.mk (below_drew1 HB.out)
  obtain ⟨ad102, e102, hw102_0, hx102_0, p102, q102⟩ := at1_ HR1 HB x5_1
  cases e102
  refine sr_ (n := 25) (S := fun w' => w'.cell? ⟨gb101, 0, none⟩ = some (.slice A0_0 l0_0.length c0_0) ∧ w'.cell? (ad102.add (x5_1).toNat) = some (.int .i64 (rd l1 x5_1))) (ds := []) ⟨(blk_cell BK101.out 0).trans rfl, (hc_ HB hw102_0)⟩ spec_l01Code.tab4 spec_l01Code.bits4 fun hHeld HT_ HW_ => ?_
  generalize wr.drew = w20 at BK101 HB hx102_0 hHeld ⊢
  refine pv_ 0 12 HT_ ?_
  refine pv_ 1 13 HT_ ?_
  refine pv_ 2 14 HT_ ?_
  refine tv2_ 3 15 HT_ HW_ hHeld ?_
  refine tv2_ 4 16 HT_ HW_ hHeld ?_
  refine ow_ 5 17 HT_ fun K hK => ?_
  refine goes_ Tryz.func53 (by kernel_rfl) rfl #[.agg #[.slice A0_0 l0_0.length c0_0]] (by rfl) rfl rfl t1_ ?_
  with_reducible refine (spec_l01N.calls k1 _ _ l0_0 t103 _ (c2_ HR0_0 HB) HC0_0.out A6.out).mono ?_
  rintro e w21 ⟨rfl, hb⟩
  refine ⟨_, rfl, ?_⟩
  replace BK101 := a2_ BK101 hb
  replace HB := b1_ HB hb
  (try clear hb)
  refine hK.out _ _ ⟨(blk_cell BK101.out 0).trans rfl, (hc_ HB hw102_0)⟩ (fun hHeld => ?_)
  clear hK K
  refine nm_ ?_
  refine pv_ 6 18 HT_ ?_
  refine ow_ 7 19 HT_ fun K hK => ?_
  refine goes_ Tryz.func97 (by kernel_rfl) rfl #[.int .i64 (rd l1 x5_1), .int .i64 0, .int .i64 (wrap64 (t103 - 1))] (by rfl) rfl rfl t1_ ?_
  with_reducible refine (spec_l01In.calls (rd l1 x5_1) 0 (wrap64 (t103 - 1)) false _ A7.out).mono ?_
  rintro e w' ⟨rfl, ⟨nd, rfl⟩⟩
  refine ⟨_, rfl, ?_⟩
  refine hK.out _ _ ⟨(blk_cell BK101.out 0).trans rfl, (hc_ HB hw102_0)⟩ (fun hHeld => ?_)
  clear hK K
  refine nm_ ?_
  refine pv_ 8 20 HT_ ?_
  refine pv_ 9 21 HT_ ?_
  refine pw_ 10 22 HT_ ?_
  refine pw_ 11 23 HT_ ?_
  refine pw_ 12 24 HT_ ?_
  refine pw_ 13 25 HT_ ?_
  refine pw_ 14 26 HT_ ?_
  refine pw_ 15 27 HT_ ?_
  refine pw_ 16 28 HT_ ?_
  refine pw_ 17 29 HT_ ?_
  refine pw_ 18 30 HT_ ?_
  refine pw_ 19 31 HT_ ?_
  refine pw_ 20 32 HT_ ?_
  refine pw_ 21 33 HT_ ?_
  refine pw_ 22 34 HT_ ?_
  refine pw_ 23 35 HT_ ?_
  refine pv_ 24 36 HT_ ?_
  refine done_ (done_of HT_.out (by kernel_rfl)) ?_
  try go_wp2
  go_ret
  exact ⟨t5_, gb_ HB.out⟩
 subst c8
 have H1 : (if x5_1 > 0 then (if 0 ≤ (wrap64 (x5_1 - 1)) then (if (wrap64 (x5_1 - 1)) < (l1.length : Int) then (if (rd l1 x5_1) ≤ (rd l1 (wrap64 (x5_1 - 1))) then (some false) else (spec_l01Code.l0 k1 l1 (wrap64 (x5_1 + 1)) l0_0)) else (none)) else (none)) else (spec_l01Code.l0 k1 l1 (wrap64 (x5_1 + 1)) l0_0)) = some r := by rw [if_pos rfl] at H; exact H
 clear H
 have H := H1
 clear H1
 by_cases c9 : x5_1 > 0
 rotate_left
 ·rw [if_neg c9] at H
  have c9b0 : decide (0 < x5_1) = false := decide_eq_false c9
  clear c9
  have H' := Aside0.mk H
  clear H
  try go_wp2
  replace BK101 := Aside0.mk (blk_drew BK101.out)
  replace HB := Aside0.mk (below_drew1 HB.out)
  obtain ⟨ad102, e102, hw102_0, hx102_0, p102, q102⟩ := at1_ HR1 HB x5_1
  cases e102
  refine sr_ (n := 25) (S := fun w' => w'.cell? ⟨gb101, 0, none⟩ = some (.slice A0_0 l0_0.length c0_0) ∧ w'.cell? (ad102.add (x5_1).toNat) = some (.int .i64 (rd l1 x5_1))) (ds := []) ⟨(blk_cell BK101.out 0).trans rfl, (hc_ HB hw102_0)⟩ spec_l01Code.tab4 spec_l01Code.bits4 fun hHeld HT_ HW_ => ?_
  generalize wr.drew = w18 at BK101 HB hx102_0 hHeld ⊢
  refine pv_ 0 12 HT_ ?_
  refine pv_ 1 13 HT_ ?_
  refine pv_ 2 14 HT_ ?_
  refine tv2_ 3 15 HT_ HW_ hHeld ?_
  refine tv2_ 4 16 HT_ HW_ hHeld ?_
  refine ow_ 5 17 HT_ fun K hK => ?_
  refine goes_ Tryz.func53 (by kernel_rfl) rfl #[.agg #[.slice A0_0 l0_0.length c0_0]] (by rfl) rfl rfl t1_ ?_
  with_reducible refine (spec_l01N.calls k1 _ _ l0_0 t103 _ (c2_ HR0_0 HB) HC0_0.out A6.out).mono ?_
  rintro e w19 ⟨rfl, hb⟩
  refine ⟨_, rfl, ?_⟩
  replace BK101 := a2_ BK101 hb
  replace HB := b1_ HB hb
  (try clear hb)
  refine hK.out _ _ ⟨(blk_cell BK101.out 0).trans rfl, (hc_ HB hw102_0)⟩ (fun hHeld => ?_)
  clear hK K
  refine nm_ ?_
  refine pv_ 6 18 HT_ ?_
  refine ow_ 7 19 HT_ fun K hK => ?_
  refine goes_ Tryz.func97 (by kernel_rfl) rfl #[.int .i64 (rd l1 x5_1), .int .i64 0, .int .i64 (wrap64 (t103 - 1))] (by rfl) rfl rfl t1_ ?_
  with_reducible refine (spec_l01In.calls (rd l1 x5_1) 0 (wrap64 (t103 - 1)) true _ A7.out).mono ?_
  rintro e w' ⟨rfl, ⟨nd, rfl⟩⟩
  refine ⟨_, rfl, ?_⟩
  refine hK.out _ _ ⟨(blk_cell BK101.out 0).trans rfl, (hc_ HB hw102_0)⟩ (fun hHeld => ?_)
  clear hK K
  refine nm_ ?_
  refine pv_ 8 20 HT_ ?_
  refine pv_ 9 21 HT_ ?_
  refine pv_ 10 22 HT_ ?_
  refine pv_ 11 23 HT_ ?_
  refine pv_ 12 24 HT_ ?_
  refine pw_ 13 25 HT_ ?_
  refine pw_ 14 26 HT_ ?_
  refine pw_ 15 27 HT_ ?_
  refine pw_ 16 28 HT_ ?_
  refine pw_ 17 29 HT_ ?_
  refine pw_ 18 30 HT_ ?_
  refine pw_ 19 31 HT_ ?_
  refine pw_ 20 32 HT_ ?_
  refine pw_ 21 33 HT_ ?_
  refine pw_ 22 34 HT_ ?_
  refine pv_ 23 35 HT_ ?_
  refine pv_ 24 36 HT_ ?_
  refine done_ (done_of HT_.out (by kernel_rfl)) ?_
  try go_wp2
  go_roundg k1
  case measure => have := HK1.out; omega
  case rel => exact ⟨(wrap64 (x5_1 + 1)), t2_, H', ⟨by have := HK1.out; omega⟩, ⟨bb_ BK101.out⟩, ⟨gb_ HB.out⟩⟩
 rw [if_pos c9] at H
 have c9b0 : decide (0 < x5_1) = true := decide_eq_true c9
 clear c9
 obtain ⟨ji10, hji10⟩ : ∃ j_ : Int, (wrap64 (x5_1 - 1)) = j_ := ⟨_, rfl⟩
 replace H : (if 0 ≤ (ji10) then (if (ji10) < (l1.length : Int) then (if (rd l1 x5_1) ≤ (rd l1 (ji10)) then (some false) else (spec_l01Code.l0 k1 l1 (wrap64 (x5_1 + 1)) l0_0)) else (none)) else (none)) = some r := by first | (rw [hji10] at H; exact H) | (simp only [hji10] at H ⊢; exact H)
 (try rw [hji10] at A6)
 (try rw [hji10] at A7)
 have hji10w : (IntKind.i64.wrap (x5_1 - 1)) = ji10 := (i64_w _).trans hji10
 replace H := id_ H
 obtain ⟨c11b0, H⟩ := H
 replace H := id_ H
 obtain ⟨c12b0, H⟩ := H
 by_cases c13 : (rd l1 x5_1) ≤ (rd l1 (ji10))
 ·rw [if_pos c13] at H
  have c13b0 := decide_eq_true c13
  clear c13
  obtain rfl := Option.some.inj H
  try go_wp2
  replace BK101 := Aside0.mk (blk_drew BK101.out)
  replace HB := Aside0.mk (below_drew1 HB.out)
  obtain ⟨ad102, e102, hw102_0, hx102_0, p102, q102⟩ := at1_ HR1 HB x5_1
  cases e102
  obtain ⟨ad105, e105, hw105_0, hx105_0, p105, q105⟩ := at1_ HR1 HB x5_1
  obtain rfl : ad102 = ad105 := (by injection e105)
  obtain ⟨ad106, e106, hw106_0, hx106_0, p106, q106⟩ := at1_ HR1 HB ((ji10))
  obtain rfl : ad102 = ad106 := (by injection e106)
  refine sr_ (n := 25) (S := fun w' => w'.cell? ⟨gb101, 0, none⟩ = some (.slice A0_0 l0_0.length c0_0) ∧ w'.cell? (ad102.add (x5_1).toNat) = some (.int .i64 (rd l1 x5_1)) ∧ w'.cell? (ad102.add (x5_1).toNat) = some (.int .i64 (rd l1 x5_1)) ∧ w'.cell? (ad102.add ((ji10)).toNat) = some (.int .i64 (rd l1 (ji10)))) (ds := []) ⟨(blk_cell BK101.out 0).trans rfl, (hc_ HB hw102_0), (hc_ HB hw105_0), (hc_ HB hw106_0)⟩ spec_l01Code.tab4 spec_l01Code.bits4 fun hHeld HT_ HW_ => ?_
  generalize wr.drew = w14 at BK101 HB hx102_0 hx105_0 hx106_0 hHeld ⊢
  refine pv_ 0 12 HT_ ?_
  refine pv_ 1 13 HT_ ?_
  refine pv_ 2 14 HT_ ?_
  refine tv4_ 3 15 HT_ HW_ hHeld ?_
  refine tv4_ 4 16 HT_ HW_ hHeld ?_
  refine ow_ 5 17 HT_ fun K hK => ?_
  refine goes_ Tryz.func53 (by kernel_rfl) rfl #[.agg #[.slice A0_0 l0_0.length c0_0]] (by rfl) rfl rfl t1_ ?_
  with_reducible refine (spec_l01N.calls k1 _ _ l0_0 t103 _ (c2_ HR0_0 HB) HC0_0.out A6.out).mono ?_
  rintro e w15 ⟨rfl, hb⟩
  refine ⟨_, rfl, ?_⟩
  replace BK101 := a2_ BK101 hb
  replace HB := b1_ HB hb
  (try clear hb)
  refine hK.out _ _ ⟨(blk_cell BK101.out 0).trans rfl, (hc_ HB hw102_0), (hc_ HB hw105_0), (hc_ HB hw106_0)⟩ (fun hHeld => ?_)
  clear hK K
  refine nm_ ?_
  refine pv_ 6 18 HT_ ?_
  refine ow_ 7 19 HT_ fun K hK => ?_
  refine goes_ Tryz.func97 (by kernel_rfl) rfl #[.int .i64 (rd l1 x5_1), .int .i64 0, .int .i64 (wrap64 (t103 - 1))] (by rfl) rfl rfl t1_ ?_
  with_reducible refine (spec_l01In.calls (rd l1 x5_1) 0 (wrap64 (t103 - 1)) true _ A7.out).mono ?_
  rintro e w' ⟨rfl, ⟨nd, rfl⟩⟩
  refine ⟨_, rfl, ?_⟩
  refine hK.out _ _ ⟨(blk_cell BK101.out 0).trans rfl, (hc_ HB hw102_0), (hc_ HB hw105_0), (hc_ HB hw106_0)⟩ (fun hHeld => ?_)
  clear hK K
  refine nm_ ?_
  refine pv_ 8 20 HT_ ?_
  refine pv_ 9 21 HT_ ?_
  refine pv_ 10 22 HT_ ?_
  refine pv_ 11 23 HT_ ?_
  refine pv_ 12 24 HT_ ?_
  refine pv_ 13 25 HT_ ?_
  refine pv_ 14 26 HT_ ?_
  refine pv_ 15 27 HT_ ?_
  refine pv_ 17 29 HT_ ?_
  refine pv_ 18 30 HT_ ?_
  refine pv_ 19 31 HT_ ?_
  refine pv_ 20 32 HT_ ?_
  refine tv4_ 16 28 HT_ HW_ hHeld ?_
  refine tv4_ 21 33 HT_ HW_ hHeld ?_
  refine pv_ 22 34 HT_ ?_
  refine pv_ 23 35 HT_ ?_
  refine pv_ 24 36 HT_ ?_
  refine done_ (done_of HT_.out (by kernel_rfl)) ?_
  try go_wp2
  go_ret
  exact ⟨by first | rfl | (simp [errW_none, errW_some] <;> rfl) | (simp only [← hji10]; first | rfl | (simp [errW_none, errW_some] <;> rfl)) | (simp [*, errW_none, errW_some] <;> rfl), gb_ HB.out⟩
 rw [if_neg c13] at H
 have c13b0 := decide_eq_false c13
 clear c13
 have H' := Aside0.mk H
 clear H
 try go_wp2
 replace BK101 := Aside0.mk (blk_drew BK101.out)
 replace HB := Aside0.mk (below_drew1 HB.out)
 obtain ⟨ad102, e102, hw102_0, hx102_0, p102, q102⟩ := at1_ HR1 HB x5_1
 cases e102
 obtain ⟨ad105, e105, hw105_0, hx105_0, p105, q105⟩ := at1_ HR1 HB x5_1
 obtain rfl : ad102 = ad105 := (by injection e105)
 obtain ⟨ad106, e106, hw106_0, hx106_0, p106, q106⟩ := at1_ HR1 HB ((ji10))
 obtain rfl : ad102 = ad106 := (by injection e106)
 refine sr_ (n := 25) (S := fun w' => w'.cell? ⟨gb101, 0, none⟩ = some (.slice A0_0 l0_0.length c0_0) ∧ w'.cell? (ad102.add (x5_1).toNat) = some (.int .i64 (rd l1 x5_1)) ∧ w'.cell? (ad102.add (x5_1).toNat) = some (.int .i64 (rd l1 x5_1)) ∧ w'.cell? (ad102.add ((ji10)).toNat) = some (.int .i64 (rd l1 (ji10)))) (ds := []) ⟨(blk_cell BK101.out 0).trans rfl, (hc_ HB hw102_0), (hc_ HB hw105_0), (hc_ HB hw106_0)⟩ spec_l01Code.tab4 spec_l01Code.bits4 fun hHeld HT_ HW_ => ?_
 generalize wr.drew = w16 at BK101 HB hx102_0 hx105_0 hx106_0 hHeld ⊢
 refine pv_ 0 12 HT_ ?_
 refine pv_ 1 13 HT_ ?_
 refine pv_ 2 14 HT_ ?_
 refine tv4_ 3 15 HT_ HW_ hHeld ?_
 refine tv4_ 4 16 HT_ HW_ hHeld ?_
 refine ow_ 5 17 HT_ fun K hK => ?_
 refine goes_ Tryz.func53 (by kernel_rfl) rfl #[.agg #[.slice A0_0 l0_0.length c0_0]] (by rfl) rfl rfl t1_ ?_
 with_reducible refine (spec_l01N.calls k1 _ _ l0_0 t103 _ (c2_ HR0_0 HB) HC0_0.out A6.out).mono ?_
 rintro e w17 ⟨rfl, hb⟩
 refine ⟨_, rfl, ?_⟩
 replace BK101 := a2_ BK101 hb
 replace HB := b1_ HB hb
 (try clear hb)
 refine hK.out _ _ ⟨(blk_cell BK101.out 0).trans rfl, (hc_ HB hw102_0), (hc_ HB hw105_0), (hc_ HB hw106_0)⟩ (fun hHeld => ?_)
 clear hK K
 refine nm_ ?_
 refine pv_ 6 18 HT_ ?_
 refine ow_ 7 19 HT_ fun K hK => ?_
 refine goes_ Tryz.func97 (by kernel_rfl) rfl #[.int .i64 (rd l1 x5_1), .int .i64 0, .int .i64 (wrap64 (t103 - 1))] (by rfl) rfl rfl t1_ ?_
 with_reducible refine (spec_l01In.calls (rd l1 x5_1) 0 (wrap64 (t103 - 1)) true _ A7.out).mono ?_
 rintro e w' ⟨rfl, ⟨nd, rfl⟩⟩
 refine ⟨_, rfl, ?_⟩
 refine hK.out _ _ ⟨(blk_cell BK101.out 0).trans rfl, (hc_ HB hw102_0), (hc_ HB hw105_0), (hc_ HB hw106_0)⟩ (fun hHeld => ?_)
 clear hK K
 refine nm_ ?_
 refine pv_ 8 20 HT_ ?_
 refine pv_ 9 21 HT_ ?_
 refine pv_ 10 22 HT_ ?_
 refine pv_ 11 23 HT_ ?_
 refine pv_ 12 24 HT_ ?_
 refine pv_ 13 25 HT_ ?_
 refine pv_ 14 26 HT_ ?_
 refine pv_ 15 27 HT_ ?_
 refine pv_ 17 29 HT_ ?_
 refine pv_ 18 30 HT_ ?_
 refine pv_ 19 31 HT_ ?_
 refine pv_ 20 32 HT_ ?_
 refine tv4_ 16 28 HT_ HW_ hHeld ?_
 refine tv4_ 21 33 HT_ HW_ hHeld ?_
 refine pv_ 22 34 HT_ ?_
 refine pv_ 23 35 HT_ ?_
 refine pv_ 24 36 HT_ ?_
 refine done_ (done_of HT_.out (by kernel_rfl)) ?_
 try go_wp2
 go_roundg k1
 case measure => have := HK1.out; omega
 case rel => exact ⟨(wrap64 (x5_1 + 1)), t2_, H', ⟨by have := HK1.out; omega⟩, ⟨bb_ BK101.out⟩, ⟨gb_ HB.out⟩⟩
def spec_l01Given.f (k : Nat) (l0_0 : List Int) (l1 : List Int) : Option (Int) := (spec_l01Is.f k l0_0).bind fun t102 => (if t102 = true then ((spec_l01Code.f k l0_0 l1).bind fun t103 => (if t103 = true then (some 0) else (some 2))) else (some 1))
set_option maxHeartbeats 8000000 in
set_option maxRecDepth 100000 in
theorem spec_l01Given.calls (k : Nat) (A0_0 : Option Addr) (c0_0 : Nat) (l0_0 : List Int) (A1 : Option Addr) (c1 : Nat) (l1 : List Int) (r : Int) (w : World) (hr0_0 : Kd.C (Kd.int .i64) w A0_0 l0_0.length l0_0) (hc0_0 : l0_0.length ≤ c0_0) (hr1 : Kd.C (Kd.int .i64) w A1 l1.length l1) (hc1 : l1.length ≤ c1) (h : spec_l01Given.f k l0_0 l1 = some r) :
  Calls Tryz.prog 69 #[.agg #[.slice A0_0 l0_0.length c0_0], .slice A1 l1.length c1] w fun e w' => e = .returned (.int .i64 r) ∧ Below w.heap.size w w' := by
 have hu26 := Tryz.underlying26
 have HR0_0 := Aside0.mk hr0_0
 have HC0_0 := Aside0.mk hc0_0
 clear hr0_0 hc0_0
 have HR1 := Aside0.mk hr1
 have HC1 := Aside0.mk hc1
 clear hr1 hc1
 have HB := Aside0.mk (Below.refl w.heap.size w)
 have H := h
 clear h
 unfold spec_l01Given.f at H
 replace H := bd_ H
 obtain ⟨t102, A3, H⟩ := H
 by_cases c4 : t102 = true
 rotate_left
 ·replace c4 := Bool.eq_false_iff.mpr c4
  subst c4
  have H1 : (some 1) = some r := by rw [if_neg (show ¬ (false = true) by decide)] at H; exact H
  clear H
  have H := H1
  clear H1
  obtain rfl := Option.some.inj H
  go_enter Tryz.func69, Tryz.ntmps69
  go_wp2_with (first | ((with_reducible refine gate_dst (N := 2) rfl ?_); refine bx_ (N := 2) (cs := #[.slice A0_0 l0_0.length c0_0]) (t := 26) rfl rfl ?_; intro gb101 hg w17 hbox hb; have BK101 := Aside0.mk (hbox); have GW101 := ge_ hg HB; have GE101 := ge_ hg HB; replace HB := b1_ HB hb; clear hb hbox hg; have hcz18_0 := hz_ BK101; have hfz18_0 := blk_frozen BK101.out 0) | ((with_reducible refine gate_callee (f := 82) rfl ?_); refine gl_ (some 7) rfl rfl Tryz.func82 #[.agg #[.slice A0_0 l0_0.length c0_0]] rfl ?_; (with_reducible refine (spec_l01Is.calls k _ _ l0_0 false _ (c2_ HR0_0 HB) HC0_0.out A3.out).mono ?_); rintro e w19 ⟨rfl, hb⟩; refine ⟨_, rfl, ?_⟩; replace BK101 := a2_ BK101 hb; replace HB := b1_ HB hb; (try clear hb); (try clear hb2); (try clear hk); (try clear hi)))
  go_ret
  exact ⟨t5_, gb_ HB.out⟩

 subst c4
 have H1 : ((spec_l01Code.f k l0_0 l1).bind fun t103 => (if t103 = true then (some 0) else (some 2))) = some r := by rw [if_pos rfl] at H; exact H
 clear H
 have H := H1
 clear H1
 replace H := bd_ H
 obtain ⟨t103, A5, H⟩ := H
 by_cases c6 : t103 = true
 ·subst c6
  have H1 : (some 0) = some r := by rw [if_pos rfl] at H; exact H
  clear H
  have H := H1
  clear H1
  obtain rfl := Option.some.inj H
  go_enter Tryz.func69, Tryz.ntmps69
  go_wp2_with (first | ((with_reducible refine gate_dst (N := 2) rfl ?_); refine bx_ (N := 2) (cs := #[.slice A0_0 l0_0.length c0_0]) (t := 26) rfl rfl ?_; intro gb101 hg w7 hbox hb; have BK101 := Aside0.mk (hbox); have GW101 := ge_ hg HB; have GE101 := ge_ hg HB; replace HB := b1_ HB hb; clear hb hbox hg; have hcz8_0 := hz_ BK101; have hfz8_0 := blk_frozen BK101.out 0) | ((with_reducible refine gate_callee (f := 82) rfl ?_); refine gl_ (some 7) rfl rfl Tryz.func82 #[.agg #[.slice A0_0 l0_0.length c0_0]] rfl ?_; (with_reducible refine (spec_l01Is.calls k _ _ l0_0 true _ (c2_ HR0_0 HB) HC0_0.out A3.out).mono ?_); rintro e w9 ⟨rfl, hb⟩; refine ⟨_, rfl, ?_⟩; replace BK101 := a2_ BK101 hb; replace HB := b1_ HB hb; (try clear hb); (try clear hb2); (try clear hk); (try clear hi); have hcz10_0 := hz_ BK101; have hfz10_0 := blk_frozen BK101.out 0) | ((with_reducible refine gate_callee (f := 83) rfl ?_); refine gl_ (some 12) rfl rfl Tryz.func83 #[.agg #[.slice A0_0 l0_0.length c0_0], .slice A1 l1.length c1] rfl ?_; (with_reducible refine (spec_l01Code.calls k _ _ l0_0 _ _ l1 true _ (c2_ HR0_0 HB) HC0_0.out (c2_ HR1 HB) HC1.out A5.out).mono ?_); rintro e w11 ⟨rfl, hb⟩; refine ⟨_, rfl, ?_⟩; replace BK101 := a2_ BK101 hb; replace HB := b1_ HB hb; (try clear hb); (try clear hb2); (try clear hk); (try clear hi)))
  go_ret
  exact ⟨t5_, gb_ HB.out⟩
 replace c6 := Bool.eq_false_iff.mpr c6
 subst c6
 have H1 : (some 2) = some r := by rw [if_neg (show ¬ (false = true) by decide)] at H; exact H
 clear H
 have H := H1
 clear H1
 obtain rfl := Option.some.inj H
 go_enter Tryz.func69, Tryz.ntmps69
 go_wp2_with (first | ((with_reducible refine gate_dst (N := 2) rfl ?_); refine bx_ (N := 2) (cs := #[.slice A0_0 l0_0.length c0_0]) (t := 26) rfl rfl ?_; intro gb101 hg w12 hbox hb; have BK101 := Aside0.mk (hbox); have GW101 := ge_ hg HB; have GE101 := ge_ hg HB; replace HB := b1_ HB hb; clear hb hbox hg; have hcz13_0 := hz_ BK101; have hfz13_0 := blk_frozen BK101.out 0) | ((with_reducible refine gate_callee (f := 82) rfl ?_); refine gl_ (some 7) rfl rfl Tryz.func82 #[.agg #[.slice A0_0 l0_0.length c0_0]] rfl ?_; (with_reducible refine (spec_l01Is.calls k _ _ l0_0 true _ (c2_ HR0_0 HB) HC0_0.out A3.out).mono ?_); rintro e w14 ⟨rfl, hb⟩; refine ⟨_, rfl, ?_⟩; replace BK101 := a2_ BK101 hb; replace HB := b1_ HB hb; (try clear hb); (try clear hb2); (try clear hk); (try clear hi); have hcz15_0 := hz_ BK101; have hfz15_0 := blk_frozen BK101.out 0) | ((with_reducible refine gate_callee (f := 83) rfl ?_); refine gl_ (some 12) rfl rfl Tryz.func83 #[.agg #[.slice A0_0 l0_0.length c0_0], .slice A1 l1.length c1] rfl ?_; (with_reducible refine (spec_l01Code.calls k _ _ l0_0 _ _ l1 false _ (c2_ HR0_0 HB) HC0_0.out (c2_ HR1 HB) HC1.out A5.out).mono ?_); rintro e w16 ⟨rfl, hb⟩; refine ⟨_, rfl, ?_⟩; replace BK101 := a2_ BK101 hb; replace HB := b1_ HB hb; (try clear hb); (try clear hb2); (try clear hk); (try clear hi)))
 go_ret
 exact ⟨t5_, gb_ HB.out⟩
def impl_areWords.l0 : Nat → Int → List Int → Int → Int → Option (Bool)
 | 0, _, _, _, _ => none
 | k + 1, x5, x10, x11, x12 => if x12 < x11 then (if 0 ≤ x12 then (if x12 < (x10.length : Int) then (if (rd x10 x12) < 0 then (some false) else (if (rd x10 x12) ≥ x5 then (some false) else (impl_areWords.l0 k x5 x10 x11 (wrap64 (x12 + 1))))) else (none)) else (none)) else (some true)
def impl_areWords.f (k : Nat) (l0_0 : List Int) (l1 : List Int) : Option (Bool) := (impl_count.f k l0_0).bind fun t102 => (impl_areWords.l0 k t102 l1 (l1.length : Int) 0)
set_option maxHeartbeats 8000000 in
set_option maxRecDepth 100000 in
theorem impl_areWords.calls (k : Nat) (A0_0 : Option Addr) (c0_0 : Nat) (l0_0 : List Int) (A1 : Option Addr) (c1 : Nat) (l1 : List Int) (r : Bool) (w : World) (hr0_0 : Kd.C (Kd.int .i64) w A0_0 l0_0.length l0_0) (hc0_0 : l0_0.length ≤ c0_0) (hr1 : Kd.C (Kd.int .i64) w A1 l1.length l1) (hc1 : l1.length ≤ c1) (h : impl_areWords.f k l0_0 l1 = some r) :
  Calls Tryz.prog 84 #[.agg #[.slice A0_0 l0_0.length c0_0], .slice A1 l1.length c1] w fun e w' => e = .returned (.bool r) ∧ Below w.heap.size w w' := by
 have hu26 := Tryz.underlying26
 have HR0_0 := Aside0.mk hr0_0
 have HC0_0 := Aside0.mk hc0_0
 clear hr0_0 hc0_0
 have HR1 := Aside0.mk hr1
 have HC1 := Aside0.mk hc1
 clear hr1 hc1
 have HB := Aside0.mk (Below.refl w.heap.size w)
 have H := h
 clear h
 unfold impl_areWords.f at H
 replace H := bd_ H
 obtain ⟨t102, A3, H⟩ := H
 have H' := Aside0.mk H
 clear H
 go_enter Tryz.func84, Tryz.ntmps84
 go_wp2_with (first | ((with_reducible refine gate_dst (N := 2) rfl ?_); refine bx_ (N := 2) (cs := #[.slice A0_0 l0_0.length c0_0]) (t := 26) rfl rfl ?_; intro gb101 hg w4 hbox hb; have BK101 := Aside0.mk (hbox); have GW101 := ge_ hg HB; have GE101 := ge_ hg HB; replace HB := b1_ HB hb; clear hb hbox hg; have hcz5_0 := hz_ BK101; have hfz5_0 := blk_frozen BK101.out 0) | ((with_reducible refine gate_callee (f := 43) rfl ?_); refine gl_ (some 9) rfl rfl Tryz.func43 #[.agg #[.slice A0_0 l0_0.length c0_0]] rfl ?_; (with_reducible refine (impl_count.calls k _ _ l0_0 t102 _ (c2_ HR0_0 HB) HC0_0.out A3.out).mono ?_); rintro e w6 ⟨rfl, hb⟩; refine ⟨_, rfl, ?_⟩; replace BK101 := a2_ BK101 hb; replace HB := b1_ HB hb; (try clear hb); (try clear hb2); (try clear hk); (try clear hi)))
 go_loopg [12] k (fun kq v12 w' => ∃ (x12_1 : Int), v12 = .int .i64 x12_1 ∧ Aside0 (impl_areWords.l0 kq t102 l1 (l1.length : Int) x12_1 = some r) ∧ Aside0 (kq ≤ k) ∧ Aside0 (w'.heap[gb101]? = some (.cells #[(.slice A0_0 l0_0.length c0_0)] 26 (0, 0))) ∧ Aside0 (Below w.heap.size w w'))
 case atStart => exact ⟨(0), t2_, H', ⟨Nat.le_refl _⟩, ⟨bb_ BK101.out⟩, ⟨gb_ HB.out⟩⟩
 clear H'
 try clear c1
 try clear p2
 try clear c4
 try clear hcz5_0
 try clear hfz5_0
 obtain ⟨x12_1, rfl, HA, HK1, BK101, HB⟩ := hrel
 obtain _ | k1 := gk
 ·exact absurd HA.out (by simp [impl_areWords.l0])
 have H := HA.out
 clear HA
 simp only [impl_areWords.l0] at H
 replace H := ie_ H
 obtain ⟨c7b0, H⟩ | ⟨c7b0, H⟩ := H
 ·obtain rfl := Option.some.inj H
  go_wp2
  go_ret
  exact ⟨t5_, gb_ HB.out⟩

 replace H := id_ H
 obtain ⟨c8b0, H⟩ := H
 replace H := id_ H
 obtain ⟨c9b0, H⟩ := H
 by_cases c10 : (rd l1 x12_1) < 0
 ·rw [if_pos c10] at H
  have c10b0 := decide_eq_true c10
  clear c10
  obtain rfl := Option.some.inj H
  have p103 : 0 ≤ (x12_1 : Int) := of_decide_eq_true t6_
  have q103 : x12_1 < (l1.length : Int) := of_decide_eq_true t6_
  obtain ⟨ad103, e103, hx103_0⟩ := Kd.at_int HR1.out x12_1 p103 q103
  cases e103
  replace hx103_0 := hc_ HB hx103_0
  replace p103 := eq_true p103
  replace q103 := eq_true q103
  go_wp2
  go_ret
  exact ⟨t5_, gb_ HB.out⟩
 rw [if_neg c10] at H
 have c10b0 := decide_eq_false c10
 clear c10
 by_cases c11 : (rd l1 x12_1) ≥ t102
 ·rw [if_pos c11] at H
  have c11b0 : decide (t102 ≤ (rd l1 x12_1)) = true := decide_eq_true c11
  clear c11
  obtain rfl := Option.some.inj H
  have p103 : 0 ≤ (x12_1 : Int) := of_decide_eq_true t6_
  have q103 : x12_1 < (l1.length : Int) := of_decide_eq_true t6_
  obtain ⟨ad103, e103, hx103_0⟩ := Kd.at_int HR1.out x12_1 p103 q103
  cases e103
  replace hx103_0 := hc_ HB hx103_0
  replace p103 := eq_true p103
  replace q103 := eq_true q103
  go_wp2
  go_ret
  exact ⟨t5_, gb_ HB.out⟩
 rw [if_neg c11] at H
 have c11b0 : decide (t102 ≤ (rd l1 x12_1)) = false := decide_eq_false c11
 clear c11
 have H' := Aside0.mk H
 clear H
 have p103 : 0 ≤ (x12_1 : Int) := of_decide_eq_true t6_
 have q103 : x12_1 < (l1.length : Int) := of_decide_eq_true t6_
 obtain ⟨ad103, e103, hx103_0⟩ := Kd.at_int HR1.out x12_1 p103 q103
 cases e103
 replace hx103_0 := hc_ HB hx103_0
 replace p103 := eq_true p103
 replace q103 := eq_true q103
 go_wp2
 go_roundg k1
 case measure => have := HK1.out; omega
 case rel => exact ⟨(wrap64 (x12_1 + 1)), t2_, H', ⟨by have := HK1.out; omega⟩, ⟨bb_ BK101.out⟩, ⟨gb_ HB.out⟩⟩
def impl_wordCode.f (k : Nat) (l0_0 : List Int) (l1 : List Int) : Option (Int) := (impl_IsSpace.f k l0_0).bind fun t102 => (if t102 = true then ((impl_areWords.f k l0_0 l1).bind fun t103 => (if t103 = true then (some 0) else (some 2))) else (some 1))
set_option maxHeartbeats 8000000 in
set_option maxRecDepth 100000 in
theorem impl_wordCode.calls (k : Nat) (A0_0 : Option Addr) (c0_0 : Nat) (l0_0 : List Int) (A1 : Option Addr) (c1 : Nat) (l1 : List Int) (r : Int) (w : World) (hr0_0 : Kd.C (Kd.int .i64) w A0_0 l0_0.length l0_0) (hc0_0 : l0_0.length ≤ c0_0) (hr1 : Kd.C (Kd.int .i64) w A1 l1.length l1) (hc1 : l1.length ≤ c1) (h : impl_wordCode.f k l0_0 l1 = some r) :
  Calls Tryz.prog 71 #[.agg #[.slice A0_0 l0_0.length c0_0], .slice A1 l1.length c1] w fun e w' => e = .returned (.int .i64 r) ∧ Below w.heap.size w w' := by
 have hu26 := Tryz.underlying26
 have HR0_0 := Aside0.mk hr0_0
 have HC0_0 := Aside0.mk hc0_0
 clear hr0_0 hc0_0
 have HR1 := Aside0.mk hr1
 have HC1 := Aside0.mk hc1
 clear hr1 hc1
 have HB := Aside0.mk (Below.refl w.heap.size w)
 have H := h
 clear h
 unfold impl_wordCode.f at H
 replace H := bd_ H
 obtain ⟨t102, A3, H⟩ := H
 by_cases c4 : t102 = true
 rotate_left
 ·replace c4 := Bool.eq_false_iff.mpr c4
  subst c4
  have H1 : (some 1) = some r := by rw [if_neg (show ¬ (false = true) by decide)] at H; exact H
  clear H
  have H := H1
  clear H1
  obtain rfl := Option.some.inj H
  go_enter Tryz.func71, Tryz.ntmps71
  go_wp2_with (first | ((with_reducible refine gate_dst (N := 2) rfl ?_); refine bx_ (N := 2) (cs := #[.slice A0_0 l0_0.length c0_0]) (t := 26) rfl rfl ?_; intro gb101 hg w17 hbox hb; have BK101 := Aside0.mk (hbox); have GW101 := ge_ hg HB; have GE101 := ge_ hg HB; replace HB := b1_ HB hb; clear hb hbox hg; have hcz18_0 := hz_ BK101; have hfz18_0 := blk_frozen BK101.out 0) | ((with_reducible refine gate_callee (f := 42) rfl ?_); refine gl_ (some 7) rfl rfl Tryz.func42 #[.agg #[.slice A0_0 l0_0.length c0_0]] rfl ?_; (with_reducible refine (impl_IsSpace.calls k _ _ l0_0 false _ (c2_ HR0_0 HB) HC0_0.out A3.out).mono ?_); rintro e w19 ⟨rfl, hb⟩; refine ⟨_, rfl, ?_⟩; replace BK101 := a2_ BK101 hb; replace HB := b1_ HB hb; (try clear hb); (try clear hb2); (try clear hk); (try clear hi)))
  go_ret
  exact ⟨t5_, gb_ HB.out⟩

 subst c4
 have H1 : ((impl_areWords.f k l0_0 l1).bind fun t103 => (if t103 = true then (some 0) else (some 2))) = some r := by rw [if_pos rfl] at H; exact H
 clear H
 have H := H1
 clear H1
 replace H := bd_ H
 obtain ⟨t103, A5, H⟩ := H
 by_cases c6 : t103 = true
 ·subst c6
  have H1 : (some 0) = some r := by rw [if_pos rfl] at H; exact H
  clear H
  have H := H1
  clear H1
  obtain rfl := Option.some.inj H
  go_enter Tryz.func71, Tryz.ntmps71
  go_wp2_with (first | ((with_reducible refine gate_dst (N := 2) rfl ?_); refine bx_ (N := 2) (cs := #[.slice A0_0 l0_0.length c0_0]) (t := 26) rfl rfl ?_; intro gb101 hg w7 hbox hb; have BK101 := Aside0.mk (hbox); have GW101 := ge_ hg HB; have GE101 := ge_ hg HB; replace HB := b1_ HB hb; clear hb hbox hg; have hcz8_0 := hz_ BK101; have hfz8_0 := blk_frozen BK101.out 0) | ((with_reducible refine gate_callee (f := 42) rfl ?_); refine gl_ (some 7) rfl rfl Tryz.func42 #[.agg #[.slice A0_0 l0_0.length c0_0]] rfl ?_; (with_reducible refine (impl_IsSpace.calls k _ _ l0_0 true _ (c2_ HR0_0 HB) HC0_0.out A3.out).mono ?_); rintro e w9 ⟨rfl, hb⟩; refine ⟨_, rfl, ?_⟩; replace BK101 := a2_ BK101 hb; replace HB := b1_ HB hb; (try clear hb); (try clear hb2); (try clear hk); (try clear hi); have hcz10_0 := hz_ BK101; have hfz10_0 := blk_frozen BK101.out 0) | ((with_reducible refine gate_callee (f := 84) rfl ?_); refine gl_ (some 12) rfl rfl Tryz.func84 #[.agg #[.slice A0_0 l0_0.length c0_0], .slice A1 l1.length c1] rfl ?_; (with_reducible refine (impl_areWords.calls k _ _ l0_0 _ _ l1 true _ (c2_ HR0_0 HB) HC0_0.out (c2_ HR1 HB) HC1.out A5.out).mono ?_); rintro e w11 ⟨rfl, hb⟩; refine ⟨_, rfl, ?_⟩; replace BK101 := a2_ BK101 hb; replace HB := b1_ HB hb; (try clear hb); (try clear hb2); (try clear hk); (try clear hi)))
  go_ret
  exact ⟨t5_, gb_ HB.out⟩
 replace c6 := Bool.eq_false_iff.mpr c6
 subst c6
 have H1 : (some 2) = some r := by rw [if_neg (show ¬ (false = true) by decide)] at H; exact H
 clear H
 have H := H1
 clear H1
 obtain rfl := Option.some.inj H
 go_enter Tryz.func71, Tryz.ntmps71
 go_wp2_with (first | ((with_reducible refine gate_dst (N := 2) rfl ?_); refine bx_ (N := 2) (cs := #[.slice A0_0 l0_0.length c0_0]) (t := 26) rfl rfl ?_; intro gb101 hg w12 hbox hb; have BK101 := Aside0.mk (hbox); have GW101 := ge_ hg HB; have GE101 := ge_ hg HB; replace HB := b1_ HB hb; clear hb hbox hg; have hcz13_0 := hz_ BK101; have hfz13_0 := blk_frozen BK101.out 0) | ((with_reducible refine gate_callee (f := 42) rfl ?_); refine gl_ (some 7) rfl rfl Tryz.func42 #[.agg #[.slice A0_0 l0_0.length c0_0]] rfl ?_; (with_reducible refine (impl_IsSpace.calls k _ _ l0_0 true _ (c2_ HR0_0 HB) HC0_0.out A3.out).mono ?_); rintro e w14 ⟨rfl, hb⟩; refine ⟨_, rfl, ?_⟩; replace BK101 := a2_ BK101 hb; replace HB := b1_ HB hb; (try clear hb); (try clear hb2); (try clear hk); (try clear hi); have hcz15_0 := hz_ BK101; have hfz15_0 := blk_frozen BK101.out 0) | ((with_reducible refine gate_callee (f := 84) rfl ?_); refine gl_ (some 12) rfl rfl Tryz.func84 #[.agg #[.slice A0_0 l0_0.length c0_0], .slice A1 l1.length c1] rfl ?_; (with_reducible refine (impl_areWords.calls k _ _ l0_0 _ _ l1 false _ (c2_ HR0_0 HB) HC0_0.out (c2_ HR1 HB) HC1.out A5.out).mono ?_); rintro e w16 ⟨rfl, hb⟩; refine ⟨_, rfl, ?_⟩; replace BK101 := a2_ BK101 hb; replace HB := b1_ HB hb; (try clear hb); (try clear hb2); (try clear hk); (try clear hi)))
 go_ret
 exact ⟨t5_, gb_ HB.out⟩
mutual
def impl_isCode.j0 : Nat → List Int → Bool → Option (Bool)
 | 0, _, _ => none
 | k + 1, x1, x16 => if x16 = true then (some false) else (impl_isCode.l0 k x1 1)
def impl_isCode.l0 : Nat → List Int → Int → Option (Bool)
 | 0, _, _ => none
 | k + 1, x1, x5 => if x5 < (x1.length : Int) then (if 0 ≤ x5 then (if 0 ≤ (wrap64 (x5 - 1)) then (if (wrap64 (x5 - 1)) < (x1.length : Int) then (if (rd x1 x5) ≤ (rd x1 (wrap64 (x5 - 1))) then (some false) else (impl_isCode.l0 k x1 (wrap64 (x5 + 1)))) else (none)) else (none)) else (none)) else (some true)
end
def impl_isCode.f (k : Nat) (l0_0 : List Int) (l1 : List Int) : Option (Bool) := (impl_count.f k l0_0).bind fun t102 => (if (l1.length : Int) > t102 then (impl_isCode.j0 k l1 true) else ((impl_areWords.f k l0_0 l1).bind fun t103 => (impl_isCode.j0 k l1 (!t103))))
set_option maxHeartbeats 8000000 in
set_option maxRecDepth 100000 in
theorem impl_isCode.calls (k : Nat) (A0_0 : Option Addr) (c0_0 : Nat) (l0_0 : List Int) (A1 : Option Addr) (c1 : Nat) (l1 : List Int) (r : Bool) (w : World) (hr0_0 : Kd.C (Kd.int .i64) w A0_0 l0_0.length l0_0) (hc0_0 : l0_0.length ≤ c0_0) (hr1 : Kd.C (Kd.int .i64) w A1 l1.length l1) (hc1 : l1.length ≤ c1) (h : impl_isCode.f k l0_0 l1 = some r) :
  Calls Tryz.prog 72 #[.agg #[.slice A0_0 l0_0.length c0_0], .slice A1 l1.length c1] w fun e w' => e = .returned (.bool r) ∧ Below w.heap.size w w' := by
 have hu26 := Tryz.underlying26
 have HR0_0 := Aside0.mk hr0_0
 have HC0_0 := Aside0.mk hc0_0
 clear hr0_0 hc0_0
 have HR1 := Aside0.mk hr1
 have HC1 := Aside0.mk hc1
 clear hr1 hc1
 have HB := Aside0.mk (Below.refl w.heap.size w)
 have H := h
 clear h
 unfold impl_isCode.f at H
 have HC3 := Aside0.mk H
 clear H
 go_enter Tryz.func72, Tryz.ntmps72
 go_upto_region 1 with (first | ((with_reducible refine gate_dst (N := 2) rfl ?_); refine bx_ (N := 2) (cs := #[.slice A0_0 l0_0.length c0_0]) (t := 26) rfl rfl ?_; intro gb101 hg w4 hbox hb; have BK101 := Aside0.mk (hbox); have GW101 := ge_ hg HB; have GE101 := ge_ hg HB; replace HB := b1_ HB hb; clear hb hbox hg))
 repeat (go_quiet (first | ((with_reducible refine gate_dst (N := 2) rfl ?_); refine bx_ (N := 2) (cs := #[.slice A0_0 l0_0.length c0_0]) (t := 26) rfl rfl ?_; intro gb101 hg w4 hbox hb; have BK101 := Aside0.mk (hbox); have GW101 := ge_ hg HB; have GE101 := ge_ hg HB; replace HB := b1_ HB hb; clear hb hbox hg)); go_upto_region 1 with (first | ((with_reducible refine gate_dst (N := 2) rfl ?_); refine bx_ (N := 2) (cs := #[.slice A0_0 l0_0.length c0_0]) (t := 26) rfl rfl ?_; intro gb101 hg w4 hbox hb; have BK101 := Aside0.mk (hbox); have GW101 := ge_ hg HB; have GE101 := ge_ hg HB; replace HB := b1_ HB hb; clear hb hbox hg)))
 (try simp only [Act.put, List.setIfInBounds_toArray, List.set_cons_zero, List.set_cons_succ])
 go_cut [16] (fun cs_16 wc => ∃ (kq : Nat) (x16_2 : Bool), cs_16 = .bool x16_2 ∧ Aside0 (impl_isCode.j0 kq l1 x16_2 = some r) ∧ Aside0 (kq ≤ k) ∧ Aside0 (wc.heap[gb101]? = some (.cells #[(.slice A0_0 l0_0.length c0_0)] 26 (0, 0))) ∧ Aside0 (Below w.heap.size w wc))
 case first =>
  have H := HC3.out
  clear HC3
  replace H := bd_ H
  obtain ⟨t102, A5, H⟩ := H
  by_cases c6 : (l1.length : Int) > t102
  ·rw [if_pos c6] at H
   have c6b0 : decide (t102 < (l1.length : Int)) = true := decide_eq_true c6
   clear c6
   (first | rw [c6b0] | (simp only [i64_w, i32_w]; rw [c6b0]) | skip)
   have H' := Aside0.mk H
   clear H
   have hcz7_0 := hz_ BK101
   have hfz7_0 := blk_frozen BK101.out 0
   go_wp2_with (first | (go_at_call 43; (with_reducible refine (impl_count.calls k _ _ l0_0 t102 _ (c2_ HR0_0 HB) HC0_0.out A5.out).mono ?_); rintro e w8 ⟨rfl, hb⟩; replace BK101 := a2_ BK101 hb; replace HB := b1_ HB hb; (try clear hb); (try clear hb2); (try clear hk); (try clear hi)))
   repeat (go_quiet (first | (go_at_call 43; (with_reducible refine (impl_count.calls k _ _ l0_0 t102 _ (c2_ HR0_0 HB) HC0_0.out A5.out).mono ?_); rintro e w8 ⟨rfl, hb⟩; replace BK101 := a2_ BK101 hb; replace HB := b1_ HB hb; (try clear hb); (try clear hb2); (try clear hk); (try clear hi))); try go_wp2_with (first | (go_at_call 43; (with_reducible refine (impl_count.calls k _ _ l0_0 t102 _ (c2_ HR0_0 HB) HC0_0.out A5.out).mono ?_); rintro e w8 ⟨rfl, hb⟩; replace BK101 := a2_ BK101 hb; replace HB := b1_ HB hb; (try clear hb); (try clear hb2); (try clear hk); (try clear hi))))
   go_meet
   case rel => exact ⟨_, (true), t2_, H', ⟨by first | omega | exact Nat.le_refl _⟩, ⟨bb_ BK101.out⟩, ⟨gb_ HB.out⟩⟩
  rw [if_neg c6] at H
  have c6b0 : decide (t102 < (l1.length : Int)) = false := decide_eq_false c6
  clear c6
  (first | rw [c6b0] | (simp only [i64_w, i32_w]; rw [c6b0]) | skip)
  replace H := bd_ H
  obtain ⟨t103, A9, H⟩ := H
  have H' := Aside0.mk H
  clear H
  have hcz10_0 := hz_ BK101
  have hfz10_0 := blk_frozen BK101.out 0
  go_wp2_with (first | (go_at_call 43; (with_reducible refine (impl_count.calls k _ _ l0_0 t102 _ (c2_ HR0_0 HB) HC0_0.out A5.out).mono ?_); rintro e w11 ⟨rfl, hb⟩; replace BK101 := a2_ BK101 hb; replace HB := b1_ HB hb; (try clear hb); (try clear hb2); (try clear hk); (try clear hi); have hcz12_0 := hz_ BK101; have hfz12_0 := blk_frozen BK101.out 0) | (go_at_call 84; (with_reducible refine (impl_areWords.calls k _ _ l0_0 _ _ l1 t103 _ (c2_ HR0_0 HB) HC0_0.out (c2_ HR1 HB) HC1.out A9.out).mono ?_); rintro e w13 ⟨rfl, hb⟩; replace BK101 := a2_ BK101 hb; replace HB := b1_ HB hb; (try clear hb); (try clear hb2); (try clear hk); (try clear hi)))
  repeat (go_quiet (first | (go_at_call 43; (with_reducible refine (impl_count.calls k _ _ l0_0 t102 _ (c2_ HR0_0 HB) HC0_0.out A5.out).mono ?_); rintro e w11 ⟨rfl, hb⟩; replace BK101 := a2_ BK101 hb; replace HB := b1_ HB hb; (try clear hb); (try clear hb2); (try clear hk); (try clear hi); have hcz12_0 := hz_ BK101; have hfz12_0 := blk_frozen BK101.out 0) | (go_at_call 84; (with_reducible refine (impl_areWords.calls k _ _ l0_0 _ _ l1 t103 _ (c2_ HR0_0 HB) HC0_0.out (c2_ HR1 HB) HC1.out A9.out).mono ?_); rintro e w13 ⟨rfl, hb⟩; replace BK101 := a2_ BK101 hb; replace HB := b1_ HB hb; (try clear hb); (try clear hb2); (try clear hk); (try clear hi))); try go_wp2_with (first | (go_at_call 43; (with_reducible refine (impl_count.calls k _ _ l0_0 t102 _ (c2_ HR0_0 HB) HC0_0.out A5.out).mono ?_); rintro e w11 ⟨rfl, hb⟩; replace BK101 := a2_ BK101 hb; replace HB := b1_ HB hb; (try clear hb); (try clear hb2); (try clear hk); (try clear hi); have hcz12_0 := hz_ BK101; have hfz12_0 := blk_frozen BK101.out 0) | (go_at_call 84; (with_reducible refine (impl_areWords.calls k _ _ l0_0 _ _ l1 t103 _ (c2_ HR0_0 HB) HC0_0.out (c2_ HR1 HB) HC1.out A9.out).mono ?_); rintro e w13 ⟨rfl, hb⟩; replace BK101 := a2_ BK101 hb; replace HB := b1_ HB hb; (try clear hb); (try clear hb2); (try clear hk); (try clear hi))))
  go_meet
  case rel => exact ⟨_, (!t103), t2_, H', ⟨by first | omega | exact Nat.le_refl _⟩, ⟨bb_ BK101.out⟩, ⟨gb_ HB.out⟩⟩
 clear HC3
 try clear c1
 try clear p2
 try clear c6
 try clear c6b0
 try clear c7
 try clear hcz10_0
 try clear hcz12_0
 try clear hcz7_0
 try clear hfz10_0
 try clear hfz12_0
 try clear hfz7_0
 obtain ⟨kq, x16_2, rfl, HA, HJ2, BK101, HB⟩ := hcut
 cases kq with
 | zero => exact absurd HA.out (by simp [impl_isCode.j0])
 | succ kj2 =>
  have H := HA.out
  clear HA
  simp only [impl_isCode.j0] at H
  by_cases c14 : x16_2 = true
  ·subst c14
   have H1 : (some false) = some r := by rw [if_pos rfl] at H; exact H
   clear H
   have H := H1
   clear H1
   obtain rfl := Option.some.inj H
   go_wp2
   repeat (go_quiet (fail); try go_wp2)
   go_ret
   exact ⟨t5_, gb_ HB.out⟩
  replace c14 := Bool.eq_false_iff.mpr c14
  subst c14
  have H1 : (impl_isCode.l0 kj2 l1 1) = some r := by rw [if_neg (show ¬ (false = true) by decide)] at H; exact H
  clear H
  have H := H1
  clear H1
  have H' := Aside0.mk H
  clear H
  go_wp2
  repeat (go_quiet (fail); try go_wp2)
  go_loopg [5] kj2 (fun kq v5 w' => ∃ (x5_2 : Int), v5 = .int .i64 x5_2 ∧ Aside0 (impl_isCode.l0 kq l1 x5_2 = some r) ∧ Aside0 (kq ≤ kj2) ∧ Aside0 (w'.heap[gb101]? = some (.cells #[(.slice A0_0 l0_0.length c0_0)] 26 (0, 0))) ∧ Aside0 (Below w.heap.size w w'))
  case atStart => exact ⟨(1), t2_, H', ⟨Nat.le_refl _⟩, ⟨bb_ BK101.out⟩, ⟨gb_ HB.out⟩⟩
  clear H'
  try clear c1
  try clear p2
  try clear c6
  try clear c6b0
  try clear c7
  try clear c14
  try clear hcz10_0
  try clear hcz12_0
  try clear hcz7_0
  try clear hfz10_0
  try clear hfz12_0
  try clear hfz7_0
  try clear p2
  obtain ⟨x5_2, rfl, HA, HK2, BK101, HB⟩ := hrel
  obtain _ | k2 := gk
  ·exact absurd HA.out (by simp [impl_isCode.l0])
  have H := HA.out
  clear HA
  simp only [impl_isCode.l0] at H
  replace H := ie_ H
  obtain ⟨c15b0, H⟩ | ⟨c15b0, H⟩ := H
  ·obtain rfl := Option.some.inj H
   go_wp2
   repeat (go_quiet (fail); try go_wp2)
   go_ret
   exact ⟨t5_, gb_ HB.out⟩

  replace H := id_ H
  obtain ⟨c16b0, H⟩ := H
  obtain ⟨ji17, hji17⟩ : ∃ j_ : Int, (wrap64 (x5_2 - 1)) = j_ := ⟨_, rfl⟩
  replace H : (if 0 ≤ (ji17) then (if (ji17) < (l1.length : Int) then (if (rd l1 x5_2) ≤ (rd l1 (ji17)) then (some false) else (impl_isCode.l0 k2 l1 (wrap64 (x5_2 + 1)))) else (none)) else (none)) = some r := by first | (rw [hji17] at H; exact H) | (simp only [hji17] at H ⊢; exact H)
  have hji17w : (IntKind.i64.wrap (x5_2 - 1)) = ji17 := (i64_w _).trans hji17
  replace H := id_ H
  obtain ⟨c18b0, H⟩ := H
  replace H := id_ H
  obtain ⟨c19b0, H⟩ := H
  by_cases c20 : (rd l1 x5_2) ≤ (rd l1 (ji17))
  ·rw [if_pos c20] at H
   have c20b0 := decide_eq_true c20
   clear c20
   obtain rfl := Option.some.inj H
   have p104 : 0 ≤ (x5_2 : Int) := of_decide_eq_true t6_
   have q104 : x5_2 < (l1.length : Int) := of_decide_eq_true t6_
   obtain ⟨ad104, e104, hx104_0⟩ := Kd.at_int HR1.out x5_2 p104 q104
   cases e104
   replace hx104_0 := hc_ HB hx104_0
   replace p104 := eq_true p104
   replace q104 := eq_true q104
   have p105 : 0 ≤ ((ji17) : Int) := of_decide_eq_true t6_
   have q105 : (ji17) < (l1.length : Int) := of_decide_eq_true t6_
   obtain ⟨ad105, e105, hx105_0⟩ := Kd.at_int HR1.out (ji17) p105 q105
   obtain rfl : ad104 = ad105 := (by injection e105)
   replace hx105_0 := hc_ HB hx105_0
   replace p105 := eq_true p105
   replace q105 := eq_true q105
   go_wp2
   repeat (go_quiet (fail); try go_wp2)
   go_ret
   exact ⟨by first | rfl | (simp [errW_none, errW_some] <;> rfl) | (simp only [← hji17]; first | rfl | (simp [errW_none, errW_some] <;> rfl)) | (simp [*, errW_none, errW_some] <;> rfl), gb_ HB.out⟩
  rw [if_neg c20] at H
  have c20b0 := decide_eq_false c20
  clear c20
  have H' := Aside0.mk H
  clear H
  have p104 : 0 ≤ (x5_2 : Int) := of_decide_eq_true t6_
  have q104 : x5_2 < (l1.length : Int) := of_decide_eq_true t6_
  obtain ⟨ad104, e104, hx104_0⟩ := Kd.at_int HR1.out x5_2 p104 q104
  cases e104
  replace hx104_0 := hc_ HB hx104_0
  replace p104 := eq_true p104
  replace q104 := eq_true q104
  have p105 : 0 ≤ ((ji17) : Int) := of_decide_eq_true t6_
  have q105 : (ji17) < (l1.length : Int) := of_decide_eq_true t6_
  obtain ⟨ad105, e105, hx105_0⟩ := Kd.at_int HR1.out (ji17) p105 q105
  obtain rfl : ad104 = ad105 := (by injection e105)
  replace hx105_0 := hc_ HB hx105_0
  replace p105 := eq_true p105
  replace q105 := eq_true q105
  go_wp2
  repeat (go_quiet (fail); try go_wp2)
  go_roundg k2
  case measure => have := HJ2.out; have := HK2.out; omega
  case rel => exact ⟨(wrap64 (x5_2 + 1)), t2_, H', ⟨by have := HJ2.out; have := HK2.out; omega⟩, ⟨bb_ BK101.out⟩, ⟨gb_ HB.out⟩⟩
def impl_codeCode.f (k : Nat) (l0_0 : List Int) (l1 : List Int) (l2 : List Int) : Option (Int) := (impl_wordCode.f k l0_0 l2).bind fun t102 => (if t102 = 0 then ((impl_isCode.f k l0_0 l1).bind fun t103 => (if t103 = true then (some 0) else (some 2))) else (some t102))
set_option maxHeartbeats 8000000 in
set_option maxRecDepth 100000 in
theorem impl_codeCode.calls (k : Nat) (A0_0 : Option Addr) (c0_0 : Nat) (l0_0 : List Int) (A1 : Option Addr) (c1 : Nat) (l1 : List Int) (A2 : Option Addr) (c2 : Nat) (l2 : List Int) (r : Int) (w : World) (hr0_0 : Kd.C (Kd.int .i64) w A0_0 l0_0.length l0_0) (hc0_0 : l0_0.length ≤ c0_0) (hr1 : Kd.C (Kd.int .i64) w A1 l1.length l1) (hc1 : l1.length ≤ c1) (hr2 : Kd.C (Kd.int .i64) w A2 l2.length l2) (hc2 : l2.length ≤ c2) (h : impl_codeCode.f k l0_0 l1 l2 = some r) :
  Calls Tryz.prog 44 #[.agg #[.slice A0_0 l0_0.length c0_0], .slice A1 l1.length c1, .slice A2 l2.length c2] w fun e w' => e = .returned (.int .i64 r) ∧ Below w.heap.size w w' := by
 have hu26 := Tryz.underlying26
 have HR0_0 := Aside0.mk hr0_0
 have HC0_0 := Aside0.mk hc0_0
 clear hr0_0 hc0_0
 have HR1 := Aside0.mk hr1
 have HC1 := Aside0.mk hc1
 clear hr1 hc1
 have HR2 := Aside0.mk hr2
 have HC2 := Aside0.mk hc2
 clear hr2 hc2
 have HB := Aside0.mk (Below.refl w.heap.size w)
 have H := h
 clear h
 unfold impl_codeCode.f at H
 replace H := bd_ H
 obtain ⟨t102, A4, H⟩ := H
 by_cases c5 : t102 = 0
 rotate_left
 ·rw [if_neg c5] at H
  have c5b0 : (t102 == 0) = false := beq_eq_false_iff_ne.mpr c5
  have c5b1 : (t102 != 0) = true := bne_iff_ne.mpr c5
  obtain rfl := Option.some.inj H
  go_enter Tryz.func44, Tryz.ntmps44
  go_wp2_with (first | ((with_reducible refine gate_dst (N := 3) rfl ?_); refine bx_ (N := 3) (cs := #[.slice A0_0 l0_0.length c0_0]) (t := 26) rfl rfl ?_; intro gb101 hg w18 hbox hb; have BK101 := Aside0.mk (hbox); have GW101 := ge_ hg HB; have GE101 := ge_ hg HB; replace HB := b1_ HB hb; clear hb hbox hg; have hcz19_0 := hz_ BK101; have hfz19_0 := blk_frozen BK101.out 0) | ((with_reducible refine gate_callee (f := 71) rfl ?_); refine gl_ (some 10) rfl rfl Tryz.func71 #[.agg #[.slice A0_0 l0_0.length c0_0], .slice A2 l2.length c2] rfl ?_; (with_reducible refine (impl_wordCode.calls k _ _ l0_0 _ _ l2 t102 _ (c2_ HR0_0 HB) HC0_0.out (c2_ HR2 HB) HC2.out A4.out).mono ?_); rintro e w20 ⟨rfl, hb⟩; refine ⟨_, rfl, ?_⟩; replace BK101 := a2_ BK101 hb; replace HB := b1_ HB hb; (try clear hb); (try clear hb2); (try clear hk); (try clear hi)))
  go_ret
  exact ⟨t5_, gb_ HB.out⟩

 rw [if_pos c5] at H
 have c5b0 : (t102 == 0) = true := beq_iff_eq.mpr c5
 have c5b1 : (t102 != 0) = false := bne_eq_false_iff_eq.mpr c5
 clear c5
 replace H := bd_ H
 obtain ⟨t103, A6, H⟩ := H
 by_cases c7 : t103 = true
 ·subst c7
  have H1 : (some 0) = some r := by rw [if_pos rfl] at H; exact H
  clear H
  have H := H1
  clear H1
  obtain rfl := Option.some.inj H
  go_enter Tryz.func44, Tryz.ntmps44
  go_wp2_with (first | ((with_reducible refine gate_dst (N := 3) rfl ?_); refine bx_ (N := 3) (cs := #[.slice A0_0 l0_0.length c0_0]) (t := 26) rfl rfl ?_; intro gb101 hg w8 hbox hb; have BK101 := Aside0.mk (hbox); have GW101 := ge_ hg HB; have GE101 := ge_ hg HB; replace HB := b1_ HB hb; clear hb hbox hg; have hcz9_0 := hz_ BK101; have hfz9_0 := blk_frozen BK101.out 0) | ((with_reducible refine gate_callee (f := 71) rfl ?_); refine gl_ (some 10) rfl rfl Tryz.func71 #[.agg #[.slice A0_0 l0_0.length c0_0], .slice A2 l2.length c2] rfl ?_; (with_reducible refine (impl_wordCode.calls k _ _ l0_0 _ _ l2 t102 _ (c2_ HR0_0 HB) HC0_0.out (c2_ HR2 HB) HC2.out A4.out).mono ?_); rintro e w10 ⟨rfl, hb⟩; refine ⟨_, rfl, ?_⟩; replace BK101 := a2_ BK101 hb; replace HB := b1_ HB hb; (try clear hb); (try clear hb2); (try clear hk); (try clear hi); have hcz11_0 := hz_ BK101; have hfz11_0 := blk_frozen BK101.out 0) | ((with_reducible refine gate_callee (f := 72) rfl ?_); refine gl_ (some 16) rfl rfl Tryz.func72 #[.agg #[.slice A0_0 l0_0.length c0_0], .slice A1 l1.length c1] rfl ?_; (with_reducible refine (impl_isCode.calls k _ _ l0_0 _ _ l1 true _ (c2_ HR0_0 HB) HC0_0.out (c2_ HR1 HB) HC1.out A6.out).mono ?_); rintro e w12 ⟨rfl, hb⟩; refine ⟨_, rfl, ?_⟩; replace BK101 := a2_ BK101 hb; replace HB := b1_ HB hb; (try clear hb); (try clear hb2); (try clear hk); (try clear hi)))
  go_ret
  exact ⟨t5_, gb_ HB.out⟩
 replace c7 := Bool.eq_false_iff.mpr c7
 subst c7
 have H1 : (some 2) = some r := by rw [if_neg (show ¬ (false = true) by decide)] at H; exact H
 clear H
 have H := H1
 clear H1
 obtain rfl := Option.some.inj H
 go_enter Tryz.func44, Tryz.ntmps44
 go_wp2_with (first | ((with_reducible refine gate_dst (N := 3) rfl ?_); refine bx_ (N := 3) (cs := #[.slice A0_0 l0_0.length c0_0]) (t := 26) rfl rfl ?_; intro gb101 hg w13 hbox hb; have BK101 := Aside0.mk (hbox); have GW101 := ge_ hg HB; have GE101 := ge_ hg HB; replace HB := b1_ HB hb; clear hb hbox hg; have hcz14_0 := hz_ BK101; have hfz14_0 := blk_frozen BK101.out 0) | ((with_reducible refine gate_callee (f := 71) rfl ?_); refine gl_ (some 10) rfl rfl Tryz.func71 #[.agg #[.slice A0_0 l0_0.length c0_0], .slice A2 l2.length c2] rfl ?_; (with_reducible refine (impl_wordCode.calls k _ _ l0_0 _ _ l2 t102 _ (c2_ HR0_0 HB) HC0_0.out (c2_ HR2 HB) HC2.out A4.out).mono ?_); rintro e w15 ⟨rfl, hb⟩; refine ⟨_, rfl, ?_⟩; replace BK101 := a2_ BK101 hb; replace HB := b1_ HB hb; (try clear hb); (try clear hb2); (try clear hk); (try clear hi); have hcz16_0 := hz_ BK101; have hfz16_0 := blk_frozen BK101.out 0) | ((with_reducible refine gate_callee (f := 72) rfl ?_); refine gl_ (some 16) rfl rfl Tryz.func72 #[.agg #[.slice A0_0 l0_0.length c0_0], .slice A1 l1.length c1] rfl ?_; (with_reducible refine (impl_isCode.calls k _ _ l0_0 _ _ l1 false _ (c2_ HR0_0 HB) HC0_0.out (c2_ HR1 HB) HC1.out A6.out).mono ?_); rintro e w17 ⟨rfl, hb⟩; refine ⟨_, rfl, ?_⟩; replace BK101 := a2_ BK101 hb; replace HB := b1_ HB hb; (try clear hb); (try clear hb2); (try clear hk); (try clear hi)))
 go_ret
 exact ⟨t5_, gb_ HB.out⟩
def slices_Contains_int64_int64.f (k : Nat) (l0 : List Int) (a1 : Int) : Option (Bool) := (slices_Index_int64_int64.f k l0 a1).bind fun t101 => (some (decide (t101 ≥ 0)))
set_option maxHeartbeats 8000000 in
set_option maxRecDepth 100000 in
theorem slices_Contains_int64_int64.calls (k : Nat) (A0 : Option Addr) (c0 : Nat) (l0 : List Int) (a1 : Int) (r : Bool) (w : World) (hr0 : Kd.C (Kd.int .i64) w A0 l0.length l0) (hc0 : l0.length ≤ c0) (h : slices_Contains_int64_int64.f k l0 a1 = some r) :
  Calls Tryz.prog 79 #[.slice A0 l0.length c0, .int .i64 a1] w fun e w' => e = .returned (.bool r) ∧ Drawn0 w w' := by
 have HR0 := Aside0.mk hr0
 have HC0 := Aside0.mk hc0
 clear hr0 hc0
 have H := h
 clear h
 unfold slices_Contains_int64_int64.f at H
 replace H := bd_ H
 obtain ⟨t101, A3, H⟩ := H
 obtain rfl := Option.some.inj H
 go_enter Tryz.func79, Tryz.ntmps79
 go_wp2_with (first | ((with_reducible refine gate_callee (f := 85) rfl ?_); refine gl_ (some 7) rfl rfl Tryz.func85 #[.slice A0 l0.length c0, .int .i64 a1] rfl ?_; (with_reducible refine (slices_Index_int64_int64.calls k _ _ l0 a1 t101 _ ?side1 ?side2 A3.out).mono ?_); (case side1 => repeat (first | exact HR0.out | (with_reducible refine Kd.C_alloc ?_ _) | (with_reducible refine Kd.C_drewN ?_ _) | (with_reducible refine Kd.C_drew ?_))); (case side2 => exact HC0.out); rintro e w' ⟨rfl, ⟨nd, rfl⟩⟩; refine ⟨_, rfl, ?_⟩))
 go_ret
 exact ⟨by first | rfl | (simp; done) | (simp [*]; done), by repeat (first | exact Drawn0.refl _ | apply Drawn0.step)⟩
def impl_marks.l0 : Nat → List Bool → List Int → Int → Int → Option (List Bool)
  | 0, _, _, _, _ => none
  | k + 1, x5, x11, x12, x13 => if x13 < x12 then (if 0 ≤ x13 then (if x13 < (x11.length : Int) then (if 0 ≤ (rd x11 x13) then (if (rd x11 x13) < (x5.length : Int) then (impl_marks.l0 k (x5.set ((rd x11 x13) : Int).toNat true) x11 x12 (wrap64 (x13 + 1))) else (none)) else (none)) else (none)) else (none)) else (some x5)
def impl_marks.f (k : Nat) (l0_0 : List Int) (l1 : List Int) : Option (List Bool) := (impl_count.f k l0_0).bind fun t102 => (if 0 ≤ t102 then (if (t102 : Int).toNat ≤ 281474976710656 then (impl_marks.l0 k (List.replicate (t102 : Int).toNat false) l1 (l1.length : Int) 0) else (none)) else (none))
set_option maxHeartbeats 8000000 in
set_option maxRecDepth 100000 in
theorem impl_marks.calls (k : Nat) (A0_0 : Option Addr) (c0_0 : Nat) (l0_0 : List Int) (A1 : Option Addr) (c1 : Nat) (l1 : List Int) (r : List Bool) (w : World) (hr0_0 : Kd.C (Kd.int .i64) w A0_0 l0_0.length l0_0) (hc0_0 : l0_0.length ≤ c0_0) (hr1 : Kd.C (Kd.int .i64) w A1 l1.length l1) (hc1 : l1.length ≤ c1) (h : impl_marks.f k l0_0 l1 = some r) :
  Calls Tryz.prog 37 #[.agg #[.slice A0_0 l0_0.length c0_0], .slice A1 l1.length c1] w fun e w' => ∃ v0_ : Value, e = .returned (v0_) ∧ Kd.R Kd.bool 4 w' w.heap.size (fun _ => True) v0_ r ∧ Below w.heap.size w w' := by
 have hu26 := Tryz.underlying26
 have HR0_0 := Aside0.mk hr0_0
 have HC0_0 := Aside0.mk hc0_0
 clear hr0_0 hc0_0
 have HR1 := Aside0.mk hr1
 have HC1 := Aside0.mk hc1
 clear hr1 hc1
 have HB := Aside0.mk (Below.refl w.heap.size w)
 have H := h
 clear h
 unfold impl_marks.f at H
 replace H := bd_ H
 obtain ⟨t102, A3, H⟩ := H
 replace H := ip_ H
 obtain ⟨c4, H⟩ := H
 have c4b0 := eq_true c4
 have c4b1 := decide_eq_true c4
 clear c4
 replace H := ip_ H
 obtain ⟨c5, H⟩ := H
 have c5b0 := eq_true c5
 have c5b1 := decide_eq_true c5
 clear c5
 obtain ⟨y103, hy103⟩ : ∃ y_ : List Bool, y_ = (List.replicate (t102 : Int).toNat false) := ⟨_, rfl⟩
 replace H : (impl_marks.l0 k y103 l1 (l1.length : Int) 0) = some r := y_ H
 have Ny103 := Aside0.mk hy103
 clear hy103
 have H' := Aside0.mk H
 clear H
 go_enter Tryz.func37, Tryz.ntmps37
 go_wp2_with (first | ((with_reducible refine gate_dst (N := 2) rfl ?_); refine bx_ (N := 2) (cs := #[.slice A0_0 l0_0.length c0_0]) (t := 26) rfl rfl ?_; intro gb101 hg w6 hbox hb; have BK101 := Aside0.mk (hbox); have GW101 := ge_ hg HB; have GE101 := ge_ hg HB; replace HB := b1_ HB hb; clear hb hbox hg; have hcz7_0 := hz_ BK101; have hfz7_0 := blk_frozen BK101.out 0) | ((with_reducible refine gate_callee (f := 43) rfl ?_); refine gl_ (some 9) rfl rfl Tryz.func43 #[.agg #[.slice A0_0 l0_0.length c0_0]] rfl ?_; (with_reducible refine (impl_count.calls k _ _ l0_0 t102 _ (c2_ HR0_0 HB) HC0_0.out A3.out).mono ?_); rintro e w8 ⟨rfl, hb⟩; refine ⟨_, rfl, ?_⟩; replace BK101 := a2_ BK101 hb; replace HB := b1_ HB hb; (try clear hb); (try clear hb2); (try clear hk); (try clear hi)) | ((with_reducible refine gate_dst (N := 10) rfl ?_); refine Kd.R_make Kd.bool _ 4 rfl (N := 10) rfl 54 _ _ rfl t102 rfl rfl Tryz.underlying54 (.bool false) 1 info4 rfl (by decide) (by omega) false (ok := fun _ => True) (okp := fun _ => True) rfl (fun _ hk => hk) trivial (of_decide_eq_true t6_) (Nat.le_trans (Nat.mul_le_mul_right _ (of_decide_eq_true t6_ : t102.toNat ≤ 281474976710656)) (by omega)) (Below.refl _ _) (Nat.le_refl _) ?_; intro v104 w9 ho10 hb hg_ hnew_; clear hg_ hnew_; (first | rw [← Ny103.out] at ho10 | (simp only [Int.reduceToNat] at ho10; rw [← Ny103.out] at ho10)); have HO105 := Aside0.mk (Kd.R_lower ho10 (below_size (gb_ HB.out))); replace BK101 := a2_ BK101 hb; replace HB := b1_ HB hb; clear hb ho10))
 go_loopg [13] k (fun kq v13 w' => ∃ (x5_1 : List Bool) (x13_1 : Int), v13 = .int .i64 x13_1 ∧ Aside0 (impl_marks.l0 kq x5_1 l1 (l1.length : Int) x13_1 = some r) ∧ Aside0 (kq ≤ k) ∧ Aside0 (Kd.R Kd.bool 4 w' w.heap.size (fun _ => True) v104 x5_1) ∧ Aside0 (w'.heap[gb101]? = some (.cells #[(.slice A0_0 l0_0.length c0_0)] 26 (0, 0))) ∧ Aside0 (Below w.heap.size w w'))
 case atStart => exact ⟨(y103), (0), t2_, H', ⟨Nat.le_refl _⟩, ⟨rb_ HO105.out⟩, ⟨bb_ BK101.out⟩, ⟨gb_ HB.out⟩⟩
 clear H'
 try clear c1
 try clear p2
 try clear c3
 try clear c4
 try clear c4b0
 try clear c4b1
 try clear c5
 try clear c5b0
 try clear c5b1
 try clear hcz7_0
 try clear hfz7_0
 obtain ⟨x5_1, x13_1, rfl, HA, HK1, HO_5, BK101, HB⟩ := hrel
 obtain _ | k1 := gk
 ·exact absurd HA.out (by simp [impl_marks.l0])
 have H := HA.out
 clear HA
 simp only [impl_marks.l0] at H
 replace H := ie_ H
 obtain ⟨c11b0, H⟩ | ⟨c11b0, H⟩ := H
 ·obtain rfl := Option.some.inj H
  go_wp2
  go_ret
  exact ⟨_, t5_, rb_ HO_5.out, gb_ HB.out⟩
 replace H := id_ H
 obtain ⟨c12b0, H⟩ := H
 replace H := id_ H
 obtain ⟨c13b0, H⟩ := H
 replace H := id_ H
 obtain ⟨c14b0, H⟩ := H
 replace H := id_ H
 obtain ⟨c15b0, H⟩ := H
 obtain ⟨y107, hy107⟩ : ∃ y_ : List Bool, y_ = (x5_1.set ((rd l1 x13_1) : Int).toNat true) := ⟨_, rfl⟩
 replace H : (impl_marks.l0 k1 y107 l1 (l1.length : Int) (wrap64 (x13_1 + 1))) = some r := y_ H
 have Ny107 := Aside0.mk hy107
 clear hy107
 have H' := Aside0.mk H
 clear H
 have p106 : 0 ≤ (x13_1 : Int) := of_decide_eq_true t6_
 have q106 : x13_1 < (l1.length : Int) := of_decide_eq_true t6_
 obtain ⟨ad106, e106, hx106_0⟩ := Kd.at_int HR1.out x13_1 p106 q106
 cases e106
 replace hx106_0 := hc_ HB hx106_0
 replace p106 := eq_true p106
 replace q106 := eq_true q106
 have p16 : 0 ≤ ((rd l1 x13_1) : Int) := of_decide_eq_true t6_
 have q16 : ((rd l1 x13_1) : Int) < ((x5_1.length : Int) : Int) := of_decide_eq_true t6_
 obtain ⟨go16, co16, eo16, gb16, gl16, cl16, HG16⟩ := Kd.R_form HO_5.out (by omega)
 (first | cases eo16 | (injection eo16 with ea_ en_ ec_; (first | subst ea_ | (injection ea_ with ea_; subst ea_)); subst ec_; clear en_))
 have GB16 := Aside0.mk gb16
 have GG16 := Aside0.mk HG16
 clear gb16 gl16 HG16
 obtain ⟨hx16_0, hf16_0⟩ := Kd.R_celln false HO_5.out ((rd l1 x13_1) : Int) p16 q16
 replace p16 := eq_true p16
 replace q16 := eq_true q16
 have HP17 := Kd.R_putg HO_5.out ((rd l1 x13_1) : Int) true
 go_wp2_with (first | ((with_reducible refine gate_store (t := 4) (p := 19) rfl ?_); refine store_event (t := 4) (p := 19) (v := ?vo_w18) (w1 := (wr.setCell ⟨go16, ((rd l1 x13_1) : Int).toNat, none⟩ (.bool true))) ?hg ?ho ?hn ?hr ?_; (case ho => rfl); (case hg => rfl); (case hn => rfl); (case hr => exact t3_); intro w18 hw; have hg : wr.grownBy w18 (some go16) := (by rw [hw]; exact HP17.2); have hp_ : Kd.R Kd.bool 4 w18 w.heap.size (fun _ => True) (.slice (some ⟨go16, 0, none⟩) x5_1.length co16) y107 := (by rw [hw, Ny107.out]; exact HP17.1); clear HP17; have n0_ := Aside0.mk (hp_); have n1_ := Aside0.mk (blk_grown (g := gb101) (o := .cells #[.slice A0_0 l0_0.length c0_0] 26 (0, 0)) (bb_ BK101.out) hg (Kd.R_ne HO_5.out BK101.out (by decide))); have n2_ := Aside0.mk ((by rw [hw]; exact below_set (HB.out) GB16.out : Below w.heap.size w w18)); clear HO_5 BK101 HB; have HO_5 := n0_; have BK101 := n1_; have HB := n2_; clear n0_ n1_ n2_ hg hw hp_))
 go_roundg k1
 case measure => have := HK1.out; omega
 case rel => exact ⟨(y107), (wrap64 (x13_1 + 1)), t2_, H', ⟨by have := HK1.out; omega⟩, ⟨rb_ HO_5.out⟩, ⟨bb_ BK101.out⟩, ⟨gb_ HB.out⟩⟩
def spec_l01Pick.f (s0_0 : List Int) (s0_1 : Int) (s0_2 : Int) (l1 : List Int) : Option (Int × Int × Int) := (spec_l01Next.f s0_0 s0_1 s0_2 (l1.length : Int)).bind fun bt101 => (if 0 ≤ bt101.1 then (if bt101.1 < (l1.length : Int) then (some (rd l1 bt101.1, bt101.2.1, bt101.2.2)) else (none)) else (none))
set_option maxHeartbeats 8000000 in
set_option maxRecDepth 100000 in
theorem spec_l01Pick.calls (g : Nat) (s0_0 : List Int) (s0_1 : Int) (s0_2 : Int) (A1 : Option Addr) (c1 : Nat) (l1 : List Int) (r1 : Int) (r2 : Int) (r3 : Int) (w0 w : World) (hI : IsS93 w0 w g s0_0 s0_1 s0_2) (hB : Below w0.heap.size w0 w) (hr1 : Kd.C (Kd.int .i64) w A1 l1.length l1) (hc1 : l1.length ≤ c1) (hf1 : ∀ ad, A1 = some ad → 0 < l1.length → ad.block ≠ g) (h : spec_l01Pick.f s0_0 s0_1 s0_2 l1 = some (r1, r2, r3)) :
  Calls Tryz.prog 51 #[.pointer (some ⟨g, 0, none⟩), .slice A1 l1.length c1] w fun e w' => e = .returned (.int .i64 r1) ∧ IsS93 w0 w' g s0_0 r2 r3 ∧ Below w0.heap.size w0 w' ∧ KeepBut w w' g none := by
 have HR1 := Aside0.mk hr1
 have HC1 := Aside0.mk hc1
 clear hr1 hc1
 have HI0 := Aside0.mk hI
 have HK := Aside0.mk (KeepBut.refl w g none)
 have HL := Aside0.mk hB.size
 clear hI
 have HW0 := Aside0.mk hB.size
 have HB := Aside0.mk hB
 clear hB
 have H := h
 clear h
 unfold spec_l01Pick.f at H
 replace H := bd_ H
 obtain ⟨⟨t101, t102, t103⟩, A3, H⟩ := H
 try dsimp only at H
 replace H := id_ H
 obtain ⟨c4b0, H⟩ := H
 replace H := id_ H
 obtain ⟨c5b0, H⟩ := H
 simp only [Option.some.injEq, Prod.mk.injEq] at H
 obtain ⟨rfl, rfl, rfl⟩ := H
 go_enter Tryz.func51, Tryz.ntmps51
 go_wp2_with (first | ((with_reducible refine gate_callee (f := 52) rfl ?_); refine gl_ (some 9) rfl rfl Tryz.func52 #[.pointer (some ⟨g, 0, none⟩), .int .i64 (l1.length : Int)] rfl ?_; (with_reducible refine (spec_l01Next.calls g s0_0 s0_1 s0_2 (l1.length : Int) t101 t102 t103 w0 _ ?side1 ?side2 A3.out).mono ?_); (case side1 => exact i_ HI0); (case side2 => exact gb_ HB.out); rintro e w6 ⟨rfl, hi, hb, hk⟩; refine ⟨_, rfl, ?_⟩; replace HK := Aside0.mk (KeepBut.trans (kb_ HK) hk (.inl rfl)); replace HB := Aside0.mk (hb); replace HI0 := Aside0.mk (hi); (try clear hb); (try clear hb2); (try clear hk); (try clear hi); have p104 : 0 ≤ (t101 : Int) := of_decide_eq_true t6_; have q104 : t101 < (l1.length : Int) := of_decide_eq_true t6_; obtain ⟨ad104, e104, hx104_0⟩ := Kd.at_int HR1.out t101 p104 q104; cases e104; replace hx104_0 := keep_cell HK.out hx104_0 (by first | (rw [add_block]; exact hf1 _ rfl (by omega)) | exact hf1 _ rfl (by omega) | exact hf1 ad104 rfl (by omega)); replace p104 := eq_true p104; replace q104 := eq_true q104))
 go_ret
 exact ⟨t5_, i_ HI0, gb_ HB.out, kb_ HK⟩
end Go.Proofs.YtnkndaapamenmaaGreat.P
set_option linter.unusedVariables false
set_option linter.unusedSimpArgs false
namespace Go.Proofs.YtnkndaapamenmaaGreat.P
open Go.RowKit Go.Proofs.YtnkndaapamenmaaGreatW.PrintWords Go.Proofs.YtnkndaapamenmaaGreatW.PrintLast Go.Proofs.YtnkndaapamenmaaGreatW.PrintMore CC
def upd8 (g : Nat → Int) (n : Nat) : List Int := (List.range 8).map fun k => if k < n then g k else 0
theorem upd8_length (g : Nat → Int) (n : Nat) : (upd8 g n).length = 8 := by simp [upd8]
theorem upd8_zero (g : Nat → Int) : upd8 g 0 = List.replicate 8 0 := rfl
theorem upd8_succ (g : Nat → Int) (n : Nat) : (upd8 g n).set n (g n) = upd8 g (n + 1) := by
  apply List.ext_getElem?
  intro k
  by_cases hk : k = n
  · subst hk
    by_cases h8 : k < 8
    · rw [List.getElem?_set_self (by rw [upd8_length]; exact h8)]
      simp [upd8, h8]
    · rw [List.getElem?_eq_none (by rw [List.length_set, upd8_length]; omega), List.getElem?_eq_none (by rw [upd8_length]; omega)]
  · rw [List.getElem?_set_ne (fun e => hk e.symm)]
    simp only [upd8, List.getElem?_map]
    by_cases h8 : k < 8
    · simp only [List.getElem?_range h8, Option.map_some, Option.some.injEq]
      by_cases h1 : k < n
      · rw [if_pos h1, if_pos (by omega)]
      · rw [if_neg h1, if_neg (by omega)]
    · rw [List.getElem?_eq_none (by simp; omega)]
      rfl
theorem size_rd {s : List Int} (hs : s.all sizeOk = true) {k : Nat} (hk : k < s.length) : 2 ≤ rd s (k : Int) ∧ rd s (k : Int) ≤ 4 := by
  have hq : sizeOk (rd s (k : Int)) = true := by
    have : rd s (k : Int) = s[k] := by simp [rd, List.getD_eq_getElem?_getD, hk]
    rw [this]
    exact List.all_eq_true.1 hs _ (List.getElem_mem hk)
  have := (sizeOk_iff _).1 hq
  omega
theorem mod_small {q x : Int} (h0 : 2 ≤ q) (h1 : q ≤ 4) : 0 ≤ x % q ∧ x % q ≤ 3 := by
  have a := Int.emod_nonneg x (show q ≠ 0 by omega)
  have b := Int.emod_lt_of_pos x (show 0 < q by omega)
  omega
theorem upd8_rd (g : Nat → Int) (n : Nat) {k : Nat} (hk : k < n) (h8 : k < 8) : rd (upd8 g n) (k : Int) = g k := by
  simp [rd, upd8, List.getD_eq_getElem?_getD, h8, hk]
end Go.Proofs.YtnkndaapamenmaaGreat.P
