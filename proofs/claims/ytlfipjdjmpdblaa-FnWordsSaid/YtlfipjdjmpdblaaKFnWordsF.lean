/- What the law FnWords needs, part 6: words, walks of functions (each says that a call returns what the plain Lean function beside it says), plain lemmas. -/
import Derived.Test.YtlfipjdjmpdblaaKFnWordsE
import Derived.Test.YtlfipjdjmpdblaaProg
namespace Go.Proofs.Ytlfipjdjmpdblaa.P
open Go.RowKit Go.Proofs.YtlfipjdjmpdblaaW.PrintWords Go.Proofs.YtlfipjdjmpdblaaW.PrintLast Go.Proofs.YtlfipjdjmpdblaaW.PrintMore
attribute [local go_sem] max2_int min2_int max_two min_two max_three min_three max_four min_four
set_option linter.unusedVariables false
set_option linter.unusedSimpArgs false
def errW : Option Int → Value
  | none => .nilIface
  | some c => .iface 0 (.int .i64 c)
theorem errW_none : errW none = .nilIface := rfl
theorem errW_some (c : Int) : errW (some c) = .iface 0 (.int .i64 c) := rfl
inductive Stp_ (w : World) : World → Prop
  | refl : Stp_ w w
  | alloc {w' : World} (h : Stp_ w w') (o : Obj) : Stp_ w (w'.alloc o)
  | drew {w' : World} (h : Stp_ w w') : Stp_ w w'.drew
  | drewN {w' : World} (h : Stp_ w w') (n : Nat) : Stp_ w (w'.drewN n)
theorem rb_ {α : Type} {d : Kd α} {e base : Nat} {ok : Nat → Prop} {v : Value} {xs : List α} {w w' : World} (h : d.R e w base ok v xs) (s : Stp_ w w' := by with_reducible repeat first | exact .refl | apply Stp_.alloc | apply Stp_.drewN | apply Stp_.drew) : d.R e w' base ok v xs := by
  induction s with
  | refl => exact h
  | alloc _ o ih => exact Kd.R_alloc ih o
  | drew _ ih => exact Kd.R_drew ih
  | drewN _ n ih => exact Kd.R_drewN ih n
theorem bb_ {w w' : World} {g : Nat} {o : Obj} (h : w.heap[g]? = some o) (s : Stp_ w w' := by with_reducible repeat first | exact .refl | apply Stp_.alloc | apply Stp_.drewN | apply Stp_.drew) : w'.heap[g]? = some o := by
  induction s with
  | refl => exact h
  | alloc _ o ih => exact blk_alloc ih o
  | drew _ ih => exact blk_drew ih
  | drewN _ n ih => exact blk_drewN ih n
inductive StG_ (n : Nat) (w : World) : World → Prop
  | refl : StG_ n w w
  | alloc {w' : World} (h : StG_ n w w') (o : Obj) : StG_ n w (w'.alloc o)
  | drew {w' : World} (h : StG_ n w w') : StG_ n w w'.drew
  | drewN {w' : World} (h : StG_ n w w') (m : Nat) : StG_ n w (w'.drewN m)
  | set {w' : World} {k j : Nat} {v : Value} (h : StG_ n w w') (hk : n ≤ k) : StG_ n w (w'.setCell ⟨k, j, none⟩ v)
theorem gb_ {w0 w w' : World} (h : Below w0.heap.size w0 w) (s : StG_ w0.heap.size w w' := by repeat (first | (with_reducible first | exact .refl | apply StG_.alloc | apply StG_.drewN | apply StG_.drew | refine StG_.set ?_ (Aside0.out (by assumption))) | exact .refl)) : Below w0.heap.size w0 w' := by
  induction s with
  | refl => exact h
  | alloc _ o ih => exact below_alloc ih o
  | drew _ ih => exact below_drew1 ih
  | drewN _ m ih => exact pw_below_drewN ih m
  | set _ hk ih => exact below_set ih hk
theorem a1_ {α : Type} {d : Kd α} {e base : Nat} {ok : Nat → Prop} {v : Value} {xs : List α} {w w' w1 : World} (h : Aside0 (d.R e w base ok v xs)) (hb : Below w'.heap.size w' w1) (s : Stp_ w w' := by with_reducible repeat first | exact .refl | apply Stp_.alloc | apply Stp_.drewN | apply Stp_.drew) : Aside0 (d.R e w1 base ok v xs) := ⟨Kd.R_below (rb_ h.out s) hb⟩
theorem a2_ {w w' w1 : World} {g : Nat} {o : Obj} (h : Aside0 (w.heap[g]? = some o)) (hb : Below w'.heap.size w' w1) (s : Stp_ w w' := by with_reducible repeat first | exact .refl | apply Stp_.alloc | apply Stp_.drewN | apply Stp_.drew) : Aside0 (w1.heap[g]? = some o) := ⟨blk_below (bb_ h.out s) hb⟩
theorem a5_ {α β : Type} {d : Kd α} {d2 : Kd β} {e e2 base : Nat} {ok ok2 : Nat → Prop} {u v : Value} {xs : List α} {ys : List β} {w W w1 w2 : World} (h : Aside0 (d.R e w base ok u xs)) (ho : d2.R e2 w2 W.heap.size ok2 v ys) (hb : Below W.heap.size W w1) (s : Stp_ w W := by with_reducible repeat first | exact .refl | apply Stp_.alloc | apply Stp_.drewN | apply Stp_.drew) : Aside0 (d.R e w1 base (fun k => ok k ∧ some k ≠ v.ownBlock) u xs) := ⟨Kd.R_elder' (rb_ h.out s) (Kd.R_base ho) hb⟩
theorem c1_ {α : Type} {d : Kd α} {e base : Nat} {ok : Nat → Prop} {A : Option Addr} {n c : Nat} {xs : List α} {w w' : World} (h : Aside0 (d.R e w base ok (.slice A n c) xs)) (s : Stp_ w w' := by with_reducible repeat first | exact .refl | apply Stp_.alloc | apply Stp_.drewN | apply Stp_.drew) : d.C w' A xs.length xs := (Kd.R_reads' (rb_ h.out s)).2.2
theorem c2_ {α : Type} {d : Kd α} {A : Option Addr} {n : Nat} {xs : List α} {w W w' : World} (h : Aside0 (d.C w A n xs)) (hb : Aside0 (Below w.heap.size w W)) (s : Stp_ W w' := by with_reducible repeat first | exact .refl | apply Stp_.alloc | apply Stp_.drewN | apply Stp_.drew) : d.C w' A n xs := by
  have h0 := Kd.C_below h.out hb.out
  induction s with
  | refl => exact h0
  | alloc _ o ih => exact Kd.C_alloc ih o
  | drew _ ih => exact Kd.C_drew ih
  | drewN _ n ih => exact Kd.C_drewN ih n
abbrev OB_ (k : Nat) (v : Value) : Prop := some k ≠ v.ownBlock
theorem info2 : (Try.prog.info? 2).map (fun i => (i.zero, i.size, i.bytes)) = some (some (.int .i64 0), 1, 8) := by kernel_rfl
def IsS91 (w0 W : World) (g : Nat) (f0 : List Int) (f1 : Int) (f2 : Int) : Prop := ∃ A0 c0, W.heap[g]? = some (.cells #[.slice A0 f0.length c0, .int .i64 f1, .int .u64 f2] 91 (0, 0)) ∧ w0.heap.size ≤ g ∧ Kd.C (Kd.int .u8) w0 A0 f0.length f0
theorem IsS91.grown {w0 W : World} {g : Nat} {f0 : List Int} {f1 : Int} {f2 : Int} {W1 : World} {row : Option Nat} (h : IsS91 w0 W g f0 f1 f2) (hw : W.grownBy W1 row) (hne : some g ≠ row) : IsS91 w0 W1 g f0 f1 f2 := by
  obtain ⟨A0, c0, hb, hg, hr0⟩ := h
  exact ⟨A0, c0, blk_grown hb hw hne, hg, hr0⟩
theorem IsS91.kept {w0 W : World} {g : Nat} {f0 : List Int} {f1 : Int} {f2 : Int} {W1 : World} {S : Nat → Prop} (h : IsS91 w0 W g f0 f1 f2) (hk : Kept W W1 S) (hne : ¬ S g) : IsS91 w0 W1 g f0 f1 f2 := by
  obtain ⟨A0, c0, hb, hg, hr0⟩ := h
  exact ⟨A0, c0, blk_kept hb hk hne, hg, hr0⟩
theorem IsS91.below {w0 W : World} {g : Nat} {f0 : List Int} {f1 : Int} {f2 : Int} {W1 : World} (h : IsS91 w0 W g f0 f1 f2) (hw : Below W.heap.size W W1) : IsS91 w0 W1 g f0 f1 f2 := h.grown (grown_of_below hw none) (by simp)
theorem IsS91.alloc {w0 W : World} {g : Nat} {f0 : List Int} {f1 : Int} {f2 : Int} (h : IsS91 w0 W g f0 f1 f2) (o : Obj) : IsS91 w0 (W.alloc o) g f0 f1 f2 := h.below (below_alloc (Below.refl _ _) o)
theorem IsS91.drewN {w0 W : World} {g : Nat} {f0 : List Int} {f1 : Int} {f2 : Int} (h : IsS91 w0 W g f0 f1 f2) (m : Nat) : IsS91 w0 (W.drewN m) g f0 f1 f2 := h
theorem IsS91.drew {w0 W : World} {g : Nat} {f0 : List Int} {f1 : Int} {f2 : Int} (h : IsS91 w0 W g f0 f1 f2) : IsS91 w0 W.drew g f0 f1 f2 := h
theorem IsS91.at_ {w0 W : World} {g : Nat} {f0 : List Int} {f1 : Int} {f2 : Int} {w' : World} {m : Nat} (hq : W.drewN m = w') (h : IsS91 w0 W g f0 f1 f2) : IsS91 w0 w' g f0 f1 f2 := by subst hq; exact IsS91.drewN h m
theorem IsS91.apart {w0 W : World} {g : Nat} {f0 : List Int} {f1 : Int} {f2 : Int} {α : Type} {d : Kd α} {e : Nat} {base : Nat} {ok : Nat → Prop} {v : Value} {xs : List α} (h : IsS91 w0 W g f0 f1 f2) (ho : d.R e W base ok v xs) (ht : ∀ q, q ∈ e :: d.E → q ≠ 91) : d.R e W base (fun k => ok k ∧ k ≠ g) v xs := by
  obtain ⟨A0, c0, hb, hg, hr0⟩ := h
  exact Kd.R_types ho hb ht
theorem IsS91.own_ne {w0 W : World} {g : Nat} {f0 : List Int} {f1 : Int} {f2 : Int} {α : Type} {d : Kd α} {e : Nat} {base : Nat} {ok : Nat → Prop} {v : Value} {xs : List α} (h : IsS91 w0 W g f0 f1 f2) (ho : d.R e W base ok v xs) (ht : e ≠ 91) : some g ≠ v.ownBlock := by
  obtain ⟨A0, c0, hb, hg, hr0⟩ := h
  exact Kd.R_ne ho hb ht
theorem IsS91.lt {w0 W : World} {g : Nat} {f0 : List Int} {f1 : Int} {f2 : Int} (h : IsS91 w0 W g f0 f1 f2) : g < W.heap.size := by
  obtain ⟨A0, c0, hb, hg, hr0⟩ := h
  exact blk_lt hb
theorem IsS91.ge {w0 W : World} {g : Nat} {f0 : List Int} {f1 : Int} {f2 : Int} (h : IsS91 w0 W g f0 f1 f2) : w0.heap.size ≤ g := by
  obtain ⟨A0, c0, hb, hg, hr0⟩ := h
  exact hg
theorem IsS91.ne_blk {w0 W : World} {g : Nat} {f0 : List Int} {f1 : Int} {f2 : Int} {a : Nat} {cs : Array Value} {t : TypeId} {fr : Nat × Nat} (h : IsS91 w0 W g f0 f1 f2) (hb2 : W.heap[a]? = some (.cells cs t fr)) (ht : t ≠ 91) : g ≠ a := by
  obtain ⟨A0, c0, hb, hg, hr0⟩ := h
  rintro rfl
  rw [hb] at hb2
  injection hb2 with hb2
  injection hb2 with _ ht2
  exact ht ht2.symm
theorem IsS91.far {w0 W : World} {g : Nat} {f0 : List Int} {f1 : Int} {f2 : Int} {p : Addr} (h : IsS91 w0 W g f0 f1 f2) (hne : g ≠ p.block) (u : Value) : IsS91 w0 (W.setCell p u) g f0 f1 f2 := by
  obtain ⟨A0, c0, hb, hg, hr0⟩ := h
  exact ⟨A0, c0, blk_far hb hne u, hg, hr0⟩
theorem cellS91_0 {W : World} {g : Nat} {A0 : Option Addr} {c0 : Nat} {f0 : List Int} {f1 : Int} {f2 : Int} (h : W.heap[g]? = some (.cells #[.slice A0 f0.length c0, .int .i64 f1, .int .u64 f2] 91 (0, 0))) : W.cell? ⟨g, 0, none⟩ = some (.slice A0 f0.length c0) := (blk_cell h 0).trans rfl
theorem cellS91_1 {W : World} {g : Nat} {A0 : Option Addr} {c0 : Nat} {f0 : List Int} {f1 : Int} {f2 : Int} (h : W.heap[g]? = some (.cells #[.slice A0 f0.length c0, .int .i64 f1, .int .u64 f2] 91 (0, 0))) : W.cell? ⟨g, 1, none⟩ = some (.int .i64 f1) := (blk_cell h 1).trans rfl
theorem IsS91.set_1 {w0 W : World} {g : Nat} {f0 : List Int} {f1 : Int} {f2 : Int} (h : IsS91 w0 W g f0 f1 f2) (x : Int) : IsS91 w0 (W.setCell ⟨g, 1, none⟩ (.int .i64 x)) g f0 x f2 := by
  obtain ⟨A0, c0, hb, hg, hr0⟩ := h
  exact ⟨A0, c0, by simpa using blk_set hb 1 (.int .i64 x), hg, hr0⟩
theorem cellS91_2 {W : World} {g : Nat} {A0 : Option Addr} {c0 : Nat} {f0 : List Int} {f1 : Int} {f2 : Int} (h : W.heap[g]? = some (.cells #[.slice A0 f0.length c0, .int .i64 f1, .int .u64 f2] 91 (0, 0))) : W.cell? ⟨g, 2, none⟩ = some (.int .u64 f2) := (blk_cell h 2).trans rfl
theorem IsS91.set_2 {w0 W : World} {g : Nat} {f0 : List Int} {f1 : Int} {f2 : Int} (h : IsS91 w0 W g f0 f1 f2) (x : Int) : IsS91 w0 (W.setCell ⟨g, 2, none⟩ (.int .u64 x)) g f0 f1 x := by
  obtain ⟨A0, c0, hb, hg, hr0⟩ := h
  exact ⟨A0, c0, by simpa using blk_set hb 2 (.int .u64 x), hg, hr0⟩
theorem t1_ {P : Prop} (h : P := by (try simp only [List.map_toArray, List.map_cons, List.map_nil]); first | done | rfl | (simp only [List.length_drop, List.length_take]; rfl)) : P := h
theorem t2_ {P : Prop} (h : P := by first | rfl | (simp; done) | (simp [*]; done)) : P := h
theorem t3_ {P : Prop} (h : P := by first | (go_simp; done) | (go_simp; rfl)) : P := h
theorem t4_ {P : Prop} (h : P := by (simp only [Act.put, List.setIfInBounds_toArray, List.set_cons_zero, List.set_cons_succ, i64_w, i32_w]; rfl)) : P := h
theorem t5_ {P : Prop} (h : P := by first | rfl | (simp [errW_none, errW_some] <;> rfl) | (simp [*, errW_none, errW_some] <;> rfl)) : P := h
theorem kb_ {w w1 w' : World} {g : Nat} (h : Aside0 (KeepBut w w1 g none)) (s : StG_ w.heap.size w1 w' := by repeat (first | (with_reducible first | exact .refl | apply StG_.alloc | apply StG_.drewN | apply StG_.drew | refine StG_.set ?_ (Aside0.out (by assumption))) | exact .refl)) : KeepBut w w' g none := by
  replace h := h.out
  induction s with
  | refl => exact h
  | alloc _ o ih => exact keep_alloc ih o
  | drew _ ih => exact keep_drew ih
  | drewN _ m ih => exact keep_drewN ih m
  | set _ hk ih => exact keep_far (p := ⟨_, _, none⟩) ih hk _
theorem kt_ {w w1 w' : World} {S : Nat → Prop} (h : Aside0 (Kept w w1 S)) (s : StG_ w.heap.size w1 w' := by repeat (first | (with_reducible first | exact .refl | apply StG_.alloc | apply StG_.drewN | apply StG_.drew | refine StG_.set ?_ (Aside0.out (by assumption))) | exact .refl)) : Kept w w' S := by
  replace h := h.out
  induction s with
  | refl => exact h
  | alloc _ o ih => exact Kept.alloc ih o
  | drew _ ih => exact Kept.drew ih
  | drewN _ m ih => exact Kept.drewN ih m
  | set _ hk ih => exact Kept.setCell (p := ⟨_, _, none⟩) ih (.inr hk) _
theorem b1_ {w W W' w2 : World} (h : Aside0 (Below w.heap.size w W)) (hb : Below W'.heap.size W' w2) (s : StG_ w.heap.size W W' := by repeat (first | (with_reducible first | exact .refl | apply StG_.alloc | apply StG_.drewN | apply StG_.drew | refine StG_.set ?_ (Aside0.out (by assumption))) | exact .refl)) : Aside0 (Below w.heap.size w w2) := ⟨below_step (gb_ h.out s) hb⟩
theorem k1_ {w W W' w2 : World} {g : Nat} (h : Aside0 (KeepBut w W g none)) (hb : Below W'.heap.size W' w2) (s : StG_ w.heap.size W W' := by repeat (first | (with_reducible first | exact .refl | apply StG_.alloc | apply StG_.drewN | apply StG_.drew | refine StG_.set ?_ (Aside0.out (by assumption))) | exact .refl)) : Aside0 (KeepBut w w2 g none) := ⟨KeepBut.trans (kb_ h s) (KeepBut.of_below hb g none) (.inl rfl)⟩
theorem t6_ {P : Prop} (h : P := by first | (with_reducible assumption) | assumption) : P := h
theorem t7_ {P : Prop} (h : P := by (intro w'; go_simp; with_reducible rfl)) : P := h
theorem y_ {P Q : Prop} (H : P) (h : P → Q := by (intro H_; subst_vars; first | with_reducible exact H_ | (have H2_ := (Option.bind_some _ _).symm.trans H_; with_reducible exact H2_) | exact H_)) : Q := h H
theorem hz_ {w : World} {g t : Nat} {v : Value} (h : Aside0 (w.heap[g]? = some (.cells #[v] t (0, 0)))) : w.cell? ⟨g, 0, none⟩ = some v := (blk_cell h.out 0).trans rfl
theorem ge_ {w W W' : World} {g : Nat} (hg : g = W'.heap.size) (h : Aside0 (Below w.heap.size w W)) (s : StG_ w.heap.size W W' := by repeat (first | (with_reducible first | exact .refl | apply StG_.alloc | apply StG_.drewN | apply StG_.drew | refine StG_.set ?_ (Aside0.out (by assumption))) | exact .refl)) : Aside0 (w.heap.size ≤ g) := ⟨by rw [hg]; exact below_size (gb_ h.out s)⟩
theorem gk_ {w W W' : World} {g g0 : Nat} (hg : g = W'.heap.size) (h : Aside0 (KeepBut w W g0 none)) (s : StG_ w.heap.size W W' := by repeat (first | (with_reducible first | exact .refl | apply StG_.alloc | apply StG_.drewN | apply StG_.drew | refine StG_.set ?_ (Aside0.out (by assumption))) | exact .refl)) : Aside0 (w.heap.size ≤ g) := ⟨by rw [hg]; exact (kb_ h s).1⟩
theorem nl_ {w W' : World} {g g0 : Nat} {o : Obj} (hg : g = W'.heap.size) (h : Aside0 (w.heap[g0]? = some o)) (s : Stp_ w W' := by with_reducible repeat first | exact .refl | apply Stp_.alloc | apply Stp_.drewN | apply Stp_.drew) : Aside0 (g0 ≠ g) := ⟨by rw [hg]; exact Nat.ne_of_lt (blk_lt (bb_ h.out s))⟩
theorem nr_ {w W' : World} {g g0 : Nat} {o : Obj} (hg : g = W'.heap.size) (h : Aside0 (w.heap[g0]? = some o)) (s : Stp_ w W' := by with_reducible repeat first | exact .refl | apply Stp_.alloc | apply Stp_.drewN | apply Stp_.drew) : Aside0 (g ≠ g0) := ⟨Ne.symm (nl_ hg h s).out⟩
theorem kx_ {w W' w1 : World} {g g' : Nat} {o : Obj} (h : Aside0 (w.heap[g']? = some o)) (hn : Aside0 (g' ≠ g)) (hk : KeepBut W' w1 g none) (s : Stp_ w W' := by with_reducible repeat first | exact .refl | apply Stp_.alloc | apply Stp_.drewN | apply Stp_.drew) : Aside0 (w1.heap[g']? = some o) := ⟨KeepBut.blk hk (bb_ h.out s) hn.out (by simp)⟩
theorem bx_ {P : Program} {ops : Array Oper} {rest : List Oper} {o : Oper} {a : Act} {Q : Exit → Act → World → Prop} {W : World} {N : Tmp} {cs : Array Value} {t : TypeId} (hgd : o.guard = none) (hd : o.dst = some N)
    (h : ∀ g, g = W.heap.size → ∀ w1, w1.heap[g]? = some (.cells cs t (0, 0)) → Below W.heap.size W w1 → wpList P ops Q rest (a.put o.dst (.pointer (some ⟨g, 0, none⟩))) w1)
    (hrun : (execOp a.eval o).run P W = .ok (.value (.pointer (some ⟨W.heap.size, 0, none⟩))) (W.alloc (.cells cs t (0, 0))) := by first | (go_simp; done) | (go_simp; rfl)) : wpList P ops Q (o :: rest) a W := box_event hgd hd hrun h
theorem pu_ {P : Program} {ops : Array Oper} {Q : Exit → Act → World → Prop} {md : Region.Mode} {S : World → Prop} {ds : List Nat} {T : Bool × List (List Nat × List Nat)} {i : Nat} {N : Option Tmp} {oi : Oper} {v : Value} {fuel : Nat} {l : Array Bool} {a : Act} {w : World} (l' : Array Bool) (hi : ops[i]? = some oi) (hN : oi.dst = N) (HT : Aside0 (rtab md ops = T))
    (hy : Yields P ops oi v a) {a' : Act} (ha : a.put N v = a') (h : wpAnyLast P md ops Q S ds fuel l' a' w) (hc : anyT T l.toList l'.toList i = true := by as_aux_lemma => kernel_rfl) (hQ : ∀ c a w, Q (.panic c) (a.put oi.dst v) w → Q (.panic c) a w := by exact fun _ _ _ h => h) : wpAnyLast P md ops Q S ds (fuel + 1) l a w := pure_ l' hi hN (any_of HT.out hc) hQ hy ha h
theorem tk_ {P : Program} {ops : Array Oper} {Q : Exit → Act → World → Prop} {md : Region.Mode} {S : World → Prop} {ds : List Nat} {T : Bool × List (List Nat × List Nat)} {B : List Nat} {i : Nat} {N : Option Tmp} {oi : Oper} {v : Value} {fuel : Nat} {l : Array Bool} {a : Act} {w : World} (l' : Array Bool) (hi : ops[i]? = some oi) (hN : oi.dst = N) (HT : Aside0 (rtab md ops = T)) (HW : Aside0 (waitsOk T.2 B = true))
    (hy : YieldsIf P ops S oi v a) (hS : S w) {a' : Act} (ha : a.put N v = a') (h : wpAnyLast P md ops Q S ds fuel l' a' w) (hc : takeW T B ds l.toList l'.toList i = true := by as_aux_lemma => kernel_rfl) (hQ : ∀ c a w, Q (.panic c) (a.put oi.dst v) w → Q (.panic c) a w := by exact fun _ _ _ h => h) : wpAnyLast P md ops Q S ds (fuel + 1) l a w := take_ l' hi hN (take_ofW HT.out HW.out hc) hQ hy hS ha h
theorem on_ {P : Program} {ops : Array Oper} {Q : Exit → Act → World → Prop} {md : Region.Mode} {S : World → Prop} {ds : List Nat} {T : Bool × List (List Nat × List Nat)} {i : Nat} {N : Option Tmp} {oi : Oper} {fuel : Nat} {l : Array Bool} {a : Act} {w : World} (l' : Array Bool) (hi : ops[i]? = some oi) (hN : oi.dst = N) (HT : Aside0 (rtab md ops = T))
    (h : ∀ K : Act → World → Prop, Shut (∀ a' w', S w' → (S w' → wpAnyLast P md ops Q S ds fuel l' a' w') → K a' w') → if Region.wanted oi (yielded ops a.tmps) = true then Oper.wp P oi a w K Q else K (a.put N undef) w) (hc : (readyT T.2 l.toList == [i] && l.toList.set i true == l'.toList) = true := by as_aux_lemma => kernel_rfl) (hd : i ∉ ds := by decide) : wpAnyLast P md ops Q S ds (fuel + 1) l a w := one_ l' hi hN (one_of HT.out hc) hd h
theorem gl_ {P : Program} {ops : Array Oper} {Q : Exit → Act → World → Prop} {rest : List Oper} {oi : Oper} {a : Act} {w : World} (N : Option Tmp) (hd : oi.dst = N) (hg : oi.guard = none) {f : FuncId} {fn : Func} {az : Array Operand} {ts : Array TypeId} (hf : P.funcs[f]? = some fn) (args : Array Value)
    (hop : oi.op = .call { callee := .value (.func f), args := az, argTypes := ts }) (h : Calls P f args w fun e w' => ∃ v, e = .returned v ∧ wpList P ops Q rest (a.put N v) w')
    (hargs : az.map a.eval = args := by (try simp only [List.map_toArray, List.map_cons, List.map_nil]); first | done | rfl | (simp only [List.length_drop, List.length_take]; rfl)) (hname : (fn.name == "runtime.NumGoroutine") = false := by kernel_rfl) (hb : fn.body.isSome = true := by rfl) : wpList P ops Q (oi :: rest) a w := goesL_ N hd hg hf hname hb args hop hargs h
inductive StS91_ (g : Nat) (w : World) : World → Prop
  | refl : StS91_ g w w
  | alloc {w' : World} (h : StS91_ g w w') (o : Obj) : StS91_ g w (w'.alloc o)
  | drew {w' : World} (h : StS91_ g w w') : StS91_ g w w'.drew
  | drewN {w' : World} (h : StS91_ g w w') (n : Nat) : StS91_ g w (w'.drewN n)
  | far {w' : World} {k j : Nat} {u : Value} (h : StS91_ g w w') (hk : g ≠ k) : StS91_ g w (w'.setCell ⟨k, j, none⟩ u)
theorem i_ {w0 w w' : World} {g : Nat} {f0 : List Int} {f1 f2 : Int} (h : Aside0 (IsS91 w0 w g f0 f1 f2)) (s : StS91_ g w w' := by repeat (first | (with_reducible first | exact .refl | apply StS91_.alloc | apply StS91_.drewN | apply StS91_.drew | refine StS91_.far ?_ (Aside0.out (by assumption))) | exact .refl)) : IsS91 w0 w' g f0 f1 f2 := by
  replace h := h.out
  induction s with
  | refl => exact h
  | alloc _ o ih => exact ih.alloc o
  | drew _ ih => exact ih.drew
  | drewN _ m ih => exact ih.drewN m
  | far _ hk ih => exact IsS91.far (p := ⟨_, _, none⟩) ih hk _
theorem i1_ {w0 w w' w1 : World} {g : Nat} {f0 : List Int} {f1 f2 : Int} (h : Aside0 (IsS91 w0 w g f0 f1 f2)) (hb : Below w'.heap.size w' w1) (s : StS91_ g w w' := by repeat (first | (with_reducible first | exact .refl | apply StS91_.alloc | apply StS91_.drewN | apply StS91_.drew | refine StS91_.far ?_ (Aside0.out (by assumption))) | exact .refl)) : Aside0 (IsS91 w0 w1 g f0 f1 f2) := ⟨IsS91.below (i_ h s) hb⟩
theorem kr_ {w0 w wr w' w1 : World} {g : Nat} {f0 : List Int} {f1 f2 : Int} {α : Type} {d : Kd α} {e base : Nat} {ok : Nat → Prop} {v : Value} {xs : List α} (h : Aside0 (IsS91 w0 w g f0 f1 f2)) (hr : Aside0 (d.R e wr base ok v xs)) (hk : KeepBut w' w1 g none) (s : StS91_ g w w' := by repeat (first | (with_reducible first | exact .refl | apply StS91_.alloc | apply StS91_.drewN | apply StS91_.drew | refine StS91_.far ?_ (Aside0.out (by assumption))) | exact .refl)) (s2 : Stp_ wr w' := by with_reducible repeat first | exact .refl | apply Stp_.alloc | apply Stp_.drewN | apply Stp_.drew) (ht : ∀ q, q ∈ e :: d.E → q ≠ 91 := by decide) : Aside0 (d.R e w1 base ok v xs) := ⟨Kd.R_mono (Kd.R_keep (IsS91.apart (i_ h s) (rb_ hr.out s2) ht) hk (fun _ h => h.2)) (fun _ h => h.1)⟩
theorem il_ {w0 w W' : World} {g gb : Nat} {f0 : List Int} {f1 f2 : Int} (hg : gb = W'.heap.size) (h : Aside0 (IsS91 w0 w g f0 f1 f2)) (s : StS91_ g w W' := by repeat (first | (with_reducible first | exact .refl | apply StS91_.alloc | apply StS91_.drewN | apply StS91_.drew | refine StS91_.far ?_ (Aside0.out (by assumption))) | exact .refl)) : Aside0 (g ≠ gb) := ⟨by rw [hg]; exact Nat.ne_of_lt (IsS91.lt (i_ h s))⟩
theorem ir_ {w0 w W' : World} {g gb : Nat} {f0 : List Int} {f1 f2 : Int} (hg : gb = W'.heap.size) (h : Aside0 (IsS91 w0 w g f0 f1 f2)) (s : StS91_ g w W' := by repeat (first | (with_reducible first | exact .refl | apply StS91_.alloc | apply StS91_.drewN | apply StS91_.drew | refine StS91_.far ?_ (Aside0.out (by assumption))) | exact .refl)) : Aside0 (gb ≠ g) := ⟨Ne.symm (il_ hg h s).out⟩
def spec_l01N.l0 : Nat → Int → Int → List Int → Option (Int)
  | 0, _, _, _ => none
  | k + 1, x3, x4, x102000 => if x4 < (x102000.length : Int) then (if 0 ≤ x4 then (spec_l01N.l0 k (wrap64 (x3 * (rd x102000 x4))) (wrap64 (x4 + 1)) x102000) else (none)) else (some x3)
def spec_l01N.f (k : Nat) (l0_0 : List Int) : Option (Int) := spec_l01N.l0 k 1 0 l0_0
set_option maxHeartbeats 8000000 in
set_option maxRecDepth 100000 in
theorem spec_l01N.calls (k : Nat) (A0_0 : Option Addr) (c0_0 : Nat) (l0_0 : List Int) (r : Int) (w : World) (hr0_0 : Kd.C (Kd.int .i64) w A0_0 l0_0.length l0_0) (hc0_0 : l0_0.length ≤ c0_0) (h : spec_l01N.f k l0_0 = some r) :
  Calls Try.prog 76 #[.agg #[.slice A0_0 l0_0.length c0_0]] w fun e w' => e = .returned (.int .i64 r) ∧ Below w.heap.size w w' := by
 have hu26 := Try.underlying26
 have HR0_0 := Aside0.mk hr0_0
 have HC0_0 := Aside0.mk hc0_0
 clear hr0_0 hc0_0
 have HB := Aside0.mk (Below.refl w.heap.size w)
 have H : (spec_l01N.l0 k 1 0 l0_0) = some r := h
 clear h
 have H' := Aside0.mk H
 clear H
 go_enter Try.func76, Try.ntmps76
 go_wp2_with (first | ((with_reducible refine gate_dst (N := 1) rfl ?_); refine bx_ (N := 1) (cs := #[.slice A0_0 l0_0.length c0_0]) (t := 26) rfl rfl ?_; intro gb101 hg w2 hbox hb; have n0_ := b1_ HB hb; have n1_ := Aside0.mk (hbox); have n2_ := ge_ hg HB; have n3_ := ge_ hg HB; clear HB; have HB := n0_; have BK101 := n1_; have GW101 := n2_; have GE101 := n3_; clear n0_ n1_ n2_ n3_ hb hbox hg))
 go_loopg [3, 4] k (fun kq v3 v4 w' => ∃ (x3_1 : Int) (x4_1 : Int), v3 = .int .i64 x3_1 ∧ v4 = .int .i64 x4_1 ∧ Aside0 (spec_l01N.l0 kq x3_1 x4_1 l0_0 = some r) ∧ Aside0 (kq ≤ k) ∧ Aside0 (w'.heap[gb101]? = some (.cells #[(.slice A0_0 l0_0.length c0_0)] 26 (0, 0))) ∧ Aside0 (Below w.heap.size w w'))
 case atStart => exact ⟨(1), (0), t2_, t2_, H', ⟨Nat.le_refl _⟩, ⟨bb_ BK101.out⟩, ⟨gb_ HB.out⟩⟩
 clear H'
 try clear p2
 obtain ⟨x3_1, x4_1, rfl, rfl, HA, HK1, BK101, HB⟩ := hrel
 obtain _ | k1 := gk
 ·exact absurd HA.out (by simp [spec_l01N.l0])
 have H := HA.out
 clear HA
 simp only [spec_l01N.l0] at H
 by_cases c3 : x4_1 < (l0_0.length : Int)
 rotate_left
 ·rw [if_neg c3] at H
  have c3b0 : decide (x4_1 < (l0_0.length : Int)) = false := decide_eq_false c3
  clear c3
  obtain rfl := Option.some.inj H
  have hcz6_0 := hz_ BK101
  have hfz6_0 := blk_frozen BK101.out 0
  go_wp2
  go_ret
  exact ⟨t5_, gb_ HB.out⟩

 rw [if_pos c3] at H
 have c3b0 : decide (x4_1 < (l0_0.length : Int)) = true := decide_eq_true c3
 clear c3
 by_cases c4 : 0 ≤ x4_1
 rotate_left
 ·rw [if_neg c4] at H
  exact absurd H (by simp)
 rw [if_pos c4] at H
 have c4b0 : decide (0 ≤ x4_1) = true := decide_eq_true c4
 clear c4
 have H' := Aside0.mk H
 clear H
 have hcz5_0 := hz_ BK101
 have hfz5_0 := blk_frozen BK101.out 0
 have p102 : 0 ≤ (x4_1 : Int) := of_decide_eq_true t6_
 have q102 : x4_1 < (l0_0.length : Int) := of_decide_eq_true t6_
 obtain ⟨ad102, e102, hx102_0⟩ := Kd.at_int HR0_0.out x4_1 p102 q102
 cases e102
 replace hx102_0 := (HB.out.cell (World.block_lt_of_cell? _ _ hx102_0)).trans hx102_0
 replace p102 := eq_true p102
 replace q102 := eq_true q102
 go_wp2
 go_roundg k1
 case measure => have := HK1.out; omega
 case rel => exact ⟨(wrap64 (x3_1 * (rd l0_0 x4_1))), (wrap64 (x4_1 + 1)), t2_, t2_, H', ⟨by have := HK1.out; omega⟩, ⟨bb_ BK101.out⟩, ⟨gb_ HB.out⟩⟩
mutual
def impl_IsSpace.j0 : Nat → Bool → List Int → Option (Bool)
 | 0, _, _ => none
 | k + 1, x15, x102000 => if x15 = true then (some false) else (impl_IsSpace.l0 k 1 x102000 (x102000.length : Int) 0)
def impl_IsSpace.l0 : Nat → Int → List Int → Int → Int → Option (Bool)
 | 0, _, _, _, _ => none
 | k + 1, x3, x17, x18, x19 => if x19 < x18 then (if 0 ≤ x19 then (if x19 < (x17.length : Int) then (if (rd x17 x19) < 2 then (some false) else (if (rd x17 x19) > 4 then (some false) else (impl_IsSpace.l0 k (wrap64 (x3 * (rd x17 x19))) x17 x18 (wrap64 (x19 + 1))))) else (none)) else (none)) else (some (decide (x3 ≤ 1024)))
end
def impl_IsSpace.f (k : Nat) (l0_0 : List Int) : Option (Bool) := if (l0_0.length : Int) < 1 then (impl_IsSpace.j0 k true l0_0) else (impl_IsSpace.j0 k (decide ((l0_0.length : Int) > 8)) l0_0)
set_option maxHeartbeats 8000000 in
set_option maxRecDepth 100000 in
theorem impl_IsSpace.calls (k : Nat) (A0_0 : Option Addr) (c0_0 : Nat) (l0_0 : List Int) (r : Bool) (w : World) (hr0_0 : Kd.C (Kd.int .i64) w A0_0 l0_0.length l0_0) (hc0_0 : l0_0.length ≤ c0_0) (h : impl_IsSpace.f k l0_0 = some r) :
  Calls Try.prog 19 #[.agg #[.slice A0_0 l0_0.length c0_0]] w fun e w' => e = .returned (.bool r) ∧ Below w.heap.size w w' := by
 have hu26 := Try.underlying26
 have HR0_0 := Aside0.mk hr0_0
 have HC0_0 := Aside0.mk hc0_0
 clear hr0_0 hc0_0
 have HB := Aside0.mk (Below.refl w.heap.size w)
 have H : (if (l0_0.length : Int) < 1 then (impl_IsSpace.j0 k true l0_0) else (impl_IsSpace.j0 k (decide ((l0_0.length : Int) > 8)) l0_0)) = some r := h
 clear h
 have HC2 := Aside0.mk H
 clear H
 go_enter Try.func19, Try.ntmps19
 go_upto_region 1 with (first | ((with_reducible refine gate_dst (N := 1) rfl ?_); refine bx_ (N := 1) (cs := #[.slice A0_0 l0_0.length c0_0]) (t := 26) rfl rfl ?_; intro gb101 hg w3 hbox hb; have n0_ := b1_ HB hb; have n1_ := Aside0.mk (hbox); have n2_ := ge_ hg HB; have n3_ := ge_ hg HB; clear HB; have HB := n0_; have BK101 := n1_; have GW101 := n2_; have GE101 := n3_; clear n0_ n1_ n2_ n3_ hb hbox hg))
 (try simp only [Act.put, List.setIfInBounds_toArray, List.set_cons_zero, List.set_cons_succ])
 go_cut [15] (fun cs_15 wc => ∃ (kq : Nat) (x15_1 : Bool), cs_15 = .bool x15_1 ∧ Aside0 (impl_IsSpace.j0 kq x15_1 l0_0 = some r) ∧ Aside0 (kq ≤ k) ∧ Aside0 (wc.heap[gb101]? = some (.cells #[(.slice A0_0 l0_0.length c0_0)] 26 (0, 0))) ∧ Aside0 (Below w.heap.size w wc))
 case first =>
  have H := HC2.out
  clear HC2
  by_cases c4 : (l0_0.length : Int) < 1
  ·rw [if_pos c4] at H
   have c4b0 : decide ((l0_0.length : Int) < 1) = true := decide_eq_true c4
   have c4b1 : decide (l0_0.length < 1) = true := decide_eq_true (by omega)
   clear c4
   (first | rw [c4b0] | (simp only [i64_w, i32_w]; rw [c4b0]) | skip)
   have H' := Aside0.mk H
   clear H
   have hcz5_0 := hz_ BK101
   have hfz5_0 := blk_frozen BK101.out 0
   go_wp2
   go_meet
   case rel => exact ⟨_, (true), t2_, H', ⟨by first | omega | exact Nat.le_refl _⟩, ⟨bb_ BK101.out⟩, ⟨gb_ HB.out⟩⟩
  rw [if_neg c4] at H
  have c4b0 : decide ((l0_0.length : Int) < 1) = false := decide_eq_false c4
  have c4b1 : decide (l0_0.length < 1) = false := decide_eq_false (by omega)
  clear c4
  (first | rw [c4b0] | (simp only [i64_w, i32_w]; rw [c4b0]) | skip)
  have H' := Aside0.mk H
  clear H
  have hcz6_0 := hz_ BK101
  have hfz6_0 := blk_frozen BK101.out 0
  go_wp2
  go_meet
  case rel => exact ⟨_, (decide ((l0_0.length : Int) > 8)), t2_, H', ⟨by first | omega | exact Nat.le_refl _⟩, ⟨bb_ BK101.out⟩, ⟨gb_ HB.out⟩⟩
 clear HC2
 try clear c1
 try clear p2
 try clear c4
 try clear c4b0
 try clear c4b1
 try clear hcz5_0
 try clear hcz6_0
 try clear hfz5_0
 try clear hfz6_0
 obtain ⟨kq, x15_1, rfl, HA, HJ1, BK101, HB⟩ := hcut
 cases kq with
 | zero => exact absurd HA.out (by simp [impl_IsSpace.j0])
 | succ kj1 =>
  have H := HA.out
  clear HA
  simp only [impl_IsSpace.j0] at H
  by_cases c7 : x15_1 = true
  ·subst c7
   have H1 : (some false) = some r := by rw [if_pos rfl] at H; exact H
   clear H
   have H := H1
   clear H1
   obtain rfl := Option.some.inj H
   go_wp2
   go_ret
   exact ⟨t5_, gb_ HB.out⟩
  replace c7 := Bool.eq_false_iff.mpr c7
  subst c7
  have H1 : (impl_IsSpace.l0 kj1 1 l0_0 (l0_0.length : Int) 0) = some r := by rw [if_neg (show ¬ (false = true) by decide)] at H; exact H
  clear H
  have H := H1
  clear H1
  have H' := Aside0.mk H
  clear H
  have hcz8_0 := hz_ BK101
  have hfz8_0 := blk_frozen BK101.out 0
  go_wp2
  go_loopg [3, 19] kj1 (fun kq v3 v19 w' => ∃ (x3_2 : Int) (x19_2 : Int), v3 = .int .i64 x3_2 ∧ v19 = .int .i64 x19_2 ∧ Aside0 (impl_IsSpace.l0 kq x3_2 l0_0 (l0_0.length : Int) x19_2 = some r) ∧ Aside0 (kq ≤ kj1) ∧ Aside0 (w'.heap[gb101]? = some (.cells #[(.slice A0_0 l0_0.length c0_0)] 26 (0, 0))) ∧ Aside0 (Below w.heap.size w w'))
  case atStart => exact ⟨(1), (0), t2_, t2_, H', ⟨Nat.le_refl _⟩, ⟨bb_ BK101.out⟩, ⟨gb_ HB.out⟩⟩
  clear H'
  try clear c1
  try clear p2
  try clear c4
  try clear c4b0
  try clear c4b1
  try clear c7
  try clear hcz5_0
  try clear hcz6_0
  try clear hcz8_0
  try clear hfz5_0
  try clear hfz6_0
  try clear hfz8_0
  try clear p2
  obtain ⟨x3_2, x19_2, rfl, rfl, HA, HK2, BK101, HB⟩ := hrel
  obtain _ | k2 := gk
  ·exact absurd HA.out (by simp [impl_IsSpace.l0])
  have H := HA.out
  clear HA
  simp only [impl_IsSpace.l0] at H
  by_cases c9 : x19_2 < (l0_0.length : Int)
  rotate_left
  ·rw [if_neg c9] at H
   have c9b0 : decide (x19_2 < (l0_0.length : Int)) = false := decide_eq_false c9
   clear c9
   obtain rfl := Option.some.inj H
   go_wp2
   go_ret
   exact ⟨t5_, gb_ HB.out⟩

  rw [if_pos c9] at H
  have c9b0 : decide (x19_2 < (l0_0.length : Int)) = true := decide_eq_true c9
  clear c9
  by_cases c10 : 0 ≤ x19_2
  rotate_left
  ·rw [if_neg c10] at H
   exact absurd H (by simp)
  rw [if_pos c10] at H
  have c10b0 : decide (0 ≤ x19_2) = true := decide_eq_true c10
  clear c10
  by_cases c11 : x19_2 < (l0_0.length : Int)
  rotate_left
  ·rw [if_neg c11] at H
   exact absurd H (by simp)
  rw [if_pos c11] at H
  have c11b0 : decide (x19_2 < (l0_0.length : Int)) = true := decide_eq_true c11
  clear c11
  by_cases c12 : (rd l0_0 x19_2) < 2
  ·rw [if_pos c12] at H
   have c12b0 : decide ((rd l0_0 x19_2) < 2) = true := decide_eq_true c12
   clear c12
   obtain rfl := Option.some.inj H
   have p102 : 0 ≤ (x19_2 : Int) := of_decide_eq_true t6_
   have q102 : x19_2 < (l0_0.length : Int) := of_decide_eq_true t6_
   obtain ⟨ad102, e102, hx102_0⟩ := Kd.at_int HR0_0.out x19_2 p102 q102
   cases e102
   replace hx102_0 := (HB.out.cell (World.block_lt_of_cell? _ _ hx102_0)).trans hx102_0
   replace p102 := eq_true p102
   replace q102 := eq_true q102
   go_wp2
   go_ret
   exact ⟨t5_, gb_ HB.out⟩
  rw [if_neg c12] at H
  have c12b0 : decide ((rd l0_0 x19_2) < 2) = false := decide_eq_false c12
  clear c12
  by_cases c13 : (rd l0_0 x19_2) > 4
  ·rw [if_pos c13] at H
   have c13b0 : decide (4 < (rd l0_0 x19_2)) = true := decide_eq_true c13
   clear c13
   obtain rfl := Option.some.inj H
   have p102 : 0 ≤ (x19_2 : Int) := of_decide_eq_true t6_
   have q102 : x19_2 < (l0_0.length : Int) := of_decide_eq_true t6_
   obtain ⟨ad102, e102, hx102_0⟩ := Kd.at_int HR0_0.out x19_2 p102 q102
   cases e102
   replace hx102_0 := (HB.out.cell (World.block_lt_of_cell? _ _ hx102_0)).trans hx102_0
   replace p102 := eq_true p102
   replace q102 := eq_true q102
   go_wp2
   go_ret
   exact ⟨t5_, gb_ HB.out⟩
  rw [if_neg c13] at H
  have c13b0 : decide (4 < (rd l0_0 x19_2)) = false := decide_eq_false c13
  clear c13
  have H' := Aside0.mk H
  clear H
  have p102 : 0 ≤ (x19_2 : Int) := of_decide_eq_true t6_
  have q102 : x19_2 < (l0_0.length : Int) := of_decide_eq_true t6_
  obtain ⟨ad102, e102, hx102_0⟩ := Kd.at_int HR0_0.out x19_2 p102 q102
  cases e102
  replace hx102_0 := (HB.out.cell (World.block_lt_of_cell? _ _ hx102_0)).trans hx102_0
  replace p102 := eq_true p102
  replace q102 := eq_true q102
  go_wp2
  go_roundg k2
  case measure => have := HJ1.out; have := HK2.out; omega
  case rel => exact ⟨(wrap64 (x3_2 * (rd l0_0 x19_2))), (wrap64 (x19_2 + 1)), t2_, t2_, H', ⟨by have := HJ1.out; have := HK2.out; omega⟩, ⟨bb_ BK101.out⟩, ⟨gb_ HB.out⟩⟩
def impl_count.l0 : Nat → Int → List Int → Int → Int → Option (Int)
 | 0, _, _, _, _ => none
 | k + 1, x3, x7, x8, x9 => if x9 < x8 then (if 0 ≤ x9 then (if x9 < (x7.length : Int) then (impl_count.l0 k (wrap64 (x3 * (rd x7 x9))) x7 x8 (wrap64 (x9 + 1))) else (none)) else (none)) else (some x3)
def impl_count.f (k : Nat) (l0_0 : List Int) : Option (Int) := impl_count.l0 k 1 l0_0 (l0_0.length : Int) 0
set_option maxHeartbeats 8000000 in
set_option maxRecDepth 100000 in
theorem impl_count.calls (k : Nat) (A0_0 : Option Addr) (c0_0 : Nat) (l0_0 : List Int) (r : Int) (w : World) (hr0_0 : Kd.C (Kd.int .i64) w A0_0 l0_0.length l0_0) (hc0_0 : l0_0.length ≤ c0_0) (h : impl_count.f k l0_0 = some r) :
  Calls Try.prog 124 #[.agg #[.slice A0_0 l0_0.length c0_0]] w fun e w' => e = .returned (.int .i64 r) ∧ Below w.heap.size w w' := by
 have hu26 := Try.underlying26
 have HR0_0 := Aside0.mk hr0_0
 have HC0_0 := Aside0.mk hc0_0
 clear hr0_0 hc0_0
 have HB := Aside0.mk (Below.refl w.heap.size w)
 have H : (impl_count.l0 k 1 l0_0 (l0_0.length : Int) 0) = some r := h
 clear h
 have H' := Aside0.mk H
 clear H
 go_enter Try.func124, Try.ntmps124
 go_wp2_with (first | ((with_reducible refine gate_dst (N := 1) rfl ?_); refine bx_ (N := 1) (cs := #[.slice A0_0 l0_0.length c0_0]) (t := 26) rfl rfl ?_; intro gb101 hg w2 hbox hb; have n0_ := b1_ HB hb; have n1_ := Aside0.mk (hbox); have n2_ := ge_ hg HB; have n3_ := ge_ hg HB; clear HB; have HB := n0_; have BK101 := n1_; have GW101 := n2_; have GE101 := n3_; clear n0_ n1_ n2_ n3_ hb hbox hg; have hcz3_0 := hz_ BK101; have hfz3_0 := blk_frozen BK101.out 0))
 go_loopg [3, 9] k (fun kq v3 v9 w' => ∃ (x3_1 : Int) (x9_1 : Int), v3 = .int .i64 x3_1 ∧ v9 = .int .i64 x9_1 ∧ Aside0 (impl_count.l0 kq x3_1 l0_0 (l0_0.length : Int) x9_1 = some r) ∧ Aside0 (kq ≤ k) ∧ Aside0 (w'.heap[gb101]? = some (.cells #[(.slice A0_0 l0_0.length c0_0)] 26 (0, 0))) ∧ Aside0 (Below w.heap.size w w'))
 case atStart => exact ⟨(1), (0), t2_, t2_, H', ⟨Nat.le_refl _⟩, ⟨bb_ BK101.out⟩, ⟨gb_ HB.out⟩⟩
 clear H'
 try clear c1
 try clear p2
 try clear hcz3_0
 try clear hfz3_0
 obtain ⟨x3_1, x9_1, rfl, rfl, HA, HK1, BK101, HB⟩ := hrel
 obtain _ | k1 := gk
 ·exact absurd HA.out (by simp [impl_count.l0])
 have H := HA.out
 clear HA
 simp only [impl_count.l0] at H
 by_cases c4 : x9_1 < (l0_0.length : Int)
 rotate_left
 ·rw [if_neg c4] at H
  have c4b0 : decide (x9_1 < (l0_0.length : Int)) = false := decide_eq_false c4
  clear c4
  obtain rfl := Option.some.inj H
  go_wp2
  go_ret
  exact ⟨t5_, gb_ HB.out⟩

 rw [if_pos c4] at H
 have c4b0 : decide (x9_1 < (l0_0.length : Int)) = true := decide_eq_true c4
 clear c4
 by_cases c5 : 0 ≤ x9_1
 rotate_left
 ·rw [if_neg c5] at H
  exact absurd H (by simp)
 rw [if_pos c5] at H
 have c5b0 : decide (0 ≤ x9_1) = true := decide_eq_true c5
 clear c5
 by_cases c6 : x9_1 < (l0_0.length : Int)
 rotate_left
 ·rw [if_neg c6] at H
  exact absurd H (by simp)
 rw [if_pos c6] at H
 have c6b0 : decide (x9_1 < (l0_0.length : Int)) = true := decide_eq_true c6
 clear c6
 have H' := Aside0.mk H
 clear H
 have p102 : 0 ≤ (x9_1 : Int) := of_decide_eq_true t6_
 have q102 : x9_1 < (l0_0.length : Int) := of_decide_eq_true t6_
 obtain ⟨ad102, e102, hx102_0⟩ := Kd.at_int HR0_0.out x9_1 p102 q102
 cases e102
 replace hx102_0 := (HB.out.cell (World.block_lt_of_cell? _ _ hx102_0)).trans hx102_0
 replace p102 := eq_true p102
 replace q102 := eq_true q102
 go_wp2
 go_roundg k1
 case measure => have := HK1.out; omega
 case rel => exact ⟨(wrap64 (x3_1 * (rd l0_0 x9_1))), (wrap64 (x9_1 + 1)), t2_, t2_, H', ⟨by have := HK1.out; omega⟩, ⟨bb_ BK101.out⟩, ⟨gb_ HB.out⟩⟩
def spec_l01In.f (a0 : Int) (a1 : Int) (a2 : Int) : Option (Bool) := if a0 ≥ a1 then (some (decide (a0 ≤ a2))) else (some false)
set_option maxHeartbeats 8000000 in
set_option maxRecDepth 100000 in
theorem spec_l01In.calls (a0 : Int) (a1 : Int) (a2 : Int) (r : Bool) (w : World) (h : spec_l01In.f a0 a1 a2 = some r) :
  Calls Try.prog 84 #[.int .i64 a0, .int .i64 a1, .int .i64 a2] w fun e w' => e = .returned (.bool r) ∧ Drawn0 w w' := by
 have H : (if a0 ≥ a1 then (some (decide (a0 ≤ a2))) else (some false)) = some r := h
 clear h
 by_cases c4 : a0 ≥ a1
 ·rw [if_pos c4] at H
  have c4b0 : decide (a1 ≤ a0) = true := decide_eq_true c4
  clear c4
  obtain rfl := Option.some.inj H
  go_enter Try.func84, Try.ntmps84
  go_wp2
  go_ret
  exact ⟨by first | rfl | (simp; done) | (simp [*]; done), by repeat (first | exact Drawn0.refl _ | apply Drawn0.step)⟩
 rw [if_neg c4] at H
 have c4b0 : decide (a1 ≤ a0) = false := decide_eq_false c4
 clear c4
 obtain rfl := Option.some.inj H
 go_enter Try.func84, Try.ntmps84
 go_wp2
 go_ret
 exact ⟨by first | rfl | (simp; done) | (simp [*]; done), by repeat (first | exact Drawn0.refl _ | apply Drawn0.step)⟩
def spec_l01Is.l0 : Nat → Int → List Int → Option (Bool)
 | 0, _, _ => none
 | k + 1, x3, x102000 => if x3 < (x102000.length : Int) then (if 0 ≤ x3 then ((spec_l01In.f (rd x102000 x3) 2 4).bind fun t104 => (if t104 = true then (spec_l01Is.l0 k (wrap64 (x3 + 1)) x102000) else (some false))) else (none)) else ((spec_l01N.f k x102000).bind fun t105 => (some (decide (t105 ≤ 1024))))
def spec_l01Is.f (k : Nat) (l0_0 : List Int) : Option (Bool) := (spec_l01In.f (l0_0.length : Int) 1 8).bind fun t102 => (if t102 = true then (spec_l01Is.l0 k 0 l0_0) else (some false))
set_option maxHeartbeats 8000000 in
set_option maxRecDepth 100000 in
theorem spec_l01Is.calls (k : Nat) (A0_0 : Option Addr) (c0_0 : Nat) (l0_0 : List Int) (r : Bool) (w : World) (hr0_0 : Kd.C (Kd.int .i64) w A0_0 l0_0.length l0_0) (hc0_0 : l0_0.length ≤ c0_0) (h : spec_l01Is.f k l0_0 = some r) :
  Calls Try.prog 67 #[.agg #[.slice A0_0 l0_0.length c0_0]] w fun e w' => e = .returned (.bool r) ∧ Below w.heap.size w w' := by
 have hu26 := Try.underlying26
 have HR0_0 := Aside0.mk hr0_0
 have HC0_0 := Aside0.mk hc0_0
 clear hr0_0 hc0_0
 have HB := Aside0.mk (Below.refl w.heap.size w)
 have H : ((spec_l01In.f (l0_0.length : Int) 1 8).bind fun t102 => (if t102 = true then (spec_l01Is.l0 k 0 l0_0) else (some false))) = some r := h
 clear h
 replace H := Option.bind_eq_some_iff.mp H
 obtain ⟨t102, A20, H⟩ := H
 replace H : (if t102 = true then (spec_l01Is.l0 k 0 l0_0) else (some false)) = some r := H
 have A2 := Aside0.mk A20
 clear A20
 by_cases c3 : t102 = true
 rotate_left
 ·replace c3 := Bool.eq_false_iff.mpr c3
  subst c3
  have H1 : (some false) = some r := by rw [if_neg (show ¬ (false = true) by decide)] at H; exact H
  clear H
  have H := H1
  clear H1
  obtain rfl := Option.some.inj H
  go_enter Try.func67, Try.ntmps67
  go_wp2_with (first | ((with_reducible refine gate_dst (N := 1) rfl ?_); refine bx_ (N := 1) (cs := #[.slice A0_0 l0_0.length c0_0]) (t := 26) rfl rfl ?_; intro gb101 hg w15 hbox hb; have n0_ := b1_ HB hb; have n1_ := Aside0.mk (hbox); have n2_ := ge_ hg HB; have n3_ := ge_ hg HB; clear HB; have HB := n0_; have BK101 := n1_; have GW101 := n2_; have GE101 := n3_; clear n0_ n1_ n2_ n3_ hb hbox hg; have hcz16_0 := hz_ BK101; have hfz16_0 := blk_frozen BK101.out 0) | ((with_reducible refine gate_callee (f := 84) rfl ?_); refine gl_ (some 7) rfl rfl Try.func84 #[.int .i64 (l0_0.length : Int), .int .i64 1, .int .i64 8] rfl ?_; (with_reducible refine (spec_l01In.calls (l0_0.length : Int) 1 8 false _ A2.out).mono ?_); rintro e w' ⟨rfl, ⟨nd, rfl⟩⟩; refine ⟨_, rfl, ?_⟩))
  go_ret
  exact ⟨t5_, gb_ HB.out⟩

 subst c3
 have H1 : (spec_l01Is.l0 k 0 l0_0) = some r := by rw [if_pos rfl] at H; exact H
 clear H
 have H := H1
 clear H1
 have H' := Aside0.mk H
 clear H
 go_enter Try.func67, Try.ntmps67
 go_wp2_with (first | ((with_reducible refine gate_dst (N := 1) rfl ?_); refine bx_ (N := 1) (cs := #[.slice A0_0 l0_0.length c0_0]) (t := 26) rfl rfl ?_; intro gb101 hg w4 hbox hb; have n0_ := b1_ HB hb; have n1_ := Aside0.mk (hbox); have n2_ := ge_ hg HB; have n3_ := ge_ hg HB; clear HB; have HB := n0_; have BK101 := n1_; have GW101 := n2_; have GE101 := n3_; clear n0_ n1_ n2_ n3_ hb hbox hg; have hcz5_0 := hz_ BK101; have hfz5_0 := blk_frozen BK101.out 0) | ((with_reducible refine gate_callee (f := 84) rfl ?_); refine gl_ (some 7) rfl rfl Try.func84 #[.int .i64 (l0_0.length : Int), .int .i64 1, .int .i64 8] rfl ?_; (with_reducible refine (spec_l01In.calls (l0_0.length : Int) 1 8 true _ A2.out).mono ?_); rintro e w' ⟨rfl, ⟨nd, rfl⟩⟩; refine ⟨_, rfl, ?_⟩))
 go_loopg [3] k (fun kq v3 w' => ∃ (x3_1 : Int), v3 = .int .i64 x3_1 ∧ Aside0 (spec_l01Is.l0 kq x3_1 l0_0 = some r) ∧ Aside0 (kq ≤ k) ∧ Aside0 (w'.heap[gb101]? = some (.cells #[(.slice A0_0 l0_0.length c0_0)] 26 (0, 0))) ∧ Aside0 (Below w.heap.size w w'))
 case atStart => exact ⟨(0), t2_, H', ⟨Nat.le_refl _⟩, ⟨bb_ BK101.out⟩, ⟨gb_ HB.out⟩⟩
 clear H'
 try clear p2
 try clear c3
 try clear hcz5_0
 try clear hfz5_0
 obtain ⟨x3_1, rfl, HA, HK1, BK101, HB⟩ := hrel
 obtain _ | k1 := gk
 ·exact absurd HA.out (by simp [spec_l01Is.l0])
 have H := HA.out
 clear HA
 simp only [spec_l01Is.l0] at H
 by_cases c6 : x3_1 < (l0_0.length : Int)
 rotate_left
 ·rw [if_neg c6] at H
  have c6b0 : decide (x3_1 < (l0_0.length : Int)) = false := decide_eq_false c6
  clear c6
  replace H := Option.bind_eq_some_iff.mp H
  obtain ⟨t105, A120, H⟩ := H
  replace H : (some (decide (t105 ≤ 1024))) = some r := H
  have A12 := Aside0.mk A120
  clear A120
  obtain rfl := Option.some.inj H
  have hcz13_0 := hz_ BK101
  have hfz13_0 := blk_frozen BK101.out 0
  go_wp2_with (first | ((with_reducible refine gate_callee (f := 76) rfl ?_); refine gl_ (some 24) rfl rfl Try.func76 #[.agg #[.slice A0_0 l0_0.length c0_0]] rfl ?_; (with_reducible refine (spec_l01N.calls k1 _ _ l0_0 t105 _ ?side1 ?side2 A12.out).mono ?_); (case side1 => exact c2_ HR0_0 HB); (case side2 => exact HC0_0.out); rintro e w14 ⟨rfl, hb⟩; refine ⟨_, rfl, ?_⟩; replace BK101 := a2_ BK101 hb; replace HB := b1_ HB hb; (try clear hb); (try clear hb2); (try clear hk); (try clear hi)))
  go_ret
  exact ⟨t5_, gb_ HB.out⟩
 rw [if_pos c6] at H
 have c6b0 : decide (x3_1 < (l0_0.length : Int)) = true := decide_eq_true c6
 clear c6
 by_cases c7 : 0 ≤ x3_1
 rotate_left
 ·rw [if_neg c7] at H
  exact absurd H (by simp)
 rw [if_pos c7] at H
 have c7b0 : decide (0 ≤ x3_1) = true := decide_eq_true c7
 clear c7
 replace H := Option.bind_eq_some_iff.mp H
 obtain ⟨t104, A80, H⟩ := H
 replace H : (if t104 = true then (spec_l01Is.l0 k1 (wrap64 (x3_1 + 1)) l0_0) else (some false)) = some r := H
 have A8 := Aside0.mk A80
 clear A80
 by_cases c9 : t104 = true
 rotate_left
 ·replace c9 := Bool.eq_false_iff.mpr c9
  subst c9
  have H1 : (some false) = some r := by rw [if_neg (show ¬ (false = true) by decide)] at H; exact H
  clear H
  have H := H1
  clear H1
  obtain rfl := Option.some.inj H
  have hcz11_0 := hz_ BK101
  have hfz11_0 := blk_frozen BK101.out 0
  have p103 : 0 ≤ (x3_1 : Int) := of_decide_eq_true t6_
  have q103 : x3_1 < (l0_0.length : Int) := of_decide_eq_true t6_
  obtain ⟨ad103, e103, hx103_0⟩ := Kd.at_int HR0_0.out x3_1 p103 q103
  cases e103
  replace hx103_0 := (HB.out.cell (World.block_lt_of_cell? _ _ hx103_0)).trans hx103_0
  replace p103 := eq_true p103
  replace q103 := eq_true q103
  go_wp2_with (first | ((with_reducible refine gate_callee (f := 84) rfl ?_); refine gl_ (some 21) rfl rfl Try.func84 #[.int .i64 (rd l0_0 x3_1), .int .i64 2, .int .i64 4] rfl ?_; (with_reducible refine (spec_l01In.calls (rd l0_0 x3_1) 2 4 false _ A8.out).mono ?_); rintro e w' ⟨rfl, ⟨nd, rfl⟩⟩; refine ⟨_, rfl, ?_⟩))
  go_ret
  exact ⟨t5_, gb_ HB.out⟩
 subst c9
 have H1 : (spec_l01Is.l0 k1 (wrap64 (x3_1 + 1)) l0_0) = some r := by rw [if_pos rfl] at H; exact H
 clear H
 have H := H1
 clear H1
 have H' := Aside0.mk H
 clear H
 have hcz10_0 := hz_ BK101
 have hfz10_0 := blk_frozen BK101.out 0
 have p103 : 0 ≤ (x3_1 : Int) := of_decide_eq_true t6_
 have q103 : x3_1 < (l0_0.length : Int) := of_decide_eq_true t6_
 obtain ⟨ad103, e103, hx103_0⟩ := Kd.at_int HR0_0.out x3_1 p103 q103
 cases e103
 replace hx103_0 := (HB.out.cell (World.block_lt_of_cell? _ _ hx103_0)).trans hx103_0
 replace p103 := eq_true p103
 replace q103 := eq_true q103
 go_wp2_with (first | ((with_reducible refine gate_callee (f := 84) rfl ?_); refine gl_ (some 21) rfl rfl Try.func84 #[.int .i64 (rd l0_0 x3_1), .int .i64 2, .int .i64 4] rfl ?_; (with_reducible refine (spec_l01In.calls (rd l0_0 x3_1) 2 4 true _ A8.out).mono ?_); rintro e w' ⟨rfl, ⟨nd, rfl⟩⟩; refine ⟨_, rfl, ?_⟩))
 go_roundg k1
 case measure => have := HK1.out; omega
 case rel => exact ⟨(wrap64 (x3_1 + 1)), t2_, H', ⟨by have := HK1.out; omega⟩, ⟨bb_ BK101.out⟩, ⟨gb_ HB.out⟩⟩
end Go.Proofs.Ytlfipjdjmpdblaa.P
namespace Go.Proofs.Ytlfipjdjmpdblaa.P
open Go.RowKit Go.Proofs.YtlfipjdjmpdblaaW.PrintWords Go.Proofs.YtlfipjdjmpdblaaW.PrintLast Go.Proofs.YtlfipjdjmpdblaaW.PrintMore CC
set_option linter.unusedVariables false
set_option linter.unusedSimpArgs false
def arr8 (l : List Int) : Value := .agg (nums .u8 l).toArray
def dloop (s : List Int) : Nat → Int → List Int → List Int
  | 0, _, ar => ar
  | n + 1, x, ar => dloop s n (x / rd s (n : Int)) (ar.set n (x % rd s (n : Int)))
theorem below3 (w : World) (o1 o2 o3 : Obj) : Below w.heap.size w (((w.alloc o1).alloc o2).alloc o3) := (((Below.refl _ _).alloc (Nat.le_refl _) _).alloc (by simp) _).alloc (by simp; omega) _
theorem dstep_bounds {s : List Int} (hs : s.all sizeOk = true) {n : Nat} (hn : n < s.length) {x : Int} (h0 : 0 ≤ x) (h1 : x ≤ 1024) :
    2 ≤ rd s (n : Int) ∧ rd s (n : Int) ≤ 4 ∧ 0 ≤ x % rd s (n : Int) ∧ x % rd s (n : Int) ≤ 3 ∧ 0 ≤ x / rd s (n : Int) ∧ x / rd s (n : Int) ≤ 1024 := by
  have hq : sizeOk (rd s (n : Int)) = true := by
    have : rd s (n : Int) = s[n] := by simp [rd, List.getD_eq_getElem?_getD, hn]
    rw [this]
    exact List.all_eq_true.1 hs _ (List.getElem_mem hn)
  rcases (sizeOk_iff _).1 hq with e | e | e <;> rw [e] <;> omega
theorem blk_set8 {w : World} {g : Nat} {t : TypeId} {ar : List Int} (h : w.heap[g]? = some (.cells (nums .u8 ar).toArray t (0, 0))) (i : Nat) (v : Int) : (w.setCell ⟨g, i, none⟩ (.int .u8 v)).heap[g]? = some (.cells (nums .u8 (ar.set i v)).toArray t (0, 0)) := by
  rw [blk_set h]
  simp [nums, List.map_set]
theorem cell8 {w : World} {g : Nat} {t : TypeId} {ar : List Int} (h : w.heap[g]? = some (.cells (nums .u8 ar).toArray t (0, 0))) {i : Nat} (hi : i < ar.length) : w.cell? ⟨g, i, none⟩ = some (.int .u8 (rd ar (i : Int))) := by
  rw [blk_cell h]
  simp [nums, rd, List.getD_eq_getElem?_getD, hi]
theorem rd_cell {w W : World} {ad : Addr} {s : List Int} (hr : Kd.C (Kd.int .i64) w (some ad) s.length s) (hb : Below w.heap.size w W) (i : Nat) (hi : i < s.length) : W.cell? (ad.add i) = some (.int .i64 (rd s (i : Int))) := by
  obtain ⟨ad', e, hx⟩ := Kd.at_int (Kd.C_below hr hb) (i : Int) (by omega) (by omega)
  obtain rfl := Option.some.inj e
  simpa using hx
theorem z8 : (nums .u8 (List.replicate 8 0)).toArray = #[.int .u8 0, .int .u8 0, .int .u8 0, .int .u8 0, .int .u8 0, .int .u8 0, .int .u8 0, .int .u8 0] := rfl
set_option maxHeartbeats 4000000 in
set_option maxRecDepth 100000 in
theorem digitsOf_calls (A : Option Addr) (c : Nat) (s : List Int) (x : Int) (w : World) (hr : Kd.C (Kd.int .i64) w A s.length s) (hc : s.length ≤ c) (hs : isSp s = true) (h0 : 0 ≤ x) (h1 : x ≤ 1024) :
    Calls Try.prog 64 #[.agg #[.slice A s.length c], .int .i64 x] w
      fun e w' => e = .returned (arr8 (dloop s s.length x (List.replicate 8 0))) ∧ Below w.heap.size w w' := by
  have huD := Try.underlying54
  have huS := Try.underlying26
  have HR := Aside0.mk hr
  have hl := isSp_len hs
  have hl1 := isSp_pos hs
  have HS := Aside0.mk (isSp_all hs)
  clear hr hs
  go_enter Try.func64, Try.ntmps64
  go_wp2
  go_loopw [1, 6] (fun t i W => ∃ (n : Nat) (j x' : Int) (ar : List Int), n ≤ s.length ∧ Aside0 (j = n - 1) ∧ i = .int .i64 j ∧ t = .int .i64 x' ∧ 0 ≤ x' ∧ x' ≤ 1024 ∧ Aside0 (ar.length = 8) ∧ Aside0 (dloop s n x' ar = dloop s s.length x (List.replicate 8 0)) ∧
      Aside0 (W.heap[w.heap.size]? = some (.cells #[.slice A s.length c] 26 (0, 0))) ∧ Aside0 (W.heap[w.heap.size + 1]? = some (.cells (nums .u8 (List.replicate 8 0)).toArray 54 (0, 0))) ∧ Aside0 (W.heap[w.heap.size + 1 + 1]? = some (.cells (nums .u8 ar).toArray 54 (0, 0))) ∧
      Aside0 (Below w.heap.size w W)) (fun _ i _ => (intOf i + 1).toNat)
  case atStart =>
    refine ⟨s.length, s.length - 1, x, List.replicate 8 0, by omega, ⟨rfl⟩, by simp, rfl, h0, h1, ⟨rfl⟩, ⟨rfl⟩, ⟨?_⟩, ⟨?_⟩, ⟨?_⟩, ⟨below3 _ _ _ _⟩⟩
    · exact blk_alloc (blk_alloc (blk_new _ _) _) _
    · rw [z8]
      refine blk_alloc ?_ _
      simpa using blk_new (w.alloc (.cells #[.slice A s.length c] 26)) (.cells #[.int .u8 0, .int .u8 0, .int .u8 0, .int .u8 0, .int .u8 0, .int .u8 0, .int .u8 0, .int .u8 0] 54)
    · rw [z8]
      simpa using blk_new ((w.alloc (.cells #[.slice A s.length c] 26)).alloc (.cells #[.int .u8 0, .int .u8 0, .int .u8 0, .int .u8 0, .int .u8 0, .int .u8 0, .int .u8 0, .int .u8 0] 54)) (.cells #[.int .u8 0, .int .u8 0, .int .u8 0, .int .u8 0, .int .u8 0, .int .u8 0, .int .u8 0, .int .u8 0] 54)
  case round =>
    obtain ⟨n, j, x', ar, hn, hj, rfl, rfl, g0, g1, hal, HD, B0, B1, B2, HB⟩ := hrel
    cases n with
    | zero =>
      obtain rfl : j = -1 := by have := hj.out; omega
      match ar, hal.out with
      | [y0, y1, y2, y3, y4, y5, y6, y7], _ =>
        have k0 : wr.cell? ⟨w.heap.size + 1 + 1, 0, none⟩ = some (.int .u8 y0) := blk_cell B2.out 0
        have k1 : wr.cell? ⟨w.heap.size + 1 + 1, 1, none⟩ = some (.int .u8 y1) := blk_cell B2.out 1
        have k2 : wr.cell? ⟨w.heap.size + 1 + 1, 2, none⟩ = some (.int .u8 y2) := blk_cell B2.out 2
        have k3 : wr.cell? ⟨w.heap.size + 1 + 1, 3, none⟩ = some (.int .u8 y3) := blk_cell B2.out 3
        have k4 : wr.cell? ⟨w.heap.size + 1 + 1, 4, none⟩ = some (.int .u8 y4) := blk_cell B2.out 4
        have k5 : wr.cell? ⟨w.heap.size + 1 + 1, 5, none⟩ = some (.int .u8 y5) := blk_cell B2.out 5
        have k6 : wr.cell? ⟨w.heap.size + 1 + 1, 6, none⟩ = some (.int .u8 y6) := blk_cell B2.out 6
        have k7 : wr.cell? ⟨w.heap.size + 1 + 1, 7, none⟩ = some (.int .u8 y7) := blk_cell B2.out 7
        have hf := fun i => blk_frozen B1.out i
        have q0 : wr.cell? ⟨w.heap.size + 1, 0, none⟩ = some (.int .u8 0) := blk_cell B1.out 0
        have q1 : wr.cell? ⟨w.heap.size + 1, 1, none⟩ = some (.int .u8 0) := blk_cell B1.out 1
        have q2 : wr.cell? ⟨w.heap.size + 1, 2, none⟩ = some (.int .u8 0) := blk_cell B1.out 2
        have q3 : wr.cell? ⟨w.heap.size + 1, 3, none⟩ = some (.int .u8 0) := blk_cell B1.out 3
        have q4 : wr.cell? ⟨w.heap.size + 1, 4, none⟩ = some (.int .u8 0) := blk_cell B1.out 4
        have q5 : wr.cell? ⟨w.heap.size + 1, 5, none⟩ = some (.int .u8 0) := blk_cell B1.out 5
        have q6 : wr.cell? ⟨w.heap.size + 1, 6, none⟩ = some (.int .u8 0) := blk_cell B1.out 6
        have q7 : wr.cell? ⟨w.heap.size + 1, 7, none⟩ = some (.int .u8 0) := blk_cell B1.out 7
        go_wp2
        refine bodyPost_ret (v := .agg #[.int .u8 y0, .int .u8 y1, .int .u8 y2, .int .u8 y3, .int .u8 y4, .int .u8 y5, .int .u8 y6, .int .u8 y7]) (by simp [results, Try.results64, go_sem, q0, q1, q2, q3, q4, q5, q6, q7]) rfl ⟨?_, ?_⟩
        · rw [← HD.out]
          rfl
        · repeat (refine below_set ?_ (by omega))
          exact HB.out
    | succ m =>
      obtain rfl : j = (m : Int) := by have := hj.out; omega
      obtain ⟨ad, e, _⟩ := Kd.at_int HR.out (m : Int) (by omega) (by omega)
      subst e
      have hx := rd_cell HR.out HB.out m (by omega)
      have hx2 := rd_cell HR.out (below_set (g := w.heap.size + 1 + 1) (j := m) (v := .int .u8 (x' % rd s (m : Int))) HB.out (by omega)) m (by omega)
      obtain ⟨b2, b3, b0, b1, b4, b5⟩ := dstep_bounds (n := m) HS.out (by omega) g0 g1
      have HQ : Aside0 (dloop s m (x' / rd s (m : Int)) (ar.set m (x' % rd s (m : Int))) = dloop s s.length x (List.replicate 8 0)) := ⟨HD.out⟩
      clear HD
      generalize rd s (m : Int) = q at *
      have hc0 : wr.cell? ⟨w.heap.size, 0, none⟩ = some (.slice (some ad) s.length c) := blk_cell B0.out 0
      have hc2 := cell8 B2.out (i := m) (by have := hal.out; omega)
      have hf2 := blk_frozen B2.out m
      go_wp2
      go_roundw
      case rel =>
        refine ⟨m, (m : Int) - 1, x' / q, ar.set m (x' % q), by omega, ⟨rfl⟩, rfl, rfl, b4, b5, ⟨by simpa using hal.out⟩, HQ, ⟨blk_far B0.out (by simp; omega) _⟩, ⟨blk_far B1.out (by simp) _⟩, ⟨blk_set8 B2.out _ _⟩, ⟨below_set HB.out (by omega)⟩⟩
      case measure => simp [intOf]
theorem idx8 (v0 v1 v2 v3 v4 v5 v6 v7 : Value) (w : World) :
    (Instr.index 54 (.agg #[v0, v1, v2, v3, v4, v5, v6, v7]) (.int .i64 0)).run Try.prog w = .ok v0 w ∧ (Instr.index 54 (.agg #[v0, v1, v2, v3, v4, v5, v6, v7]) (.int .i64 1)).run Try.prog w = .ok v1 w ∧ (Instr.index 54 (.agg #[v0, v1, v2, v3, v4, v5, v6, v7]) (.int .i64 2)).run Try.prog w = .ok v2 w ∧ (Instr.index 54 (.agg #[v0, v1, v2, v3, v4, v5, v6, v7]) (.int .i64 3)).run Try.prog w = .ok v3 w ∧ (Instr.index 54 (.agg #[v0, v1, v2, v3, v4, v5, v6, v7]) (.int .i64 4)).run Try.prog w = .ok v4 w ∧ (Instr.index 54 (.agg #[v0, v1, v2, v3, v4, v5, v6, v7]) (.int .i64 5)).run Try.prog w = .ok v5 w ∧ (Instr.index 54 (.agg #[v0, v1, v2, v3, v4, v5, v6, v7]) (.int .i64 6)).run Try.prog w = .ok v6 w ∧ (Instr.index 54 (.agg #[v0, v1, v2, v3, v4, v5, v6, v7]) (.int .i64 7)).run Try.prog w = .ok v7 w :=
  ⟨by kernel_rfl, by kernel_rfl, by kernel_rfl, by kernel_rfl, by kernel_rfl, by kernel_rfl, by kernel_rfl, by kernel_rfl⟩
theorem ham_snoc : ∀ (a b : List Int) (x y : Int), a.length = b.length → ham (a ++ [x]) (b ++ [y]) = ham a b + if x = y then 0 else 1
  | [], [], x, y, _ => by simp [ham]
  | p :: a, q :: b, x, y, h => by
    simp only [List.cons_append, ham]
    rw [ham_snoc a b x y (by simpa using h)]
    omega
  | [], _ :: _, _, _, h => by simp at h
  | _ :: _, [], _, _, h => by simp at h
set_option maxHeartbeats 4000000 in
set_option maxRecDepth 100000 in
theorem far_calls8 (a0 a1 a2 a3 a4 a5 a6 a7 b0 b1 b2 b3 b4 b5 b6 b7 : Int) (w : World) :
    Calls Try.prog 75 #[.agg #[.int .u8 a0, .int .u8 a1, .int .u8 a2, .int .u8 a3, .int .u8 a4, .int .u8 a5, .int .u8 a6, .int .u8 a7], .agg #[.int .u8 b0, .int .u8 b1, .int .u8 b2, .int .u8 b3, .int .u8 b4, .int .u8 b5, .int .u8 b6, .int .u8 b7]] w
      fun e w' => e = .returned (.int .i64 (ham [a0, a1, a2, a3, a4, a5, a6, a7] [b0, b1, b2, b3, b4, b5, b6, b7])) ∧ Below w.heap.size w w' := by
  have huD := Try.underlying54
  go_enter Try.func75, Try.ntmps75
  go_wp2
  go_loop [5, 9] (fun t i => ∃ k : Nat, k ≤ 8 ∧ i = .int .i64 k ∧ ∃ x : Int, 0 ≤ x ∧ x ≤ k ∧ t = .int .i64 x ∧ Aside0 (x = ham ([a0, a1, a2, a3, a4, a5, a6, a7].take k) ([b0, b1, b2, b3, b4, b5, b6, b7].take k))) (fun _ i => 8 - (intOf i).toNat)
  case atStart => exact ⟨0, by omega, rfl, 0, by omega, by omega, rfl, ⟨rfl⟩⟩
  case round =>
    obtain ⟨k, hk, rfl, x, hx0, hx1, rfl, HX⟩ := hrel
    obtain ⟨i0, i1, i2, i3, i4, i5, i6, i7⟩ := idx8 (.int .u8 a0) (.int .u8 a1) (.int .u8 a2) (.int .u8 a3) (.int .u8 a4) (.int .u8 a5) (.int .u8 a6) (.int .u8 a7) ((w.alloc (.cells #[.int .u8 a0, .int .u8 a1, .int .u8 a2, .int .u8 a3, .int .u8 a4, .int .u8 a5, .int .u8 a6, .int .u8 a7] 54)).alloc (.cells #[.int .u8 b0, .int .u8 b1, .int .u8 b2, .int .u8 b3, .int .u8 b4, .int .u8 b5, .int .u8 b6, .int .u8 b7] 54))
    rcases (show k = 0 ∨ k = 1 ∨ k = 2 ∨ k = 3 ∨ k = 4 ∨ k = 5 ∨ k = 6 ∨ k = 7 ∨ k = 8 by omega) with rfl | rfl | rfl | rfl | rfl | rfl | rfl | rfl | rfl
    · go_wp2
      all_goals
        go_round
        case rel => exact ⟨1, by omega, by rfl, _, by omega, by omega, rfl, ⟨by
          have hs := ham_snoc [] [] a0 b0 rfl
          have e := HX.out
          first
            | (have t : (a0 != b0) = true := by assumption
               rw [if_neg (by simpa using t)] at hs
               exact (congrArg (· + 1) e).trans hs.symm)
            | (have t : (a0 != b0) = false := by assumption
               rw [if_pos (by simpa using t), Int.add_zero] at hs
               exact e.trans hs.symm)⟩⟩
        case measure => simp [intOf]
    · go_wp2
      all_goals
        go_round
        case rel => exact ⟨2, by omega, by rfl, _, by omega, by omega, rfl, ⟨by
          have hs := ham_snoc [a0] [b0] a1 b1 rfl
          have e := HX.out
          first
            | (have t : (a1 != b1) = true := by assumption
               rw [if_neg (by simpa using t)] at hs
               exact (congrArg (· + 1) e).trans hs.symm)
            | (have t : (a1 != b1) = false := by assumption
               rw [if_pos (by simpa using t), Int.add_zero] at hs
               exact e.trans hs.symm)⟩⟩
        case measure => simp [intOf]
    · go_wp2
      all_goals
        go_round
        case rel => exact ⟨3, by omega, by rfl, _, by omega, by omega, rfl, ⟨by
          have hs := ham_snoc [a0, a1] [b0, b1] a2 b2 rfl
          have e := HX.out
          first
            | (have t : (a2 != b2) = true := by assumption
               rw [if_neg (by simpa using t)] at hs
               exact (congrArg (· + 1) e).trans hs.symm)
            | (have t : (a2 != b2) = false := by assumption
               rw [if_pos (by simpa using t), Int.add_zero] at hs
               exact e.trans hs.symm)⟩⟩
        case measure => simp [intOf]
    · go_wp2
      all_goals
        go_round
        case rel => exact ⟨4, by omega, by rfl, _, by omega, by omega, rfl, ⟨by
          have hs := ham_snoc [a0, a1, a2] [b0, b1, b2] a3 b3 rfl
          have e := HX.out
          first
            | (have t : (a3 != b3) = true := by assumption
               rw [if_neg (by simpa using t)] at hs
               exact (congrArg (· + 1) e).trans hs.symm)
            | (have t : (a3 != b3) = false := by assumption
               rw [if_pos (by simpa using t), Int.add_zero] at hs
               exact e.trans hs.symm)⟩⟩
        case measure => simp [intOf]
    · go_wp2
      all_goals
        go_round
        case rel => exact ⟨5, by omega, by rfl, _, by omega, by omega, rfl, ⟨by
          have hs := ham_snoc [a0, a1, a2, a3] [b0, b1, b2, b3] a4 b4 rfl
          have e := HX.out
          first
            | (have t : (a4 != b4) = true := by assumption
               rw [if_neg (by simpa using t)] at hs
               exact (congrArg (· + 1) e).trans hs.symm)
            | (have t : (a4 != b4) = false := by assumption
               rw [if_pos (by simpa using t), Int.add_zero] at hs
               exact e.trans hs.symm)⟩⟩
        case measure => simp [intOf]
    · go_wp2
      all_goals
        go_round
        case rel => exact ⟨6, by omega, by rfl, _, by omega, by omega, rfl, ⟨by
          have hs := ham_snoc [a0, a1, a2, a3, a4] [b0, b1, b2, b3, b4] a5 b5 rfl
          have e := HX.out
          first
            | (have t : (a5 != b5) = true := by assumption
               rw [if_neg (by simpa using t)] at hs
               exact (congrArg (· + 1) e).trans hs.symm)
            | (have t : (a5 != b5) = false := by assumption
               rw [if_pos (by simpa using t), Int.add_zero] at hs
               exact e.trans hs.symm)⟩⟩
        case measure => simp [intOf]
    · go_wp2
      all_goals
        go_round
        case rel => exact ⟨7, by omega, by rfl, _, by omega, by omega, rfl, ⟨by
          have hs := ham_snoc [a0, a1, a2, a3, a4, a5] [b0, b1, b2, b3, b4, b5] a6 b6 rfl
          have e := HX.out
          first
            | (have t : (a6 != b6) = true := by assumption
               rw [if_neg (by simpa using t)] at hs
               exact (congrArg (· + 1) e).trans hs.symm)
            | (have t : (a6 != b6) = false := by assumption
               rw [if_pos (by simpa using t), Int.add_zero] at hs
               exact e.trans hs.symm)⟩⟩
        case measure => simp [intOf]
    · go_wp2
      all_goals
        go_round
        case rel => exact ⟨8, by omega, by rfl, _, by omega, by omega, rfl, ⟨by
          have hs := ham_snoc [a0, a1, a2, a3, a4, a5, a6] [b0, b1, b2, b3, b4, b5, b6] a7 b7 rfl
          have e := HX.out
          first
            | (have t : (a7 != b7) = true := by assumption
               rw [if_neg (by simpa using t)] at hs
               exact (congrArg (· + 1) e).trans hs.symm)
            | (have t : (a7 != b7) = false := by assumption
               rw [if_pos (by simpa using t), Int.add_zero] at hs
               exact e.trans hs.symm)⟩⟩
        case measure => simp [intOf]
    · go_wp2
      go_ret
      refine ⟨?_, ((Below.refl _ _).alloc (Nat.le_refl _) _).alloc (by simp) _⟩
      have e := HX.out
      rw [e]
      rfl
theorem eight {l : List Int} (h : l.length = 8) : ∃ y0 y1 y2 y3 y4 y5 y6 y7 : Int, l = [y0, y1, y2, y3, y4, y5, y6, y7] := by
  match l, h with
  | [y0, y1, y2, y3, y4, y5, y6, y7], _ => exact ⟨y0, y1, y2, y3, y4, y5, y6, y7, rfl⟩
theorem far_calls {a b : List Int} (ha : a.length = 8) (hb : b.length = 8) (w : World) :
    Calls Try.prog 75 #[arr8 a, arr8 b] w fun e w' => e = .returned (.int .i64 (ham a b)) ∧ Below w.heap.size w w' := by
  obtain ⟨a0, a1, a2, a3, a4, a5, a6, a7, rfl⟩ := eight ha
  obtain ⟨b0, b1, b2, b3, b4, b5, b6, b7, rfl⟩ := eight hb
  exact far_calls8 a0 a1 a2 a3 a4 a5 a6 a7 b0 b1 b2 b3 b4 b5 b6 b7 w
theorem dloop_length (s : List Int) : ∀ (n : Nat) (x : Int) (ar : List Int), (dloop s n x ar).length = ar.length
  | 0, _, _ => rfl
  | n + 1, x, ar => by simp [dloop, dloop_length s n]
def dig8 (s : List Int) (x : Int) : List Int := dloop s s.length x (List.replicate 8 0)
theorem dig8_length (s : List Int) (x : Int) : (dig8 s x).length = 8 := by simp [dig8, dloop_length]
def KS (g : Nat) (v : Value) (w w' : World) : Prop := w'.cell? ⟨g, 0, none⟩ = some v ∧ Below w.heap.size w w'
theorem KS.step {g : Nat} {v : Value} {w W w' : World} (h : KS g v w W) (hb : Below W.heap.size W w') : KS g v w w' :=
  ⟨pw_cell_below hb h.1, below_then h.2 h.2.size hb⟩
theorem keepS {g : Nat} {v : Value} {w W w' : World} (hb : Below W.heap.size W w') (h : W.cell? ⟨g, 0, none⟩ = some v ∧ Below w.heap.size w W) : w'.cell? ⟨g, 0, none⟩ = some v ∧ Below w.heap.size w w' :=
  ⟨pw_cell_below hb h.1, below_then h.2 h.2.size hb⟩
theorem inR_rd : ∀ (s d : List Int) (k : Nat), inR s d = true → k < s.length → k < d.length → 0 ≤ rd d (k : Int) ∧ rd d (k : Int) < rd s (k : Int)
  | [], _, _, _, h, _ => by simp at h
  | _ :: _, [], _, _, _, h => by simp at h
  | q :: s, x :: d, 0, hr, _, _ => by
    simp only [inR, Bool.and_eq_true, decide_eq_true_eq] at hr
    simpa [rd] using hr.1
  | q :: s, x :: d, k + 1, hr, h1, h2 => by
    simp only [inR, Bool.and_eq_true, decide_eq_true_eq] at hr
    have := inR_rd s d k hr.2 (by simpa using h1) (by simpa using h2)
    have e1 : rd (x :: d) ((k + 1 : Nat) : Int) = rd d (k : Int) := by simp only [rd, Int.toNat_natCast]; rfl
    have e2 : rd (q :: s) ((k + 1 : Nat) : Int) = rd s (k : Int) := by simp only [rd, Int.toNat_natCast]; rfl
    rw [e1, e2]
    exact this
theorem drop_rd (s : List Int) {n : Nat} (h : n < s.length) : s.drop n = rd s (n : Int) :: s.drop (n + 1) := by
  rw [List.drop_eq_getElem_cons h]
  simp [rd, List.getD_eq_getElem?_getD, h]
theorem word_step {s d : List Int} (hs : s.all sizeOk = true) (hl : s.length ≤ 8) (hd : s.length ≤ d.length) (hr : inR s d = true) {k : Nat} (hk : k < s.length) {a : Int} (h0 : 0 ≤ a) (h1 : a + 1 ≤ 4 ^ k) :
    2 ≤ rd s (k : Int) ∧ rd s (k : Int) ≤ 4 ∧ 0 ≤ rd d (k : Int) ∧ rd d (k : Int) ≤ 3 ∧ 0 ≤ a * rd s (k : Int) ∧ a * rd s (k : Int) ≤ 65536 ∧ a * rd s (k : Int) + rd d (k : Int) + 1 ≤ 4 ^ (k + 1) ∧ hor a (s.drop k) (d.drop k) = hor (a * rd s (k : Int) + rd d (k : Int)) (s.drop (k + 1)) (d.drop (k + 1)) := by
  have hq : sizeOk (rd s (k : Int)) = true := by
    have : rd s (k : Int) = s[k] := by simp [rd, List.getD_eq_getElem?_getD, hk]
    rw [this]
    exact List.all_eq_true.1 hs _ (List.getElem_mem hk)
  obtain ⟨r0, r1⟩ := inR_rd s d k hr hk (by omega)
  have hb := pow48 (m := k + 1) (by omega)
  rw [drop_rd s hk, drop_rd d (by omega)]
  simp only [hor]
  rw [Int.pow_succ] at hb ⊢
  rcases (sizeOk_iff _).1 hq with e | e | e <;> rw [e] at r1 ⊢ <;> refine ⟨by omega, by omega, by omega, by omega, by omega, by omega, by omega, by first | trivial | rfl⟩
set_option maxHeartbeats 4000000 in
set_option maxRecDepth 100000 in
theorem wordOf_calls (A : Option Addr) (c : Nat) (s d : List Int) (w : World) (hr : Kd.C (Kd.int .i64) w A s.length s) (hc : s.length ≤ c) (hs : isSp s = true) (hd : d.length = 8) (hin : inR s d = true) :
    Calls Try.prog 62 #[.agg #[.slice A s.length c], arr8 d] w
      fun e w' => e = .returned (.int .i64 (hor 0 s d)) ∧ Below w.heap.size w w' := by
  have huS := Try.underlying26
  have huD := Try.underlying54
  have HR := Aside0.mk hr
  have HS := Aside0.mk (isSp_all hs)
  have hl := isSp_len hs
  have HD := Aside0.mk hd
  have HI := Aside0.mk hin
  clear hr hs hd hin
  unfold arr8
  go_enter Try.func62, Try.ntmps62
  go_wp2
  have HB : Aside0 (Below w.heap.size w ((w.alloc (.cells #[.slice A s.length c] 26)).alloc (.cells (nums .u8 d).toArray 54))) := ⟨((Below.refl _ _).alloc (Nat.le_refl _) _).alloc (by simp) _⟩
  have BD : Aside0 (((w.alloc (.cells #[.slice A s.length c] 26)).alloc (.cells (nums .u8 d).toArray 54)).heap[w.heap.size + 1]? = some (.cells (nums .u8 d).toArray 54)) := ⟨by simpa using blk_new (w.alloc (.cells #[.slice A s.length c] 26)) (.cells (nums .u8 d).toArray 54)⟩
  generalize (w.alloc (.cells #[.slice A s.length c] 26)).alloc (.cells (nums .u8 d).toArray 54) = W at *
  go_loop [5, 11] (fun t i => ∃ (k : Nat) (a : Int), k ≤ s.length ∧ i = .int .i64 k ∧ t = .int .i64 a ∧ 0 ≤ a ∧ Aside0 (a + 1 ≤ 4 ^ k) ∧ Aside0 (hor a (s.drop k) (d.drop k) = hor 0 s d)) (fun _ i => s.length - (intOf i).toNat)
  case atStart => exact ⟨0, 0, by omega, rfl, rfl, by omega, ⟨by simp⟩, ⟨by simp⟩⟩
  case round =>
    obtain ⟨k, a, hk, rfl, rfl, g0, G1, G2⟩ := hrel
    by_cases hlt : k < s.length
    · obtain ⟨ad, e, _⟩ := Kd.at_int HR.out (k : Int) (by omega) (by omega)
      subst e
      have hx := rd_cell HR.out HB.out k (by omega)
      have hy := cell8 BD.out (i := k) (by have := HD.out; omega)
      obtain ⟨b0, b1, b2, b3, b4, b5, b6, b7⟩ := word_step HS.out hl (by have := HD.out; omega) HI.out hlt g0 G1.out
      have B6 := Aside0.mk b6
      have B7 := Aside0.mk b7
      clear b6 b7
      generalize rd s (k : Int) = q at *
      generalize rd d (k : Int) = x at *
      go_wp2
      go_round
      case rel => exact ⟨k + 1, a * q + x, by omega, by go_num, rfl, by omega, B6, ⟨B7.out.symm.trans G2.out⟩⟩
      case measure => simp [intOf]; omega
    · go_wp2
      go_ret
      refine ⟨?_, HB.out⟩
      have e := G2.out
      rw [List.drop_eq_nil_of_le (show s.length ≤ k by omega)] at e
      simp only [hor] at e
      exact congrArg (fun z => Ending.returned (Value.int .i64 z)) e
end Go.Proofs.Ytlfipjdjmpdblaa.P
namespace Go.Proofs.Ytlfipjdjmpdblaa.P
open Go.RowKit Go.Proofs.YtlfipjdjmpdblaaW.PrintWords Go.Proofs.YtlfipjdjmpdblaaW.PrintLast Go.Proofs.YtlfipjdjmpdblaaW.PrintMore
attribute [local go_sem] max2_int min2_int max_two min_two max_three min_three max_four min_four
set_option linter.unusedVariables false
set_option linter.unusedSimpArgs false
def spec_l01Distance.l0 : Nat → Int → Int → Int → Int → List Int → Option (Int)
  | 0, _, _, _, _, _ => none
  | k + 1, x1, x2, x7, x8, x102000 => if x8 ≥ 0 then (if 0 ≤ x8 then (if x8 < (x102000.length : Int) then (if (rd x102000 x8) = 0 then (none) else (if (Int.tmod x1 (rd x102000 x8)) = (Int.tmod x2 (rd x102000 x8)) then (spec_l01Distance.l0 k (wrap64 (Int.tdiv x1 (rd x102000 x8))) (wrap64 (Int.tdiv x2 (rd x102000 x8))) x7 (wrap64 (x8 - 1)) x102000) else (spec_l01Distance.l0 k (wrap64 (Int.tdiv x1 (rd x102000 x8))) (wrap64 (Int.tdiv x2 (rd x102000 x8))) (wrap64 (x7 + 1)) (wrap64 (x8 - 1)) x102000))) else (none)) else (none)) else (some x7)
def spec_l01Distance.f (k : Nat) (l0_0 : List Int) (a1 : Int) (a2 : Int) : Option (Int) := spec_l01Distance.l0 k a1 a2 0 (wrap64 ((l0_0.length : Int) - 1)) l0_0
set_option maxHeartbeats 8000000 in
set_option maxRecDepth 100000 in
theorem spec_l01Distance.calls (k : Nat) (A0_0 : Option Addr) (c0_0 : Nat) (l0_0 : List Int) (a1 : Int) (a2 : Int) (r : Int) (w : World) (hr0_0 : Kd.C (Kd.int .i64) w A0_0 l0_0.length l0_0) (hc0_0 : l0_0.length ≤ c0_0) (h : spec_l01Distance.f k l0_0 a1 a2 = some r) :
  Calls Try.prog 61 #[.agg #[.slice A0_0 l0_0.length c0_0], .int .i64 a1, .int .i64 a2] w fun e w' => e = .returned (.int .i64 r) ∧ Below w.heap.size w w' := by
 have hu26 := Try.underlying26
 have HR0_0 := Aside0.mk hr0_0
 have HC0_0 := Aside0.mk hc0_0
 clear hr0_0 hc0_0
 have HB := Aside0.mk (Below.refl w.heap.size w)
 have H : (spec_l01Distance.l0 k a1 a2 0 (wrap64 ((l0_0.length : Int) - 1)) l0_0) = some r := h
 clear h
 have H' := Aside0.mk H
 clear H
 go_enter Try.func61, Try.ntmps61
 go_wp2_with (first | ((with_reducible refine gate_dst (N := 3) rfl ?_); refine bx_ (N := 3) (cs := #[.slice A0_0 l0_0.length c0_0]) (t := 26) rfl rfl ?_; intro gb101 hg w4 hbox hb; have n0_ := b1_ HB hb; have n1_ := Aside0.mk (hbox); have n2_ := ge_ hg HB; have n3_ := ge_ hg HB; clear HB; have HB := n0_; have BK101 := n1_; have GW101 := n2_; have GE101 := n3_; clear n0_ n1_ n2_ n3_ hb hbox hg; have hcz5_0 := hz_ BK101; have hfz5_0 := blk_frozen BK101.out 0))
 repeat (go_quiet (first | ((with_reducible refine gate_dst (N := 3) rfl ?_); refine bx_ (N := 3) (cs := #[.slice A0_0 l0_0.length c0_0]) (t := 26) rfl rfl ?_; intro gb101 hg w4 hbox hb; have n0_ := b1_ HB hb; have n1_ := Aside0.mk (hbox); have n2_ := ge_ hg HB; have n3_ := ge_ hg HB; clear HB; have HB := n0_; have BK101 := n1_; have GW101 := n2_; have GE101 := n3_; clear n0_ n1_ n2_ n3_ hb hbox hg; have hcz5_0 := hz_ BK101; have hfz5_0 := blk_frozen BK101.out 0)); try go_wp2_with (first | ((with_reducible refine gate_dst (N := 3) rfl ?_); refine bx_ (N := 3) (cs := #[.slice A0_0 l0_0.length c0_0]) (t := 26) rfl rfl ?_; intro gb101 hg w4 hbox hb; have n0_ := b1_ HB hb; have n1_ := Aside0.mk (hbox); have n2_ := ge_ hg HB; have n3_ := ge_ hg HB; clear HB; have HB := n0_; have BK101 := n1_; have GW101 := n2_; have GE101 := n3_; clear n0_ n1_ n2_ n3_ hb hbox hg; have hcz5_0 := hz_ BK101; have hfz5_0 := blk_frozen BK101.out 0)))
 go_loopg [1, 2, 7, 8] k (fun kq v1 v2 v7 v8 w' => ∃ (x1_1 : Int) (x2_1 : Int) (x7_1 : Int) (x8_1 : Int), v1 = .int .i64 x1_1 ∧ v2 = .int .i64 x2_1 ∧ v7 = .int .i64 x7_1 ∧ v8 = .int .i64 x8_1 ∧ Aside0 (spec_l01Distance.l0 kq x1_1 x2_1 x7_1 x8_1 l0_0 = some r) ∧ Aside0 (kq ≤ k) ∧ Aside0 (w'.heap[gb101]? = some (.cells #[(.slice A0_0 l0_0.length c0_0)] 26 (0, 0))) ∧ Aside0 (Below w.heap.size w w'))
 case atStart => exact ⟨(a1), (a2), (0), (wrap64 ((l0_0.length : Int) - 1)), t2_, t2_, t2_, t2_, H', ⟨Nat.le_refl _⟩, ⟨bb_ BK101.out⟩, ⟨gb_ HB.out⟩⟩
 clear H'
 try clear p2
 try clear hcz5_0
 try clear hfz5_0
 obtain ⟨x1_1, x2_1, x7_1, x8_1, rfl, rfl, rfl, rfl, HA, HK1, BK101, HB⟩ := hrel
 obtain _ | k1 := gk
 ·exact absurd HA.out (by simp [spec_l01Distance.l0])
 have H := HA.out
 clear HA
 simp only [spec_l01Distance.l0] at H
 by_cases c6 : x8_1 ≥ 0
 rotate_left
 ·rw [if_neg c6] at H
  have c6b0 : decide (0 ≤ x8_1) = false := decide_eq_false c6
  clear c6
  obtain rfl := Option.some.inj H
  go_wp2
  repeat (go_quiet (fail); try go_wp2)
  go_ret
  exact ⟨t5_, gb_ HB.out⟩

 rw [if_pos c6] at H
 have c6b0 : decide (0 ≤ x8_1) = true := decide_eq_true c6
 clear c6
 by_cases c7 : 0 ≤ x8_1
 rotate_left
 ·rw [if_neg c7] at H
  exact absurd H (by simp)
 rw [if_pos c7] at H
 have c7b0 : decide (0 ≤ x8_1) = true := decide_eq_true c7
 clear c7
 by_cases c8 : x8_1 < (l0_0.length : Int)
 rotate_left
 ·rw [if_neg c8] at H
  exact absurd H (by simp)
 rw [if_pos c8] at H
 have c8b0 : decide (x8_1 < (l0_0.length : Int)) = true := decide_eq_true c8
 clear c8
 by_cases c9 : (rd l0_0 x8_1) = 0
 ·rw [if_pos c9] at H
  exact absurd H (by simp)
 rw [if_neg c9] at H
 have c9b0 : ((rd l0_0 x8_1) == 0) = false := beq_eq_false_iff_ne.mpr c9
 have c9b1 : ((rd l0_0 x8_1) != 0) = true := bne_iff_ne.mpr c9
 by_cases c10 : (Int.tmod x1_1 (rd l0_0 x8_1)) = (Int.tmod x2_1 (rd l0_0 x8_1))
 rotate_left
 ·rw [if_neg c10] at H
  have c10b0 : ((Int.tmod x1_1 (rd l0_0 x8_1)) == (Int.tmod x2_1 (rd l0_0 x8_1))) = false := beq_eq_false_iff_ne.mpr c10
  have c10b1 : ((Int.tmod x1_1 (rd l0_0 x8_1)) != (Int.tmod x2_1 (rd l0_0 x8_1))) = true := bne_iff_ne.mpr c10
  have H' := Aside0.mk H
  clear H
  have hcz12_0 := hz_ BK101
  have hfz12_0 := blk_frozen BK101.out 0
  have p102 : 0 ≤ (x8_1 : Int) := of_decide_eq_true t6_
  have q102 : x8_1 < (l0_0.length : Int) := of_decide_eq_true t6_
  obtain ⟨ad102, e102, hx102_0⟩ := Kd.at_int HR0_0.out x8_1 p102 q102
  cases e102
  replace hx102_0 := (HB.out.cell (World.block_lt_of_cell? _ _ hx102_0)).trans hx102_0
  replace p102 := eq_true p102
  replace q102 := eq_true q102
  have p103 : 0 ≤ (x8_1 : Int) := of_decide_eq_true t6_
  have q103 : x8_1 < (l0_0.length : Int) := of_decide_eq_true t6_
  obtain ⟨ad103, e103, hx103_0⟩ := Kd.at_int HR0_0.out x8_1 p103 q103
  obtain rfl : ad102 = ad103 := (by injection e103)
  replace hx103_0 := (HB.out.cell (World.block_lt_of_cell? _ _ hx103_0)).trans hx103_0
  replace p103 := eq_true p103
  replace q103 := eq_true q103
  have p106 : 0 ≤ (x8_1 : Int) := of_decide_eq_true t6_
  have q106 : x8_1 < (l0_0.length : Int) := of_decide_eq_true t6_
  obtain ⟨ad106, e106, hx106_0⟩ := Kd.at_int HR0_0.out x8_1 p106 q106
  obtain rfl : ad102 = ad106 := (by injection e106)
  replace hx106_0 := (HB.out.cell (World.block_lt_of_cell? _ _ hx106_0)).trans hx106_0
  replace p106 := eq_true p106
  replace q106 := eq_true q106
  have p107 : 0 ≤ (x8_1 : Int) := of_decide_eq_true t6_
  have q107 : x8_1 < (l0_0.length : Int) := of_decide_eq_true t6_
  obtain ⟨ad107, e107, hx107_0⟩ := Kd.at_int HR0_0.out x8_1 p107 q107
  obtain rfl : ad102 = ad107 := (by injection e107)
  replace hx107_0 := (HB.out.cell (World.block_lt_of_cell? _ _ hx107_0)).trans hx107_0
  replace p107 := eq_true p107
  replace q107 := eq_true q107
  go_wp2
  repeat (go_quiet (fail); try go_wp2)
  go_roundg k1
  case measure => have := HK1.out; omega
  case rel => exact ⟨(wrap64 (Int.tdiv x1_1 (rd l0_0 x8_1))), (wrap64 (Int.tdiv x2_1 (rd l0_0 x8_1))), (wrap64 (x7_1 + 1)), (wrap64 (x8_1 - 1)), t2_, t2_, t2_, t2_, H', ⟨by have := HK1.out; omega⟩, ⟨bb_ BK101.out⟩, ⟨gb_ HB.out⟩⟩
 rw [if_pos c10] at H
 have c10b0 : ((Int.tmod x1_1 (rd l0_0 x8_1)) == (Int.tmod x2_1 (rd l0_0 x8_1))) = true := beq_iff_eq.mpr c10
 have c10b1 : ((Int.tmod x1_1 (rd l0_0 x8_1)) != (Int.tmod x2_1 (rd l0_0 x8_1))) = false := bne_eq_false_iff_eq.mpr c10
 clear c10
 have H' := Aside0.mk H
 clear H
 have hcz11_0 := hz_ BK101
 have hfz11_0 := blk_frozen BK101.out 0
 have p102 : 0 ≤ (x8_1 : Int) := of_decide_eq_true t6_
 have q102 : x8_1 < (l0_0.length : Int) := of_decide_eq_true t6_
 obtain ⟨ad102, e102, hx102_0⟩ := Kd.at_int HR0_0.out x8_1 p102 q102
 cases e102
 replace hx102_0 := (HB.out.cell (World.block_lt_of_cell? _ _ hx102_0)).trans hx102_0
 replace p102 := eq_true p102
 replace q102 := eq_true q102
 have p103 : 0 ≤ (x8_1 : Int) := of_decide_eq_true t6_
 have q103 : x8_1 < (l0_0.length : Int) := of_decide_eq_true t6_
 obtain ⟨ad103, e103, hx103_0⟩ := Kd.at_int HR0_0.out x8_1 p103 q103
 obtain rfl : ad102 = ad103 := (by injection e103)
 replace hx103_0 := (HB.out.cell (World.block_lt_of_cell? _ _ hx103_0)).trans hx103_0
 replace p103 := eq_true p103
 replace q103 := eq_true q103
 have p104 : 0 ≤ (x8_1 : Int) := of_decide_eq_true t6_
 have q104 : x8_1 < (l0_0.length : Int) := of_decide_eq_true t6_
 obtain ⟨ad104, e104, hx104_0⟩ := Kd.at_int HR0_0.out x8_1 p104 q104
 obtain rfl : ad102 = ad104 := (by injection e104)
 replace hx104_0 := (HB.out.cell (World.block_lt_of_cell? _ _ hx104_0)).trans hx104_0
 replace p104 := eq_true p104
 replace q104 := eq_true q104
 have p105 : 0 ≤ (x8_1 : Int) := of_decide_eq_true t6_
 have q105 : x8_1 < (l0_0.length : Int) := of_decide_eq_true t6_
 obtain ⟨ad105, e105, hx105_0⟩ := Kd.at_int HR0_0.out x8_1 p105 q105
 obtain rfl : ad102 = ad105 := (by injection e105)
 replace hx105_0 := (HB.out.cell (World.block_lt_of_cell? _ _ hx105_0)).trans hx105_0
 replace p105 := eq_true p105
 replace q105 := eq_true q105
 go_wp2
 repeat (go_quiet (fail); try go_wp2)
 go_roundg k1
 case measure => have := HK1.out; omega
 case rel => exact ⟨(wrap64 (Int.tdiv x1_1 (rd l0_0 x8_1))), (wrap64 (Int.tdiv x2_1 (rd l0_0 x8_1))), (x7_1), (wrap64 (x8_1 - 1)), t2_, t2_, t2_, t2_, H', ⟨by have := HK1.out; omega⟩, ⟨bb_ BK101.out⟩, ⟨gb_ HB.out⟩⟩
def impl_isRadius.f (a0 : Int) : Option (Bool) := if a0 ≥ 0 then (some (decide (a0 ≤ 8))) else (some false)
set_option maxHeartbeats 8000000 in
set_option maxRecDepth 100000 in
theorem impl_isRadius.calls (a0 : Int) (r : Bool) (w : World) (h : impl_isRadius.f a0 = some r) :
  Calls Try.prog 112 #[.int .i64 a0] w fun e w' => e = .returned (.bool r) ∧ Drawn0 w w' := by
 have H : (if a0 ≥ 0 then (some (decide (a0 ≤ 8))) else (some false)) = some r := h
 clear h
 by_cases c2 : a0 ≥ 0
 ·rw [if_pos c2] at H
  have c2b0 : decide (0 ≤ a0) = true := decide_eq_true c2
  clear c2
  obtain rfl := Option.some.inj H
  go_enter Try.func112, Try.ntmps112
  go_wp2
  go_ret
  exact ⟨by first | rfl | (simp; done) | (simp [*]; done), by repeat (first | exact Drawn0.refl _ | apply Drawn0.step)⟩
 rw [if_neg c2] at H
 have c2b0 : decide (0 ≤ a0) = false := decide_eq_false c2
 clear c2
 obtain rfl := Option.some.inj H
 go_enter Try.func112, Try.ntmps112
 go_wp2
 go_ret
 exact ⟨by first | rfl | (simp; done) | (simp [*]; done), by repeat (first | exact Drawn0.refl _ | apply Drawn0.step)⟩
mutual
def spec_l01Size.l0 : Nat → Int → List Int → Int → List Int → Option (Int)
  | 0, _, _, _, _ => none
  | k + 1, x1, x5, x6, x102000 => if x6 < (x102000.length : Int) then (spec_l01Size.l1 k x1 x5 x6 (wrap64 (x6 + 1)) x102000) else (spec_l01Size.l2 k x1 x5 0 0)
def spec_l01Size.l1 : Nat → Int → List Int → Int → Int → List Int → Option (Int)
  | 0, _, _, _, _, _ => none
  | k + 1, x1, x5, x6, x7, x102000 => if x7 > 0 then (if 0 ≤ x7 then (if x7 < (x5.length : Int) then (if 0 ≤ (wrap64 (x7 - 1)) then (if (wrap64 (x7 - 1)) < (x5.length : Int) then (if 0 ≤ x6 then (if x6 < (x102000.length : Int) then (spec_l01Size.l1 k x1 (x5.set (x7 : Int).toNat (wrap64 ((rd x5 x7) + (wrap64 ((rd x5 (wrap64 (x7 - 1))) * (wrap64 ((rd x102000 x6) - 1))))))) x6 (wrap64 (x7 - 1)) x102000) else (none)) else (none)) else (none)) else (none)) else (none)) else (none)) else (spec_l01Size.l0 k x1 x5 (wrap64 (x6 + 1)) x102000)
def spec_l01Size.l2 : Nat → Int → List Int → Int → Int → Option (Int)
  | 0, _, _, _, _ => none
  | k + 1, x1, x5, x8, x9 => if x9 < (x5.length : Int) then (if x9 ≤ x1 then (if 0 ≤ x9 then (spec_l01Size.l2 k x1 x5 (wrap64 (x8 + (rd x5 x9))) (wrap64 (x9 + 1))) else (none)) else (some x8)) else (some x8)
end
def spec_l01Size.f (k : Nat) (l0_0 : List Int) (a1 : Int) : Option (Int) := if 0 ≤ (wrap64 ((l0_0.length : Int) + 1)) then (if (wrap64 ((l0_0.length : Int) + 1) : Int).toNat ≤ 35184372088832 then ((some (List.replicate (wrap64 ((l0_0.length : Int) + 1) : Int).toNat 0 : List Int)).bind fun y102 => (if 0 < (y102.length : Int) then (spec_l01Size.l0 k a1 (y102.set (0 : Int).toNat 1) 0 l0_0) else (none))) else (none)) else (none)
def spec_l01Size.T9 : Bool × List (List Nat × List Nat) := (true, [([], []), ([], []), ([], []), ([], []), ([2, 3], [2, 3]), ([4], [4]), ([], []), ([], []), ([7], [7]), ([6, 8], [6, 8]), ([9], [9]), ([], []), ([11], [11]), ([], []), ([12, 13], [12, 13]), ([14], [14]), ([15], [15]), ([10, 16], [10, 16]), ([5, 17], [5, 17]), ([0, 1, 0, 1, 2, 3, 4, 5, 6, 7, 8, 9, 10, 11, 12, 13, 14, 15, 16, 17, 18], [0, 1]), ([19, 18, 0, 1, 2, 3, 4, 5, 6, 7, 8, 9, 10, 11, 12, 13, 14, 15, 16, 17, 18], [18, 19])])
def spec_l01Size.B9 : List Nat := [0, 0, 0, 0, 12, 28, 0, 0, 128, 448, 960, 0, 2048, 0, 14336, 30720, 63488, 131008, 262140, 524287, 1048575]
theorem spec_l01Size.tab9 : rtab .any (opsOf Try.f77 9) = spec_l01Size.T9 := by kernel_rfl
theorem spec_l01Size.bits9 : waitsOk spec_l01Size.T9.2 spec_l01Size.B9 = true := by kernel_rfl
set_option maxHeartbeats 8000000 in
set_option maxRecDepth 100000 in
theorem spec_l01Size.calls (k : Nat) (A0_0 : Option Addr) (c0_0 : Nat) (l0_0 : List Int) (a1 : Int) (r : Int) (w : World) (hr0_0 : Kd.C (Kd.int .i64) w A0_0 l0_0.length l0_0) (hc0_0 : l0_0.length ≤ c0_0) (h : spec_l01Size.f k l0_0 a1 = some r) :
  Calls Try.prog 77 #[.agg #[.slice A0_0 l0_0.length c0_0], .int .i64 a1] w fun e w' => e = .returned (.int .i64 r) ∧ Below w.heap.size w w' := by
 have hu26 := Try.underlying26
 have HR0_0 := Aside0.mk hr0_0
 have HC0_0 := Aside0.mk hc0_0
 clear hr0_0 hc0_0
 have HB := Aside0.mk (Below.refl w.heap.size w)
 have H : (if 0 ≤ (wrap64 ((l0_0.length : Int) + 1)) then (if (wrap64 ((l0_0.length : Int) + 1) : Int).toNat ≤ 35184372088832 then ((some (List.replicate (wrap64 ((l0_0.length : Int) + 1) : Int).toNat 0 : List Int)).bind fun y102 => (if 0 < (y102.length : Int) then (spec_l01Size.l0 k a1 (y102.set (0 : Int).toNat 1) 0 l0_0) else (none))) else (none)) else (none)) = some r := h
 clear h
 obtain ⟨ji3, hji3⟩ : ∃ j_ : Int, (wrap64 ((l0_0.length : Int) + 1)) = j_ := ⟨_, rfl⟩
 replace H : (if 0 ≤ (ji3) then (if (ji3 : Int).toNat ≤ 35184372088832 then ((some (List.replicate (ji3 : Int).toNat 0 : List Int)).bind fun y102 => (if 0 < (y102.length : Int) then (spec_l01Size.l0 k a1 (y102.set (0 : Int).toNat 1) 0 l0_0) else (none))) else (none)) else (none)) = some r := by first | (rw [hji3] at H; exact H) | (simp only [hji3] at H ⊢; exact H)
 have hji3w : (IntKind.i64.wrap ((l0_0.length : Int) + 1)) = ji3 := (i64_w _).trans hji3
 by_cases c4 : 0 ≤ (ji3)
 rotate_left
 ·rw [if_neg c4] at H
  exact absurd H (by simp)

 rw [if_pos c4] at H
 have c4b0 := eq_true c4
 have c4b1 : decide (0 ≤ (ji3)) = true := decide_eq_true c4
 clear c4
 by_cases c5 : (ji3 : Int).toNat ≤ 35184372088832
 rotate_left
 ·rw [if_neg c5] at H
  exact absurd H (by simp)
 rw [if_pos c5] at H
 have c5b0 := eq_true c5
 have c5b1 : decide ((ji3 : Int).toNat ≤ 35184372088832) = true := decide_eq_true c5
 clear c5
 obtain ⟨y102, hy102⟩ : ∃ y_ : List Int, y_ = (List.replicate (ji3 : Int).toNat 0) := ⟨_, rfl⟩
 replace H : (if 0 < (y102.length : Int) then (spec_l01Size.l0 k a1 (y102.set (0 : Int).toNat 1) 0 l0_0) else (none)) = some r := y_ H
 have Ny102 := Aside0.mk hy102
 clear hy102
 by_cases c6 : 0 < (y102.length : Int)
 rotate_left
 ·rw [if_neg c6] at H
  exact absurd H (by simp)
 rw [if_pos c6] at H
 have c6b0 : decide (0 < (y102.length : Int)) = true := decide_eq_true c6
 have c6b1 : decide (0 < y102.length) = true := decide_eq_true (by omega)
 clear c6
 obtain ⟨y105, hy105⟩ : ∃ y_ : List Int, y_ = (y102.set (0 : Int).toNat 1) := ⟨_, rfl⟩
 replace H : (spec_l01Size.l0 k a1 y105 0 l0_0) = some r := y_ H
 have Ny105 := Aside0.mk hy105
 clear hy105
 have H' := Aside0.mk H
 clear H
 go_enter Try.func77, Try.ntmps77
 go_wp2_with (first | ((with_reducible refine gate_dst (N := 2) rfl ?_); refine bx_ (N := 2) (cs := #[.slice A0_0 l0_0.length c0_0]) (t := 26) rfl rfl ?_; intro gb101 hg w8 hbox hb; have n0_ := b1_ HB hb; have n1_ := Aside0.mk (hbox); have n2_ := ge_ hg HB; have n3_ := ge_ hg HB; clear HB; have HB := n0_; have BK101 := n1_; have GW101 := n2_; have GE101 := n3_; clear n0_ n1_ n2_ n3_ hb hbox hg; have hcz9_0 := hz_ BK101; have hfz9_0 := blk_frozen BK101.out 0) | ((with_reducible refine gate_dst (N := 14) rfl ?_); refine Kd.R_make (Kd.int .i64) _ 2 rfl (N := 14) rfl 24 _ _ rfl ji3 rfl rfl Try.underlying24 (.int .i64 0) 8 info2 rfl (by decide) (by omega) 0 (ok := fun _ => True) (okp := fun _ => True) rfl (fun _ hk => hk) trivial (of_decide_eq_true t6_) (Nat.le_trans (Nat.mul_le_mul_right _ (of_decide_eq_true t6_ : ji3.toNat ≤ 35184372088832)) (by omega)) (Below.refl _ _) (Nat.le_refl _) ?_; intro v103 w10 ho11 hb hg_ hnew_; clear hg_ hnew_; (first | rw [← Ny102.out] at ho11 | (simp only [Int.reduceToNat] at ho11; rw [← Ny102.out] at ho11)); have n0_ := Aside0.mk (Kd.R_lower ho11 (below_size (gb_ HB.out))); have n1_ := a2_ BK101 hb; have n2_ := b1_ HB hb; clear BK101 HB; have HO104 := n0_; have BK101 := n1_; have HB := n2_; clear n0_ n1_ n2_ hb ho11; have p7 : 0 ≤ (0 : Int) := (by omega); have q7 : (0 : Int) < ((y102.length : Int) : Int) := of_decide_eq_true t6_; have qi7 : (0 < y102.length) = True := eq_true (by omega); obtain ⟨go7, co7, eo7, gb7, gl7, cl7, HG7⟩ := Kd.R_form HO104.out (by omega); (first | cases eo7 | (injection eo7 with ea_ en_ ec_; (first | subst ea_ | (injection ea_ with ea_; subst ea_)); subst ec_; clear en_)); have GB7 := Aside0.mk gb7; have GG7 := Aside0.mk HG7; clear gb7 gl7 HG7; obtain ⟨hx7_0, hf7_0⟩ := Kd.R_celln 0 HO104.out (0 : Int) p7 q7; (try rw [show ((0 : Int)).toNat = 0 from rfl] at hx7_0); (try simp only [Nat.reduceMul, Nat.zero_mul, Nat.zero_add, Nat.reduceAdd] at hx7_0); (try rw [show ((0 : Int)).toNat = 0 from rfl] at hf7_0); (try simp only [Nat.reduceMul, Nat.zero_mul, Nat.zero_add, Nat.reduceAdd] at hf7_0); replace p7 := eq_true p7; replace q7 := eq_true q7; obtain ⟨hy12_, hz12_⟩ := Kd.R_celln 0 HO104.out (0 : Int) (by omega) (of_decide_eq_true t6_); (try simp only [Int.reduceToNat, Int.toNat_zero, Int.toNat_ofNat, Nat.reduceMul, Nat.zero_mul, Nat.zero_add] at hy12_ hz12_); (try rw [show ((0 : Int)).toNat = 0 from rfl] at hy12_); (try rw [show ((0 : Int)).toNat = 0 from rfl] at hz12_); have HP12 := Kd.R_putg HO104.out (0 : Int) 1) | ((with_reducible refine gate_store (t := 2) (p := 16) rfl ?_); refine store_event (t := 2) (p := 16) (v := ?vo_w13) (w1 := (w10.setCell ⟨go7, (0 : Int).toNat, none⟩ (.int .i64 1))) ?hg ?ho ?hn ?hr ?_; (case ho => rfl); (case hg => rfl); (case hn => rfl); (case hr => exact t3_); intro w13 hw; have hg : w10.grownBy w13 (some go7) := (by rw [hw]; exact HP12.2); have hp_ : Kd.R (Kd.int .i64) 2 w13 w.heap.size (fun _ => True) (.slice (some ⟨go7, 0, none⟩) y102.length co7) y105 := (by rw [hw, Ny105.out]; exact HP12.1); clear HP12; have n0_ := Aside0.mk (blk_grown (g := gb101) (o := .cells #[.slice A0_0 l0_0.length c0_0] 26 (0, 0)) (bb_ BK101.out) hg (Kd.R_ne HO104.out BK101.out (by decide))); have n1_ := Aside0.mk (hp_); have n2_ := Aside0.mk ((by rw [hw]; exact below_set (HB.out) GB7.out : Below w.heap.size w w13)); clear BK101 HO104 HB; have BK101 := n0_; have HO104 := n1_; have HB := n2_; clear n0_ n1_ n2_ hg hw hp_))
 go_loopg [6] k (fun kq v6 w' => ∃ (x5_1 : List Int) (x6_1 : Int), v6 = .int .i64 x6_1 ∧ Aside0 (spec_l01Size.l0 kq a1 x5_1 x6_1 l0_0 = some r) ∧ Aside0 (kq ≤ k) ∧ Aside0 (Kd.R (Kd.int .i64) 2 w' w.heap.size (fun _ => True) (.slice (some ⟨go7, 0, none⟩) y102.length co7) x5_1) ∧ Aside0 (w'.heap[gb101]? = some (.cells #[(.slice A0_0 l0_0.length c0_0)] 26 (0, 0))) ∧ Aside0 (Below w.heap.size w w'))
 case atStart => exact ⟨(y105), (0), t2_, H', ⟨Nat.le_refl _⟩, ⟨rb_ HO104.out⟩, ⟨bb_ BK101.out⟩, ⟨gb_ HB.out⟩⟩
 clear H'
 try clear p2
 try clear c4
 try clear c4b0
 try clear c4b1
 try clear c5
 try clear c5b0
 try clear c5b1
 try clear c6
 try clear c6b0
 try clear c6b1
 try clear p6
 try clear c7
 try clear p7
 try clear q7
 try clear hx7
 try clear qi7
 try clear hf7
 try clear hcz9_0
 try clear hfz9_0
 try clear hx7_0
 try clear p7
 try clear q7
 obtain ⟨x5_1, x6_1, rfl, HA, HK1, HO_5, BK101, HB⟩ := hrel
 have hl5_1 := (Kd.R_reads' HO_5.out).1
 rw [hl5_1] at HO_5
 (try simp only [hl5_1])
 (try simp only [hl5_1] at BK101)
 obtain _ | k1 := gk
 ·exact absurd HA.out (by simp [spec_l01Size.l0])
 have H := HA.out
 clear HA
 simp only [spec_l01Size.l0] at H
 by_cases c14 : x6_1 < (l0_0.length : Int)
 rotate_left
 ·rw [if_neg c14] at H
  have c14b0 : decide (x6_1 < (l0_0.length : Int)) = false := decide_eq_false c14
  clear c14
  have H' := Aside0.mk H
  clear H
  have hcz27_0 := hz_ BK101
  have hfz27_0 := blk_frozen BK101.out 0
  go_wp2
  go_loopg [8, 9] k1 (fun kq v8 v9 w' => ∃ (x8_2 : Int) (x9_2 : Int), v8 = .int .i64 x8_2 ∧ v9 = .int .i64 x9_2 ∧ Aside0 (spec_l01Size.l2 kq a1 x5_1 x8_2 x9_2 = some r) ∧ Aside0 (kq ≤ k1) ∧ Aside0 (Kd.R (Kd.int .i64) 2 w' w.heap.size (fun _ => True) (.slice (some ⟨go7, 0, none⟩) x5_1.length co7) x5_1) ∧ Aside0 (w'.heap[gb101]? = some (.cells #[(.slice A0_0 l0_0.length c0_0)] 26 (0, 0))) ∧ Aside0 (Below w.heap.size w w'))
  case atStart => exact ⟨(0), (0), t2_, t2_, H', ⟨Nat.le_refl _⟩, ⟨by (try simp only [hl5_1]); (with_reducible repeat (first | apply Kd.R_alloc | apply Kd.R_drewN | apply Kd.R_drew)); exact HO_5.out⟩, ⟨by (try simp only [hl5_1]); (with_reducible repeat (first | refine blk_drewN ?_ _ | refine blk_drew ?_ | refine blk_alloc ?_ _)); exact BK101.out⟩, ⟨gb_ HB.out⟩⟩
  clear H'
  try clear c1
  try clear p1
  try clear q1
  try clear hx1
  try clear c2
  try clear p2
  try clear q2
  try clear hx2
  try clear hf2
  try clear c4
  try clear c4b0
  try clear c4b1
  try clear c5
  try clear c5b0
  try clear c5b1
  try clear c6
  try clear c6b0
  try clear c6b1
  try clear p6
  try clear c7
  try clear p7
  try clear q7
  try clear hx7
  try clear qi7
  try clear hf7
  try clear p10
  try clear q10
  try clear hx10
  try clear c14
  try clear c14b0
  try clear c16
  try clear c16b0
  try clear c17
  try clear c17b0
  try clear c18
  try clear c18b0
  try clear c20
  try clear c20b0
  try clear c21
  try clear c21b0
  try clear c22
  try clear c22b0
  try clear c23
  try clear c23b0
  try clear p24
  try clear q24
  try clear hx24
  try clear hf24
  try clear hcz15_0
  try clear hcz27_0
  try clear hcz9_0
  try clear hfz15_0
  try clear hfz27_0
  try clear hfz9_0
  try clear hx106_0
  try clear hx107_0
  try clear hx108_0
  try clear hx24_0
  try clear hx7_0
  try clear p106
  try clear p107
  try clear p108
  try clear p2
  try clear p24
  try clear p6
  try clear p7
  try clear q106
  try clear q107
  try clear q108
  try clear q24
  try clear q7
  obtain ⟨x8_2, x9_2, rfl, rfl, HA, HK2, HO_5, BK101, HB⟩ := hrel
  obtain _ | k2 := gk
  ·exact absurd HA.out (by simp [spec_l01Size.l2])
  have H := HA.out
  clear HA
  simp only [spec_l01Size.l2] at H
  by_cases c28 : x9_2 < (x5_1.length : Int)
  rotate_left
  ·rw [if_neg c28] at H
   have c28b0 : decide (x9_2 < (x5_1.length : Int)) = false := decide_eq_false c28
   clear c28
   obtain rfl := Option.some.inj H
   go_wp2
   go_ret
   exact ⟨by first | rfl | (simp [errW_none, errW_some] <;> rfl) | (simp only [← hji3]; first | rfl | (simp [errW_none, errW_some] <;> rfl)) | (simp [*, errW_none, errW_some] <;> rfl), gb_ HB.out⟩
  rw [if_pos c28] at H
  have c28b0 : decide (x9_2 < (x5_1.length : Int)) = true := decide_eq_true c28
  clear c28
  by_cases c29 : x9_2 ≤ a1
  rotate_left
  ·rw [if_neg c29] at H
   have c29b0 : decide (x9_2 ≤ a1) = false := decide_eq_false c29
   clear c29
   obtain rfl := Option.some.inj H
   go_wp2
   go_ret
   exact ⟨by first | rfl | (simp [errW_none, errW_some] <;> rfl) | (simp only [← hji3]; first | rfl | (simp [errW_none, errW_some] <;> rfl)) | (simp [*, errW_none, errW_some] <;> rfl), gb_ HB.out⟩
  rw [if_pos c29] at H
  have c29b0 : decide (x9_2 ≤ a1) = true := decide_eq_true c29
  clear c29
  by_cases c30 : 0 ≤ x9_2
  rotate_left
  ·rw [if_neg c30] at H
   exact absurd H (by simp)
  rw [if_pos c30] at H
  have c30b0 : decide (0 ≤ x9_2) = true := decide_eq_true c30
  clear c30
  have H' := Aside0.mk H
  clear H
  have p110 : 0 ≤ (x9_2 : Int) := of_decide_eq_true t6_
  have q110 : x9_2 < (x5_1.length : Int) := of_decide_eq_true t6_
  obtain ⟨ad110, e110, hx110_0⟩ := Kd.at_int (Kd.R_reads' HO_5.out).2.2 x9_2 p110 q110
  obtain rfl : (⟨go7, 0, none⟩ : Addr) = ad110 := (by injection e110)
  (first | simp only [add_plain] at hx110_0 | simp only [add_at] at hx110_0 | simp only [Addr.add, Nat.zero_add] at hx110_0 | skip)
  replace p110 := eq_true p110
  replace q110 := eq_true q110
  go_wp2
  go_roundg k2
  case measure => have := HK1.out; have := HK2.out; omega
  case rel => exact ⟨(wrap64 (x8_2 + (rd x5_1 x9_2))), (wrap64 (x9_2 + 1)), t2_, t2_, H', ⟨by have := HK1.out; have := HK2.out; omega⟩, ⟨by (try simp only [hl5_1]); (with_reducible repeat (first | apply Kd.R_alloc | apply Kd.R_drewN | apply Kd.R_drew)); exact HO_5.out⟩, ⟨by (try simp only [hl5_1]); (with_reducible repeat (first | refine blk_drewN ?_ _ | refine blk_drew ?_ | refine blk_alloc ?_ _)); exact BK101.out⟩, ⟨gb_ HB.out⟩⟩
 rw [if_pos c14] at H
 have c14b0 : decide (x6_1 < (l0_0.length : Int)) = true := decide_eq_true c14
 clear c14
 have H' := Aside0.mk H
 clear H
 have hcz15_0 := hz_ BK101
 have hfz15_0 := blk_frozen BK101.out 0
 go_wp2
 go_loopg [7] k1 (fun kq v7 w' => ∃ (x5_2 : List Int) (x7_2 : Int), v7 = .int .i64 x7_2 ∧ Aside0 (spec_l01Size.l1 kq a1 x5_2 x6_1 x7_2 l0_0 = some r) ∧ Aside0 (kq ≤ k1) ∧ Aside0 (Kd.R (Kd.int .i64) 2 w' w.heap.size (fun _ => True) (.slice (some ⟨go7, 0, none⟩) x5_1.length co7) x5_2) ∧ Aside0 (w'.heap[gb101]? = some (.cells #[(.slice A0_0 l0_0.length c0_0)] 26 (0, 0))) ∧ Aside0 (Below w.heap.size w w'))
 case atStart => exact ⟨(x5_1), (wrap64 (x6_1 + 1)), t2_, H', ⟨Nat.le_refl _⟩, ⟨by (try simp only [hl5_1]); (with_reducible repeat (first | apply Kd.R_alloc | apply Kd.R_drewN | apply Kd.R_drew)); exact HO_5.out⟩, ⟨by (try simp only [hl5_1]); (with_reducible repeat (first | refine blk_drewN ?_ _ | refine blk_drew ?_ | refine blk_alloc ?_ _)); exact BK101.out⟩, ⟨gb_ HB.out⟩⟩
 clear H'
 try clear c1
 try clear p2
 try clear c4
 try clear c4b0
 try clear c4b1
 try clear c5
 try clear c5b0
 try clear c5b1
 try clear c6
 try clear c6b0
 try clear c6b1
 try clear p6
 try clear c7
 try clear p7
 try clear q7
 try clear hx7
 try clear qi7
 try clear hf7
 try clear c14
 try clear c14b0
 try clear hcz15_0
 try clear hcz9_0
 try clear hfz15_0
 try clear hfz9_0
 try clear hx7_0
 try clear p2
 try clear p6
 try clear p7
 try clear q7
 obtain ⟨x5_2, x7_2, rfl, HA, HK2, HO_5, BK101, HB⟩ := hrel
 have hl5_2 := (Kd.R_reads' HO_5.out).1
 rw [hl5_2] at HO_5
 (try simp only [hl5_2])
 (try simp only [hl5_2] at BK101)
 obtain _ | k2 := gk
 ·exact absurd HA.out (by simp [spec_l01Size.l1])
 have H := HA.out
 clear HA
 simp only [spec_l01Size.l1] at H
 by_cases c16 : x7_2 > 0
 rotate_left
 ·rw [if_neg c16] at H
  have c16b0 : decide (0 < x7_2) = false := decide_eq_false c16
  clear c16
  have H' := Aside0.mk H
  clear H
  go_wp2
  (try simp only [← hl5_1, ← hl5_2])
  go_roundg k2
  case measure => have := HK1.out; have := HK2.out; omega
  case rel => exact ⟨(x5_2), (wrap64 (x6_1 + 1)), t2_, H', ⟨by have := HK1.out; have := HK2.out; omega⟩, ⟨by (try simp only [hl5_1]); (try simp only [hl5_2]); (with_reducible repeat (first | apply Kd.R_alloc | apply Kd.R_drewN | apply Kd.R_drew)); exact HO_5.out⟩, ⟨by (try simp only [hl5_1]); (try simp only [hl5_2]); (with_reducible repeat (first | refine blk_drewN ?_ _ | refine blk_drew ?_ | refine blk_alloc ?_ _)); exact BK101.out⟩, ⟨gb_ HB.out⟩⟩
 rw [if_pos c16] at H
 have c16b0 : decide (0 < x7_2) = true := decide_eq_true c16
 clear c16
 by_cases c17 : 0 ≤ x7_2
 rotate_left
 ·rw [if_neg c17] at H
  exact absurd H (by simp)
 rw [if_pos c17] at H
 have c17b0 : decide (0 ≤ x7_2) = true := decide_eq_true c17
 clear c17
 by_cases c18 : x7_2 < (x5_2.length : Int)
 rotate_left
 ·rw [if_neg c18] at H
  exact absurd H (by simp)
 rw [if_pos c18] at H
 have c18b0 : decide (x7_2 < (x5_2.length : Int)) = true := decide_eq_true c18
 clear c18
 obtain ⟨ji19, hji19⟩ : ∃ j_ : Int, (wrap64 (x7_2 - 1)) = j_ := ⟨_, rfl⟩
 replace H : (if 0 ≤ (ji19) then (if (ji19) < (x5_2.length : Int) then (if 0 ≤ x6_1 then (if x6_1 < (l0_0.length : Int) then (spec_l01Size.l1 k2 a1 (x5_2.set (x7_2 : Int).toNat (wrap64 ((rd x5_2 x7_2) + (wrap64 ((rd x5_2 (ji19)) * (wrap64 ((rd l0_0 x6_1) - 1))))))) x6_1 ji19 l0_0) else (none)) else (none)) else (none)) else (none)) = some r := by first | (rw [hji19] at H; exact H) | (simp only [hji19] at H ⊢; exact H)
 have hji19w : (IntKind.i64.wrap (x7_2 - 1)) = ji19 := (i64_w _).trans hji19
 by_cases c20 : 0 ≤ (ji19)
 rotate_left
 ·rw [if_neg c20] at H
  exact absurd H (by simp)
 rw [if_pos c20] at H
 have c20b0 : decide (0 ≤ (ji19)) = true := decide_eq_true c20
 clear c20
 by_cases c21 : (ji19) < (x5_2.length : Int)
 rotate_left
 ·rw [if_neg c21] at H
  exact absurd H (by simp)
 rw [if_pos c21] at H
 have c21b0 : decide ((ji19) < (x5_2.length : Int)) = true := decide_eq_true c21
 clear c21
 by_cases c22 : 0 ≤ x6_1
 rotate_left
 ·rw [if_neg c22] at H
  exact absurd H (by simp)
 rw [if_pos c22] at H
 have c22b0 : decide (0 ≤ x6_1) = true := decide_eq_true c22
 clear c22
 by_cases c23 : x6_1 < (l0_0.length : Int)
 rotate_left
 ·rw [if_neg c23] at H
  exact absurd H (by simp)
 rw [if_pos c23] at H
 have c23b0 : decide (x6_1 < (l0_0.length : Int)) = true := decide_eq_true c23
 clear c23
 obtain ⟨y109, hy109⟩ : ∃ y_ : List Int, y_ = (x5_2.set (x7_2 : Int).toNat (wrap64 ((rd x5_2 x7_2) + (wrap64 ((rd x5_2 (ji19)) * (wrap64 ((rd l0_0 x6_1) - 1))))))) := ⟨_, rfl⟩
 replace H : (spec_l01Size.l1 k2 a1 y109 x6_1 ji19 l0_0) = some r := y_ H
 have Ny109 := Aside0.mk hy109
 clear hy109
 have H' := Aside0.mk H
 clear H
 try go_wp2
 replace HO_5 := Aside0.mk (Kd.R_drew HO_5.out)
 replace BK101 := Aside0.mk (blk_drew BK101.out)
 replace HB := Aside0.mk (below_drew1 HB.out)
 have p106 : 0 ≤ (x7_2 : Int) := of_decide_eq_true t6_
 have q106 : x7_2 < (x5_2.length : Int) := of_decide_eq_true t6_
 obtain ⟨ad106, e106, hx106_0⟩ := Kd.at_int (Kd.R_reads' HO_5.out).2.2 x7_2 p106 q106
 obtain rfl : (⟨go7, 0, none⟩ : Addr) = ad106 := (by injection e106)
 (first | simp only [add_plain] at hx106_0 | simp only [add_at] at hx106_0 | simp only [Addr.add, Nat.zero_add] at hx106_0 | skip)
 replace p106 := eq_true p106
 replace q106 := eq_true q106
 have p107 : 0 ≤ ((ji19) : Int) := of_decide_eq_true t6_
 have q107 : (ji19) < (x5_2.length : Int) := of_decide_eq_true t6_
 obtain ⟨ad107, e107, hx107_0⟩ := Kd.at_int (Kd.R_reads' HO_5.out).2.2 (ji19) p107 q107
 obtain rfl : (⟨go7, 0, none⟩ : Addr) = ad107 := (by injection e107)
 (first | simp only [add_plain] at hx107_0 | simp only [add_at] at hx107_0 | simp only [Addr.add, Nat.zero_add] at hx107_0 | skip)
 replace p107 := eq_true p107
 replace q107 := eq_true q107
 have p108 : 0 ≤ (x6_1 : Int) := of_decide_eq_true t6_
 have q108 : x6_1 < (l0_0.length : Int) := of_decide_eq_true t6_
 obtain ⟨ad108, e108, hx108_0⟩ := Kd.at_int HR0_0.out x6_1 p108 q108
 have hw108_0 := hx108_0
 cases e108
 replace hx108_0 := (HB.out.cell (World.block_lt_of_cell? _ _ hx108_0)).trans hx108_0
 replace p108 := eq_true p108
 replace q108 := eq_true q108
 have p24 : 0 ≤ (x7_2 : Int) := of_decide_eq_true t6_
 have q24 : (x7_2 : Int) < ((x5_2.length : Int) : Int) := of_decide_eq_true t6_
 obtain ⟨hx24_0, hf24_0⟩ := Kd.R_celln 0 HO_5.out (x7_2 : Int) p24 q24
 replace p24 := eq_true p24
 replace q24 := eq_true q24
 have HP26 := Kd.R_putn HO_5.out (x7_2 : Int) (wrap64 ((rd x5_2 x7_2) + (wrap64 ((rd x5_2 (ji19)) * (wrap64 ((rd l0_0 x6_1) - 1))))))
 rw [← Ny109.out] at HP26
 have HQ26 := Aside0.mk HP26
 clear HP26
 refine start_ (n := 21) (S := fun w' => w'.cell? ⟨gb101, 0, none⟩ = some (.slice (some ad108) l0_0.length c0_0) ∧ w'.cell? ⟨go7, (x7_2).toNat, none⟩ = some (.int .i64 (rd x5_2 x7_2)) ∧ w'.cell? ⟨go7, ((ji19)).toNat, none⟩ = some (.int .i64 (rd x5_2 (ji19))) ∧ w'.cell? (ad108.add (x6_1).toNat) = some (.int .i64 (rd l0_0 x6_1))) (ds := [20]) #[false, false, false, false, false, false, false, false, false, false, false, false, false, false, false, false, false, false, false, false, false] (by kernel_rfl) rfl rfl ⟨(blk_cell BK101.out 0).trans rfl, hx106_0, hx107_0, ((HB.out.cell (World.block_lt_of_cell? _ _ hw108_0)).trans hw108_0)⟩ (fun hHeld => ?_); refine with_tabW spec_l01Size.tab9 spec_l01Size.bits9 (fun HT_ HW_ => ?_)
 generalize wr.drew = w25 at HO_5 BK101 HB HQ26 hf24_0 hx106_0 hx107_0 hx108_0 hx24_0 hHeld ⊢
 refine pu_ (i := 0) (N := some 30) (v := ?_) (a' := ?_) #[true, false, false, false, false, false, false, false, false, false, false, false, false, false, false, false, false, false, false, false, false] rfl rfl HT_ (Or.inl ⟨by rfl, ?_⟩) ?_ ?_
 rotate_left
 ·exact t7_
 rotate_left
 ·exact t4_
 refine pu_ (i := 1) (N := some 31) (v := ?_) (a' := ?_) #[true, true, false, false, false, false, false, false, false, false, false, false, false, false, false, false, false, false, false, false, false] rfl rfl HT_ (Or.inl ⟨by rfl, ?_⟩) ?_ ?_
 rotate_left
 ·exact t7_
 rotate_left
 ·exact t4_
 refine pu_ (i := 2) (N := some 32) (v := ?_) (a' := ?_) #[true, true, true, false, false, false, false, false, false, false, false, false, false, false, false, false, false, false, false, false, false] rfl rfl HT_ (Or.inl ⟨by rfl, ?_⟩) ?_ ?_
 rotate_left
 ·exact t7_
 rotate_left
 ·exact t4_
 refine pu_ (i := 3) (N := some 33) (v := ?_) (a' := ?_) #[true, true, true, true, false, false, false, false, false, false, false, false, false, false, false, false, false, false, false, false, false] rfl rfl HT_ (Or.inl ⟨by rfl, ?_⟩) ?_ ?_
 rotate_left
 ·exact t7_
 rotate_left
 ·exact t4_
 refine pu_ (i := 4) (N := some 34) (v := ?_) (a' := ?_) #[true, true, true, true, true, false, false, false, false, false, false, false, false, false, false, false, false, false, false, false, false] rfl rfl HT_ (Or.inl ⟨by rfl, ?_⟩) ?_ ?_
 rotate_left
 ·exact t7_
 rotate_left
 ·exact t4_
 refine pu_ (i := 6) (N := some 36) (v := ?_) (a' := ?_) #[true, true, true, true, true, false, true, false, false, false, false, false, false, false, false, false, false, false, false, false, false] rfl rfl HT_ (Or.inl ⟨by rfl, ?_⟩) ?_ ?_
 rotate_left
 ·exact t7_
 rotate_left
 ·exact t4_
 refine pu_ (i := 7) (N := some 37) (v := ?_) (a' := ?_) #[true, true, true, true, true, false, true, true, false, false, false, false, false, false, false, false, false, false, false, false, false] rfl rfl HT_ (Or.inl ⟨by rfl, ?_⟩) ?_ ?_
 rotate_left
 ·exact t7_
 rotate_left
 ·exact t4_
 refine pu_ (i := 8) (N := some 38) (v := ?_) (a' := ?_) #[true, true, true, true, true, false, true, true, true, false, false, false, false, false, false, false, false, false, false, false, false] rfl rfl HT_ (Or.inl ⟨by rfl, ?_⟩) ?_ ?_
 rotate_left
 ·exact t7_
 rotate_left
 ·exact t4_
 refine pu_ (i := 9) (N := some 39) (v := ?_) (a' := ?_) #[true, true, true, true, true, false, true, true, true, true, false, false, false, false, false, false, false, false, false, false, false] rfl rfl HT_ (Or.inl ⟨by rfl, ?_⟩) ?_ ?_
 rotate_left
 ·exact t7_
 rotate_left
 ·exact t4_
 refine pu_ (i := 11) (N := some 41) (v := ?_) (a' := ?_) #[true, true, true, true, true, false, true, true, true, true, false, true, false, false, false, false, false, false, false, false, false] rfl rfl HT_ (Or.inl ⟨by rfl, ?_⟩) ?_ ?_
 rotate_left
 ·exact t7_
 rotate_left
 ·exact t4_
 refine pu_ (i := 13) (N := some 43) (v := ?_) (a' := ?_) #[true, true, true, true, true, false, true, true, true, true, false, true, false, true, false, false, false, false, false, false, false] rfl rfl HT_ (Or.inl ⟨by rfl, ?_⟩) ?_ ?_
 rotate_left
 ·exact t7_
 rotate_left
 ·exact t4_
 refine tk_ (i := 5) (N := some 35) (v := ?_) (a' := ?_) #[true, true, true, true, true, true, true, true, true, true, false, true, false, true, false, false, false, false, false, false, false] rfl rfl HT_ HW_ (Or.inl ⟨by rfl, ?_⟩) hHeld ?_ ?_
 rotate_left
 ·rintro w' ⟨s0, s1, s2, s3⟩
  go_simp
  with_reducible rfl
 rotate_left
 ·exact t4_
 refine tk_ (i := 10) (N := some 40) (v := ?_) (a' := ?_) #[true, true, true, true, true, true, true, true, true, true, true, true, false, true, false, false, false, false, false, false, false] rfl rfl HT_ HW_ (Or.inl ⟨by rfl, ?_⟩) hHeld ?_ ?_
 rotate_left
 ·rintro w' ⟨s0, s1, s2, s3⟩
  go_simp
  with_reducible rfl
 rotate_left
 ·exact t4_
 refine tk_ (i := 12) (N := some 42) (v := ?_) (a' := ?_) #[true, true, true, true, true, true, true, true, true, true, true, true, true, true, false, false, false, false, false, false, false] rfl rfl HT_ HW_ (Or.inl ⟨by rfl, ?_⟩) hHeld ?_ ?_
 rotate_left
 ·rintro w' ⟨s0, s1, s2, s3⟩
  go_simp
  with_reducible rfl
 rotate_left
 ·exact t4_
 refine pu_ (i := 14) (N := some 44) (v := ?_) (a' := ?_) #[true, true, true, true, true, true, true, true, true, true, true, true, true, true, true, false, false, false, false, false, false] rfl rfl HT_ (Or.inl ⟨by rfl, ?_⟩) ?_ ?_
 rotate_left
 ·exact t7_
 rotate_left
 ·exact t4_
 refine tk_ (i := 15) (N := some 45) (v := ?_) (a' := ?_) #[true, true, true, true, true, true, true, true, true, true, true, true, true, true, true, true, false, false, false, false, false] rfl rfl HT_ HW_ (Or.inl ⟨by rfl, ?_⟩) hHeld ?_ ?_
 rotate_left
 ·rintro w' ⟨s0, s1, s2, s3⟩
  go_simp
  with_reducible rfl
 rotate_left
 ·exact t4_
 refine pu_ (i := 16) (N := some 46) (v := ?_) (a' := ?_) #[true, true, true, true, true, true, true, true, true, true, true, true, true, true, true, true, true, false, false, false, false] rfl rfl HT_ (Or.inl ⟨by rfl, ?_⟩) ?_ ?_
 rotate_left
 ·exact t7_
 rotate_left
 ·exact t4_
 refine pu_ (i := 17) (N := some 47) (v := ?_) (a' := ?_) #[true, true, true, true, true, true, true, true, true, true, true, true, true, true, true, true, true, true, false, false, false] rfl rfl HT_ (Or.inl ⟨by rfl, ?_⟩) ?_ ?_
 rotate_left
 ·exact t7_
 rotate_left
 ·exact t4_
 refine pu_ (i := 18) (N := some 48) (v := ?_) (a' := ?_) #[true, true, true, true, true, true, true, true, true, true, true, true, true, true, true, true, true, true, true, false, false] rfl rfl HT_ (Or.inl ⟨by rfl, ?_⟩) ?_ ?_
 rotate_left
 ·exact t7_
 rotate_left
 ·exact t4_
 refine pu_ (i := 19) (N := some 49) (v := ?_) (a' := ?_) #[true, true, true, true, true, true, true, true, true, true, true, true, true, true, true, true, true, true, true, true, false] rfl rfl HT_ (Or.inl ⟨by rfl, ?_⟩) ?_ ?_
 rotate_left
 ·exact t7_
 rotate_left
 ·exact t4_
 refine last_ (i := 20) (N := none) #[true, true, true, true, true, true, true, true, true, true, true, true, true, true, true, true, true, true, true, true, true] rfl rfl (one_of HT_.out (by kernel_rfl)) (by decide) (fun K hK => ?_)
 refine skip_ (w1 := ?_) (by rfl) rfl ?_ ?_
 rotate_left
 ·go_simp
  rfl
 refine hK.out _ _ ?_
 clear hK K
 refine done_ (done_of HT_.out (by kernel_rfl)) ?_
 try go_wp2
 (try simp only [← hl5_2])
 go_roundg k2
 case measure => have := HK1.out; have := HK2.out; omega
 case rel => exact ⟨(y109), (ji19), (by first | rfl | (simp; done) | (simp only [← hji19] <;> (first | rfl | simp)) | (simp [*]; done)), H', ⟨by have := HK1.out; have := HK2.out; omega⟩, ⟨by (try simp only [hl5_1]); (try simp only [hl5_2]); (with_reducible repeat (first | apply Kd.R_alloc | apply Kd.R_drewN | apply Kd.R_drew)); exact HQ26.out⟩, ⟨by (try simp only [hl5_1]); (try simp only [hl5_2]); (with_reducible repeat (first | refine blk_drewN ?_ _ | refine blk_drew ?_ | refine blk_alloc ?_ _)); refine blk_far ?_ (by have h_ := Kd.R_ne HO_5.out BK101.out (by decide); intro e_; exact h_ (by rw [e_]; rfl)) _; (with_reducible repeat (first | refine blk_drewN ?_ _ | refine blk_drew ?_ | refine blk_alloc ?_ _)); exact BK101.out⟩, ⟨gb_ HB.out⟩⟩
def spec_l01Next.f (s0_0 : List Int) (s0_1 : Int) (s0_2 : Int) (a1 : Int) : Option (Int × Int × Int) := if a1 < 1 then (some (0, s0_1, s0_2)) else (if s0_1 < (s0_0.length : Int) then (if 0 ≤ s0_1 then (if a1 = 0 then (none) else (some (Int.tmod (wrap64 ((wrap64 (Go.bits .and .u64 ((IntKind.u64.wrap ((IntKind.u64.wrap (s0_2 * 6364136223846793005)) + 1442695040888963407)) / 8589934592) 16777215)) + (wrap64 (rd s0_0 s0_1)))) a1, wrap64 (s0_1 + 1), IntKind.u64.wrap ((IntKind.u64.wrap (s0_2 * 6364136223846793005)) + 1442695040888963407)))) else (none)) else (if a1 = 0 then (none) else (some (Int.tmod (wrap64 (Go.bits .and .u64 ((IntKind.u64.wrap ((IntKind.u64.wrap (s0_2 * 6364136223846793005)) + 1442695040888963407)) / 8589934592) 16777215)) a1, s0_1, IntKind.u64.wrap ((IntKind.u64.wrap (s0_2 * 6364136223846793005)) + 1442695040888963407)))))
set_option maxHeartbeats 8000000 in
set_option maxRecDepth 100000 in
theorem spec_l01Next.calls (g : Nat) (s0_0 : List Int) (s0_1 : Int) (s0_2 : Int) (a1 : Int) (r1 : Int) (r2 : Int) (r3 : Int) (w0 w : World) (hI : IsS91 w0 w g s0_0 s0_1 s0_2) (hB : Below w0.heap.size w0 w) (h : spec_l01Next.f s0_0 s0_1 s0_2 a1 = some (r1, r2, r3)) :
  Calls Try.prog 85 #[.pointer (some ⟨g, 0, none⟩), .int .i64 a1] w fun e w' => e = .returned (.int .i64 r1) ∧ IsS91 w0 w' g s0_0 r2 r3 ∧ Below w0.heap.size w0 w' ∧ KeepBut w w' g none := by
 have HI0 := Aside0.mk hI
 have HK := Aside0.mk (KeepBut.refl w g none)
 have HL := Aside0.mk hB.size
 clear hI
 have HW0 := Aside0.mk hB.size
 have HB := Aside0.mk hB
 clear hB
 have H : (if a1 < 1 then (some (0, s0_1, s0_2)) else (if s0_1 < (s0_0.length : Int) then (if 0 ≤ s0_1 then (if a1 = 0 then (none) else (some (Int.tmod (wrap64 ((wrap64 (Go.bits .and .u64 ((IntKind.u64.wrap ((IntKind.u64.wrap (s0_2 * 6364136223846793005)) + 1442695040888963407)) / 8589934592) 16777215)) + (wrap64 (rd s0_0 s0_1)))) a1, wrap64 (s0_1 + 1), IntKind.u64.wrap ((IntKind.u64.wrap (s0_2 * 6364136223846793005)) + 1442695040888963407)))) else (none)) else (if a1 = 0 then (none) else (some (Int.tmod (wrap64 (Go.bits .and .u64 ((IntKind.u64.wrap ((IntKind.u64.wrap (s0_2 * 6364136223846793005)) + 1442695040888963407)) / 8589934592) 16777215)) a1, s0_1, IntKind.u64.wrap ((IntKind.u64.wrap (s0_2 * 6364136223846793005)) + 1442695040888963407)))))) = some (r1, r2, r3) := h
 clear h
 by_cases c3 : a1 < 1
 ·rw [if_pos c3] at H
  have c3b0 : decide (a1 < 1) = true := decide_eq_true c3
  clear c3
  simp only [Option.some.injEq, Prod.mk.injEq] at H
  obtain ⟨rfl, rfl, rfl⟩ := H
  go_enter Try.func85, Try.ntmps85
  go_wp2
  repeat (go_quiet (fail); try go_wp2)
  go_ret
  exact ⟨t5_, by repeat (first | (with_reducible first | exact HI0.out | apply IsS91.alloc | apply IsS91.drewN | apply IsS91.drew | apply IsS91.set_1 | apply IsS91.set_2) | exact HI0.out), by repeat (first | (with_reducible first | exact HB.out | apply below_alloc | apply pw_below_drewN | apply below_drew1 | refine below_set ?_ (IsS91.ge HI0.out)) | exact HB.out), by repeat (first | (with_reducible first | exact HK.out | apply KeepBut.set_ | apply keep_drewN | apply keep_drew | apply keep_alloc) | exact HK.out)⟩
 rw [if_neg c3] at H
 have c3b0 : decide (a1 < 1) = false := decide_eq_false c3
 clear c3
 by_cases c4 : s0_1 < (s0_0.length : Int)
 rotate_left
 ·rw [if_neg c4] at H
  have c4b0 : decide (s0_1 < (s0_0.length : Int)) = false := decide_eq_false c4
  clear c4
  by_cases c8 : a1 = 0
  ·rw [if_pos c8] at H
   exact absurd H (by simp)
  rw [if_neg c8] at H
  have c8b0 : (a1 == 0) = false := beq_eq_false_iff_ne.mpr c8
  have c8b1 : (a1 != 0) = true := bne_iff_ne.mpr c8
  simp only [Option.some.injEq, Prod.mk.injEq] at H
  obtain ⟨rfl, rfl, rfl⟩ := H
  obtain ⟨ASz9_0, cSz9_0, HGz9, hgz9, HSz9_0⟩ := HI0.out
  have hcz9_0 := cellS91_0 HGz9
  have hcz9_1 := cellS91_1 HGz9
  have hcz9_2 := cellS91_2 HGz9
  have hfz9_1 := blk_frozen HGz9 1
  have hfz9_2 := blk_frozen HGz9 2
  clear HGz9 hgz9
  go_enter Try.func85, Try.ntmps85
  go_wp2
  repeat (go_quiet (fail); try go_wp2)
  go_ret
  exact ⟨t5_, by repeat (first | (with_reducible first | exact HI0.out | apply IsS91.alloc | apply IsS91.drewN | apply IsS91.drew | apply IsS91.set_1 | apply IsS91.set_2) | exact HI0.out), by repeat (first | (with_reducible first | exact HB.out | apply below_alloc | apply pw_below_drewN | apply below_drew1 | refine below_set ?_ (IsS91.ge HI0.out)) | exact HB.out), by repeat (first | (with_reducible first | exact HK.out | apply KeepBut.set_ | apply keep_drewN | apply keep_drew | apply keep_alloc) | exact HK.out)⟩

 rw [if_pos c4] at H
 have c4b0 : decide (s0_1 < (s0_0.length : Int)) = true := decide_eq_true c4
 clear c4
 by_cases c5 : 0 ≤ s0_1
 rotate_left
 ·rw [if_neg c5] at H
  exact absurd H (by simp)
 rw [if_pos c5] at H
 have c5b0 : decide (0 ≤ s0_1) = true := decide_eq_true c5
 clear c5
 by_cases c6 : a1 = 0
 ·rw [if_pos c6] at H
  exact absurd H (by simp)
 rw [if_neg c6] at H
 have c6b0 : (a1 == 0) = false := beq_eq_false_iff_ne.mpr c6
 have c6b1 : (a1 != 0) = true := bne_iff_ne.mpr c6
 simp only [Option.some.injEq, Prod.mk.injEq] at H
 obtain ⟨rfl, rfl, rfl⟩ := H
 obtain ⟨ASz7_0, cSz7_0, HGz7, hgz7, HSz7_0⟩ := HI0.out
 have hcz7_0 := cellS91_0 HGz7
 have hcz7_1 := cellS91_1 HGz7
 have hcz7_2 := cellS91_2 HGz7
 have hfz7_1 := blk_frozen HGz7 1
 have hfz7_2 := blk_frozen HGz7 2
 clear HGz7 hgz7
 have p101 : 0 ≤ (s0_1 : Int) := of_decide_eq_true t6_
 have q101 : s0_1 < (s0_0.length : Int) := of_decide_eq_true t6_
 obtain ⟨ad101, e101, hx101_0⟩ := Kd.at_int HSz7_0 s0_1 p101 q101
 cases e101
 have hn101_0 : ad101.block ≠ g := Nat.ne_of_lt (Nat.lt_of_lt_of_le (by have := World.block_lt_of_cell? _ _ hx101_0; first | rwa [add_block] at this | exact this) (IsS91.ge HI0.out))
 replace hx101_0 := pw_cell_below HB.out hx101_0
 replace hx101_0 := (cell_far (p := ⟨g, 2, none⟩) (by first | (rw [add_block]; exact hn101_0) | (show (Addr.add _ _).block ≠ _; rw [add_block]; exact hn101_0) | exact hn101_0) (.int .u64 (IntKind.u64.wrap ((IntKind.u64.wrap (s0_2 * 6364136223846793005)) + 1442695040888963407)))).trans hx101_0
 (try have hy101_0 := fun (n_ : Nat) => (show (((w.drewN n_).setCell ⟨g, 2, none⟩ (.int .u64 (IntKind.u64.wrap ((IntKind.u64.wrap (s0_2 * 6364136223846793005)) + 1442695040888963407))))).cell? _ = some _ from hx101_0))
 clear hn101_0
 replace p101 := eq_true p101
 replace q101 := eq_true q101
 go_enter Try.func85, Try.ntmps85
 go_wp2
 repeat (go_quiet (fail); try go_wp2)
 go_ret
 exact ⟨t5_, by repeat (first | (with_reducible first | exact HI0.out | apply IsS91.alloc | apply IsS91.drewN | apply IsS91.drew | apply IsS91.set_1 | apply IsS91.set_2) | exact HI0.out), by repeat (first | (with_reducible first | exact HB.out | apply below_alloc | apply pw_below_drewN | apply below_drew1 | refine below_set ?_ (IsS91.ge HI0.out)) | exact HB.out), by repeat (first | (with_reducible first | exact HK.out | apply KeepBut.set_ | apply keep_drewN | apply keep_drew | apply keep_alloc) | exact HK.out)⟩
def spec_l01From.l0 : Nat → List Int → Int → List Int → Int → Int → Option (List Int × Int × Int)
  | 0, _, _, _, _, _ => none
  | k + 1, x0, x4, x102000, x102001, x102002 => if x4 < (x0.length : Int) then (if x4 < 4096 then (if 0 ≤ x4 then (spec_l01From.l0 k x0 (wrap64 (x4 + 1)) x102000 x102001 (IntKind.u64.wrap ((IntKind.u64.wrap ((IntKind.u64.wrap (x102002 * 1099511628211)) + (IntKind.u64.wrap (rd x0 x4)))) + 251))) else (none)) else (some (x102000, x102001, x102002))) else (some (x102000, x102001, x102002))
def spec_l01From.f (k : Nat) (l0 : List Int) : Option (List Int × Int × Int) := spec_l01From.l0 k l0 0 l0 0 (IntKind.u64.wrap (14111 + (IntKind.u64.wrap ((l0.length : Int)))))
def spec_l01From.T5 : Bool × List (List Nat × List Nat) := (true, [([], []), ([], []), ([1], [1]), ([2], [2]), ([3], [3]), ([4], [4]), ([], []), ([], []), ([6, 7], [6, 7]), ([8], [8]), ([9], [9]), ([5, 10], [5, 10]), ([11], [11]), ([0, 0, 1, 2, 3, 4, 5, 6, 7, 8, 9, 10, 11, 12], [0]), ([13, 0, 1, 2, 3, 4, 5, 6, 7, 8, 9, 10, 11, 12], [13]), ([14, 12, 0, 1, 2, 3, 4, 5, 6, 7, 8, 9, 10, 11, 12], [12, 14])])
def spec_l01From.B5 : List Nat := [0, 0, 2, 6, 14, 30, 0, 0, 192, 448, 960, 2046, 4094, 8191, 16383, 32767]
theorem spec_l01From.tab5 : rtab .any (opsOf Try.f78 5) = spec_l01From.T5 := by kernel_rfl
theorem spec_l01From.bits5 : waitsOk spec_l01From.T5.2 spec_l01From.B5 = true := by kernel_rfl
set_option maxHeartbeats 8000000 in
set_option maxRecDepth 100000 in
theorem spec_l01From.callsN (k : Nat) (A0 : Option Addr) (c0 : Nat) (l0 : List Int) (r1 : List Int) (r2 : Int) (r3 : Int) (w0 w : World) (hB : Below w0.heap.size w0 w) (hr0 : Kd.C (Kd.int .u8) w0 A0 l0.length l0) (hc0 : l0.length ≤ c0) (h : spec_l01From.f k l0 = some (r1, r2, r3)) :
  Calls Try.prog 78 #[.slice A0 l0.length c0] w fun e w' => ∃ g_ : Nat, e = .returned (.pointer (some ⟨g_, 0, none⟩)) ∧ IsS91 w0 w' g_ r1 r2 r3 ∧ Below w0.heap.size w0 w' ∧ Below w.heap.size w w' ∧ w.heap.size ≤ g_ := by
 have hu91 := Try.underlying91
 have HR0 := Aside0.mk hr0
 have HC0 := Aside0.mk hc0
 clear hr0 hc0
 have HBW := Aside0.mk (Below.refl w.heap.size w)
 have HW0 := Aside0.mk hB.size
 have HB := Aside0.mk hB
 clear hB
 have H : (spec_l01From.l0 k l0 0 l0 0 (IntKind.u64.wrap (14111 + (IntKind.u64.wrap ((l0.length : Int)))))) = some (r1, r2, r3) := h
 clear h
 have H' := Aside0.mk H
 clear H
 go_enter Try.func78, Try.ntmps78
 go_wp2_with (first | ((with_reducible refine gate_dst (N := 11) rfl ?_); refine bx_ (N := 11) (cs := #[.slice A0 l0.length c0, .int .i64 0, .int .u64 (IntKind.u64.wrap (14111 + (IntKind.u64.wrap ((l0.length : Int)))))]) (t := 91) rfl rfl ?_; intro gb101 hg w2 hbox hb; have n0_ := Aside0.mk (below_step HBW.out hb); have n1_ := Aside0.mk (below_step (gb_ HB.out) hb); have n2_ := Aside0.mk (hbox); have n3_ := Aside0.mk ((by rw [hg]; exact (below_size (by repeat (first | (with_reducible first | exact HBW.out | apply below_alloc | apply pw_below_drewN | apply below_drew1) | exact HBW.out))) : w.heap.size ≤ gb101)); have n4_ := Aside0.mk ((Nat.le_trans HW0.out (by rw [hg]; exact (below_size (by repeat (first | (with_reducible first | exact HBW.out | apply below_alloc | apply pw_below_drewN | apply below_drew1) | exact HBW.out))) : w.heap.size ≤ gb101) : w0.heap.size ≤ gb101)); clear HBW HB; have HBW := n0_; have HB := n1_; have BK101 := n2_; have GW101 := n3_; have GE101 := n4_; clear n0_ n1_ n2_ n3_ n4_ hb hbox hg))
 go_loopg [4] k (fun kq v4 w' => ∃ (x4_1 : Int) (x102002_1 : Int), v4 = .int .i64 x4_1 ∧ Aside0 (spec_l01From.l0 kq l0 x4_1 l0 0 x102002_1 = some (r1, r2, r3)) ∧ Aside0 (kq ≤ k) ∧ Aside0 (w'.heap[gb101]? = some (.cells #[(.slice A0 l0.length c0), .int .i64 0, .int .u64 x102002_1] 91 (0, 0))) ∧ Aside0 (Below w0.heap.size w0 w') ∧ Aside0 (Below w.heap.size w w'))
 case atStart => exact ⟨(0), (IntKind.u64.wrap (14111 + (IntKind.u64.wrap ((l0.length : Int))))), t2_, H', ⟨Nat.le_refl _⟩, ⟨bb_ BK101.out⟩, ⟨gb_ HB.out⟩, ⟨by repeat (first | (with_reducible first | exact HBW.out | apply below_alloc | apply pw_below_drewN | apply below_drew1 | refine below_set ?_ GW101.out) | exact HBW.out)⟩⟩
 clear H'
 try clear p2
 obtain ⟨x4_1, x102002_1, rfl, HA, HK1, BK101, HB, HBW⟩ := hrel
 obtain _ | k1 := gk
 ·exact absurd HA.out (by simp [spec_l01From.l0])
 have H := HA.out
 clear HA
 simp only [spec_l01From.l0] at H
 by_cases c3 : x4_1 < (l0.length : Int)
 rotate_left
 ·rw [if_neg c3] at H
  have c3b0 : decide (x4_1 < (l0.length : Int)) = false := decide_eq_false c3
  clear c3
  simp only [Option.some.injEq, Prod.mk.injEq] at H
  obtain ⟨rfl, rfl, rfl⟩ := H
  go_wp2
  go_ret
  exact ⟨_, rfl, (show IsS91 w0 _ gb101 l0 0 x102002_1 from ⟨_, _, bb_ BK101.out, GE101.out, HR0.out⟩), gb_ HB.out, by repeat (first | (with_reducible first | exact HBW.out | apply below_alloc | apply pw_below_drewN | apply below_drew1 | refine below_set ?_ GW101.out) | exact HBW.out), GW101.out⟩
 rw [if_pos c3] at H
 have c3b0 : decide (x4_1 < (l0.length : Int)) = true := decide_eq_true c3
 clear c3
 by_cases c4 : x4_1 < 4096
 rotate_left
 ·rw [if_neg c4] at H
  have c4b0 : decide (x4_1 < 4096) = false := decide_eq_false c4
  clear c4
  simp only [Option.some.injEq, Prod.mk.injEq] at H
  obtain ⟨rfl, rfl, rfl⟩ := H
  go_wp2
  go_ret
  exact ⟨_, rfl, (show IsS91 w0 _ gb101 l0 0 x102002_1 from ⟨_, _, bb_ BK101.out, GE101.out, HR0.out⟩), gb_ HB.out, by repeat (first | (with_reducible first | exact HBW.out | apply below_alloc | apply pw_below_drewN | apply below_drew1 | refine below_set ?_ GW101.out) | exact HBW.out), GW101.out⟩
 rw [if_pos c4] at H
 have c4b0 : decide (x4_1 < 4096) = true := decide_eq_true c4
 clear c4
 by_cases c5 : 0 ≤ x4_1
 rotate_left
 ·rw [if_neg c5] at H
  exact absurd H (by simp)
 rw [if_pos c5] at H
 have c5b0 : decide (0 ≤ x4_1) = true := decide_eq_true c5
 clear c5
 have H' := Aside0.mk H
 clear H
 try go_wp2
 replace BK101 := Aside0.mk (blk_drew BK101.out)
 replace HB := Aside0.mk (below_drew1 HB.out)
 have p102 : 0 ≤ (x4_1 : Int) := of_decide_eq_true t6_
 have q102 : x4_1 < (l0.length : Int) := of_decide_eq_true t6_
 obtain ⟨ad102, e102, hx102_0⟩ := Kd.at_int HR0.out x4_1 p102 q102
 have hw102_0 := hx102_0
 cases e102
 replace hx102_0 := pw_cell_below HB.out hx102_0
 replace p102 := eq_true p102
 replace q102 := eq_true q102
 refine start_ (n := 16) (S := fun w' => w'.cell? ⟨gb101, 0, none⟩ = some (.slice (some ad102) l0.length c0) ∧ w'.cell? ⟨gb101, 1, none⟩ = some (.int .i64 0) ∧ w'.cell? ⟨gb101, 2, none⟩ = some (.int .u64 x102002_1) ∧ w'.cell? (ad102.add (x4_1).toNat) = some (.int .u8 (rd l0 x4_1))) (ds := [15]) #[false, false, false, false, false, false, false, false, false, false, false, false, false, false, false, false] (by kernel_rfl) rfl rfl ⟨(blk_cell BK101.out 0).trans rfl, (blk_cell BK101.out 1).trans rfl, (blk_cell BK101.out 2).trans rfl, ((HB.out.cell (World.block_lt_of_cell? _ _ hw102_0)).trans hw102_0)⟩ (fun hHeld => ?_); refine with_tabW spec_l01From.tab5 spec_l01From.bits5 (fun HT_ HW_ => ?_)
 have HBW9 := Aside0.mk (below_drew HBW.out)
 clear HBW
 have HBW := HBW9
 clear HBW9
 generalize wr.drew = w6 at BK101 HB HBW hx102_0 hHeld ⊢
 refine pu_ (i := 0) (N := some 22) (v := ?_) (a' := ?_) #[true, false, false, false, false, false, false, false, false, false, false, false, false, false, false, false] rfl rfl HT_ (Or.inl ⟨by rfl, ?_⟩) ?_ ?_
 rotate_left
 ·exact t7_
 rotate_left
 ·exact t4_
 refine pu_ (i := 1) (N := some 23) (v := ?_) (a' := ?_) #[true, true, false, false, false, false, false, false, false, false, false, false, false, false, false, false] rfl rfl HT_ (Or.inl ⟨by rfl, ?_⟩) ?_ ?_
 rotate_left
 ·exact t7_
 rotate_left
 ·exact t4_
 refine pu_ (i := 2) (N := some 24) (v := ?_) (a' := ?_) #[true, true, true, false, false, false, false, false, false, false, false, false, false, false, false, false] rfl rfl HT_ (Or.inl ⟨by rfl, ?_⟩) ?_ ?_
 rotate_left
 ·exact t7_
 rotate_left
 ·exact t4_
 refine pu_ (i := 3) (N := some 25) (v := ?_) (a' := ?_) #[true, true, true, true, false, false, false, false, false, false, false, false, false, false, false, false] rfl rfl HT_ (Or.inl ⟨by rfl, ?_⟩) ?_ ?_
 rotate_left
 ·exact t7_
 rotate_left
 ·exact t4_
 refine pu_ (i := 6) (N := some 28) (v := ?_) (a' := ?_) #[true, true, true, true, false, false, true, false, false, false, false, false, false, false, false, false] rfl rfl HT_ (Or.inl ⟨by rfl, ?_⟩) ?_ ?_
 rotate_left
 ·exact t7_
 rotate_left
 ·exact t4_
 refine pu_ (i := 7) (N := some 29) (v := ?_) (a' := ?_) #[true, true, true, true, false, false, true, true, false, false, false, false, false, false, false, false] rfl rfl HT_ (Or.inl ⟨by rfl, ?_⟩) ?_ ?_
 rotate_left
 ·exact t7_
 rotate_left
 ·exact t4_
 refine pu_ (i := 8) (N := some 30) (v := ?_) (a' := ?_) #[true, true, true, true, false, false, true, true, true, false, false, false, false, false, false, false] rfl rfl HT_ (Or.inl ⟨by rfl, ?_⟩) ?_ ?_
 rotate_left
 ·exact t7_
 rotate_left
 ·exact t4_
 refine tk_ (i := 4) (N := some 26) (v := ?_) (a' := ?_) #[true, true, true, true, true, false, true, true, true, false, false, false, false, false, false, false] rfl rfl HT_ HW_ (Or.inl ⟨by rfl, ?_⟩) hHeld ?_ ?_
 rotate_left
 ·rintro w' ⟨s0, s1, s2, s3⟩
  go_simp
  with_reducible rfl
 rotate_left
 ·exact t4_
 refine pu_ (i := 5) (N := some 27) (v := ?_) (a' := ?_) #[true, true, true, true, true, true, true, true, true, false, false, false, false, false, false, false] rfl rfl HT_ (Or.inl ⟨by rfl, ?_⟩) ?_ ?_
 rotate_left
 ·exact t7_
 rotate_left
 ·exact t4_
 refine tk_ (i := 9) (N := some 31) (v := ?_) (a' := ?_) #[true, true, true, true, true, true, true, true, true, true, false, false, false, false, false, false] rfl rfl HT_ HW_ (Or.inl ⟨by rfl, ?_⟩) hHeld ?_ ?_
 rotate_left
 ·rintro w' ⟨s0, s1, s2, s3⟩
  go_simp
  with_reducible rfl
 rotate_left
 ·exact t4_
 refine pu_ (i := 10) (N := some 32) (v := ?_) (a' := ?_) #[true, true, true, true, true, true, true, true, true, true, true, false, false, false, false, false] rfl rfl HT_ (Or.inl ⟨by rfl, ?_⟩) ?_ ?_
 rotate_left
 ·exact t7_
 rotate_left
 ·exact t4_
 refine pu_ (i := 11) (N := some 33) (v := ?_) (a' := ?_) #[true, true, true, true, true, true, true, true, true, true, true, true, false, false, false, false] rfl rfl HT_ (Or.inl ⟨by rfl, ?_⟩) ?_ ?_
 rotate_left
 ·exact t7_
 rotate_left
 ·exact t4_
 refine pu_ (i := 12) (N := some 34) (v := ?_) (a' := ?_) #[true, true, true, true, true, true, true, true, true, true, true, true, true, false, false, false] rfl rfl HT_ (Or.inl ⟨by rfl, ?_⟩) ?_ ?_
 rotate_left
 ·exact t7_
 rotate_left
 ·exact t4_
 refine pu_ (i := 13) (N := some 35) (v := ?_) (a' := ?_) #[true, true, true, true, true, true, true, true, true, true, true, true, true, true, false, false] rfl rfl HT_ (Or.inl ⟨by rfl, ?_⟩) ?_ ?_
 rotate_left
 ·exact t7_
 rotate_left
 ·exact t4_
 refine pu_ (i := 14) (N := some 36) (v := ?_) (a' := ?_) #[true, true, true, true, true, true, true, true, true, true, true, true, true, true, true, false] rfl rfl HT_ (Or.inl ⟨by rfl, ?_⟩) ?_ ?_
 rotate_left
 ·exact t7_
 rotate_left
 ·exact t4_
 refine last_ (i := 15) (N := none) #[true, true, true, true, true, true, true, true, true, true, true, true, true, true, true, true] rfl rfl (one_of HT_.out (by kernel_rfl)) (by decide) (fun K hK => ?_)
 have hs7 : w6.cell? ⟨gb101, 2, none⟩ = some (.int .u64 x102002_1) := (blk_cell BK101.out 2).trans rfl
 have hfs7 := blk_frozen BK101.out 2
 refine skip_ (w1 := ?_) (by rfl) rfl ?_ ?_
 rotate_left
 ·go_simp
  rfl
 refine hK.out _ _ ?_
 clear hK K
 refine done_ (done_of HT_.out (by kernel_rfl)) ?_
 try go_wp2
 go_roundg k1
 case measure => have := HK1.out; omega
 case rel => exact ⟨(wrap64 (x4_1 + 1)), (IntKind.u64.wrap ((IntKind.u64.wrap ((IntKind.u64.wrap (x102002_1 * 1099511628211)) + (IntKind.u64.wrap (rd l0 x4_1)))) + 251)), t2_, H', ⟨by have := HK1.out; omega⟩, ⟨by (with_reducible repeat (first | refine blk_drewN ?_ _ | refine blk_drew ?_ | refine blk_alloc ?_ _)); refine blk_put (cs := #[.slice (some ad102) l0.length c0, .int .i64 0, .int .u64 x102002_1]) ?_ 2 _ rfl; (with_reducible repeat (first | refine blk_drewN ?_ _ | refine blk_drew ?_ | refine blk_alloc ?_ _)); exact BK101.out⟩, ⟨gb_ HB.out⟩, ⟨by repeat (first | (with_reducible first | exact HBW.out | apply below_alloc | apply pw_below_drewN | apply below_drew1 | refine below_set ?_ GW101.out) | exact HBW.out)⟩⟩
theorem spec_l01From.calls (k : Nat) (A0 : Option Addr) (c0 : Nat) (l0 : List Int) (r1 : List Int) (r2 : Int) (r3 : Int) (w0 w : World) (hB : Below w0.heap.size w0 w) (hr0 : Kd.C (Kd.int .u8) w0 A0 l0.length l0) (hc0 : l0.length ≤ c0) (h : spec_l01From.f k l0 = some (r1, r2, r3)) :
  Calls Try.prog 78 #[.slice A0 l0.length c0] w fun e w' => ∃ g_ : Nat, e = .returned (.pointer (some ⟨g_, 0, none⟩)) ∧ IsS91 w0 w' g_ r1 r2 r3 ∧ Below w0.heap.size w0 w' ∧ Below w.heap.size w w' := by
 refine (spec_l01From.callsN k A0 c0 l0 r1 r2 r3 w0 w hB hr0 hc0 h).mono ?_
 rintro e w' ⟨g_, h1, h2, h3, h4, _⟩
 exact ⟨g_, h1, h2, h3, h4⟩
def laws_likeInts.l0 : Nat → List Int → List Int → Int → Option (Bool)
  | 0, _, _, _ => none
  | k + 1, x0, x1, x5 => if x5 < (x0.length : Int) then (if 0 ≤ x5 then (if x5 < (x1.length : Int) then (if (rd x0 x5) = (rd x1 x5) then (laws_likeInts.l0 k x0 x1 (wrap64 (x5 + 1))) else (some false)) else (none)) else (none)) else (some true)
def laws_likeInts.f (k : Nat) (l0 : List Int) (l1 : List Int) : Option (Bool) := if (l0.length : Int) = (l1.length : Int) then (laws_likeInts.l0 k l0 l1 0) else (some false)
set_option maxHeartbeats 8000000 in
set_option maxRecDepth 100000 in
theorem laws_likeInts.calls (k : Nat) (A0 : Option Addr) (c0 : Nat) (l0 : List Int) (A1 : Option Addr) (c1 : Nat) (l1 : List Int) (r : Bool) (w : World) (hr0 : Kd.C (Kd.int .i64) w A0 l0.length l0) (hc0 : l0.length ≤ c0) (hr1 : Kd.C (Kd.int .i64) w A1 l1.length l1) (hc1 : l1.length ≤ c1) (h : laws_likeInts.f k l0 l1 = some r) :
  Calls Try.prog 18 #[.slice A0 l0.length c0, .slice A1 l1.length c1] w fun e w' => e = .returned (.bool r) ∧ Drawn0 w w' := by
 have HR0 := Aside0.mk hr0
 have HC0 := Aside0.mk hc0
 clear hr0 hc0
 have HR1 := Aside0.mk hr1
 have HC1 := Aside0.mk hc1
 clear hr1 hc1
 have H : (if (l0.length : Int) = (l1.length : Int) then (laws_likeInts.l0 k l0 l1 0) else (some false)) = some r := h
 clear h
 by_cases c3 : (l0.length : Int) = (l1.length : Int)
 rotate_left
 ·rw [if_neg c3] at H
  have c3b0 : ((l0.length : Int) == (l1.length : Int)) = false := beq_eq_false_iff_ne.mpr c3
  have c3b1 : ((l0.length : Int) != (l1.length : Int)) = true := bne_iff_ne.mpr c3
  have c3b2 : (l0.length == l1.length) = false := by first | simpa using c3 | (simp at c3 ⊢; omega)
  obtain rfl := Option.some.inj H
  go_enter Try.func18, Try.ntmps18
  go_wp2
  repeat (go_quiet (fail); try go_wp2)
  go_ret
  exact ⟨by first | rfl | (simp; done) | (simp [*]; done), by repeat (first | exact Drawn0.refl _ | apply Drawn0.step)⟩

 rw [if_pos c3] at H
 have c3b0 : ((l0.length : Int) == (l1.length : Int)) = true := beq_iff_eq.mpr c3
 have c3b1 : ((l0.length : Int) != (l1.length : Int)) = false := bne_eq_false_iff_eq.mpr c3
 have c3b2 : (l0.length == l1.length) = true := by first | simpa using c3 | (simp at c3 ⊢; omega)
 clear c3
 have H' := Aside0.mk H
 clear H
 go_enter Try.func18, Try.ntmps18
 go_wp2
 repeat (go_quiet (fail); try go_wp2)
 go_loopg [5] k (fun kq v5 w' => ∃ (x5_1 : Int), v5 = .int .i64 x5_1 ∧ Aside0 (laws_likeInts.l0 kq l0 l1 x5_1 = some r) ∧ Aside0 (kq ≤ k) ∧ Drawn0 w w')
 case atStart => exact ⟨(0), t2_, H', ⟨Nat.le_refl _⟩, by repeat (first | exact Drawn0.refl _ | apply Drawn0.step)⟩
 clear H'
 try clear c1
 try clear p2
 try clear c3
 try clear c3b0
 try clear c3b1
 try clear c3b2
 obtain ⟨x5_1, rfl, HA, HK1, ⟨m1, rfl⟩⟩ := hrel
 obtain _ | k1 := gk
 ·exact absurd HA.out (by simp [laws_likeInts.l0])
 have H := HA.out
 clear HA
 simp only [laws_likeInts.l0] at H
 by_cases c4 : x5_1 < (l0.length : Int)
 rotate_left
 ·rw [if_neg c4] at H
  have c4b0 : decide (x5_1 < (l0.length : Int)) = false := decide_eq_false c4
  clear c4
  obtain rfl := Option.some.inj H
  go_wp2
  repeat (go_quiet (fail); try go_wp2)
  go_ret
  exact ⟨by first | rfl | (simp; done) | (simp [*]; done), by repeat (first | exact Drawn0.refl _ | apply Drawn0.step)⟩
 rw [if_pos c4] at H
 have c4b0 : decide (x5_1 < (l0.length : Int)) = true := decide_eq_true c4
 clear c4
 by_cases c5 : 0 ≤ x5_1
 rotate_left
 ·rw [if_neg c5] at H
  exact absurd H (by simp)
 rw [if_pos c5] at H
 have c5b0 : decide (0 ≤ x5_1) = true := decide_eq_true c5
 clear c5
 by_cases c6 : x5_1 < (l1.length : Int)
 rotate_left
 ·rw [if_neg c6] at H
  exact absurd H (by simp)
 rw [if_pos c6] at H
 have c6b0 : decide (x5_1 < (l1.length : Int)) = true := decide_eq_true c6
 clear c6
 by_cases c7 : (rd l0 x5_1) = (rd l1 x5_1)
 rotate_left
 ·rw [if_neg c7] at H
  have c7b0 : ((rd l0 x5_1) == (rd l1 x5_1)) = false := beq_eq_false_iff_ne.mpr c7
  have c7b1 : ((rd l0 x5_1) != (rd l1 x5_1)) = true := bne_iff_ne.mpr c7
  obtain rfl := Option.some.inj H
  have p101 : 0 ≤ (x5_1 : Int) := of_decide_eq_true t6_
  have q101 : x5_1 < (l0.length : Int) := of_decide_eq_true t6_
  obtain ⟨ad101, e101, hx101_0⟩ := Kd.at_int HR0.out x5_1 p101 q101
  cases e101
  replace p101 := eq_true p101
  replace q101 := eq_true q101
  have p102 : 0 ≤ (x5_1 : Int) := of_decide_eq_true t6_
  have q102 : x5_1 < (l1.length : Int) := of_decide_eq_true t6_
  obtain ⟨ad102, e102, hx102_0⟩ := Kd.at_int HR1.out x5_1 p102 q102
  cases e102
  replace p102 := eq_true p102
  replace q102 := eq_true q102
  go_wp2
  repeat (go_quiet (fail); try go_wp2)
  go_ret
  exact ⟨by first | rfl | (simp; done) | (simp [*]; done), by repeat (first | exact Drawn0.refl _ | apply Drawn0.step)⟩
 rw [if_pos c7] at H
 have c7b0 : ((rd l0 x5_1) == (rd l1 x5_1)) = true := beq_iff_eq.mpr c7
 have c7b1 : ((rd l0 x5_1) != (rd l1 x5_1)) = false := bne_eq_false_iff_eq.mpr c7
 clear c7
 have H' := Aside0.mk H
 clear H
 have p101 : 0 ≤ (x5_1 : Int) := of_decide_eq_true t6_
 have q101 : x5_1 < (l0.length : Int) := of_decide_eq_true t6_
 obtain ⟨ad101, e101, hx101_0⟩ := Kd.at_int HR0.out x5_1 p101 q101
 cases e101
 replace p101 := eq_true p101
 replace q101 := eq_true q101
 have p102 : 0 ≤ (x5_1 : Int) := of_decide_eq_true t6_
 have q102 : x5_1 < (l1.length : Int) := of_decide_eq_true t6_
 obtain ⟨ad102, e102, hx102_0⟩ := Kd.at_int HR1.out x5_1 p102 q102
 cases e102
 replace p102 := eq_true p102
 replace q102 := eq_true q102
 go_wp2
 repeat (go_quiet (fail); try go_wp2)
 go_roundg k1
 case measure => have := HK1.out; omega
 case rel => exact ⟨(wrap64 (x5_1 + 1)), t2_, H', ⟨by have := HK1.out; omega⟩, by repeat (first | exact Drawn0.refl _ | apply Drawn0.step)⟩
def laws_hasInt.l0 : Nat → List Int → Int → Int → Option (Bool)
  | 0, _, _, _ => none
  | k + 1, x0, x1, x5 => if x5 < (x0.length : Int) then (if 0 ≤ x5 then (if (rd x0 x5) = x1 then (some true) else (laws_hasInt.l0 k x0 x1 (wrap64 (x5 + 1)))) else (none)) else (some false)
def laws_hasInt.f (k : Nat) (l0 : List Int) (a1 : Int) : Option (Bool) := laws_hasInt.l0 k l0 a1 0
set_option maxHeartbeats 8000000 in
set_option maxRecDepth 100000 in
theorem laws_hasInt.calls (k : Nat) (A0 : Option Addr) (c0 : Nat) (l0 : List Int) (a1 : Int) (r : Bool) (w : World) (hr0 : Kd.C (Kd.int .i64) w A0 l0.length l0) (hc0 : l0.length ≤ c0) (h : laws_hasInt.f k l0 a1 = some r) :
  Calls Try.prog 29 #[.slice A0 l0.length c0, .int .i64 a1] w fun e w' => e = .returned (.bool r) ∧ Drawn0 w w' := by
 have HR0 := Aside0.mk hr0
 have HC0 := Aside0.mk hc0
 clear hr0 hc0
 have H : (laws_hasInt.l0 k l0 a1 0) = some r := h
 clear h
 have H' := Aside0.mk H
 clear H
 go_enter Try.func29, Try.ntmps29
 go_wp2
 go_loopg [5] k (fun kq v5 w' => ∃ (x5_1 : Int), v5 = .int .i64 x5_1 ∧ Aside0 (laws_hasInt.l0 kq l0 a1 x5_1 = some r) ∧ Aside0 (kq ≤ k) ∧ Drawn0 w w')
 case atStart => exact ⟨(0), t2_, H', ⟨Nat.le_refl _⟩, by repeat (first | exact Drawn0.refl _ | apply Drawn0.step)⟩
 clear H'
 try clear c2
 try clear p2
 obtain ⟨x5_1, rfl, HA, HK1, ⟨m1, rfl⟩⟩ := hrel
 obtain _ | k1 := gk
 ·exact absurd HA.out (by simp [laws_hasInt.l0])
 have H := HA.out
 clear HA
 simp only [laws_hasInt.l0] at H
 by_cases c3 : x5_1 < (l0.length : Int)
 rotate_left
 ·rw [if_neg c3] at H
  have c3b0 : decide (x5_1 < (l0.length : Int)) = false := decide_eq_false c3
  clear c3
  obtain rfl := Option.some.inj H
  go_wp2
  go_ret
  exact ⟨by first | rfl | (simp; done) | (simp [*]; done), by repeat (first | exact Drawn0.refl _ | apply Drawn0.step)⟩

 rw [if_pos c3] at H
 have c3b0 : decide (x5_1 < (l0.length : Int)) = true := decide_eq_true c3
 clear c3
 by_cases c4 : 0 ≤ x5_1
 rotate_left
 ·rw [if_neg c4] at H
  exact absurd H (by simp)
 rw [if_pos c4] at H
 have c4b0 : decide (0 ≤ x5_1) = true := decide_eq_true c4
 clear c4
 by_cases c5 : (rd l0 x5_1) = a1
 ·rw [if_pos c5] at H
  have c5b0 : ((rd l0 x5_1) == a1) = true := beq_iff_eq.mpr c5
  have c5b1 : ((rd l0 x5_1) != a1) = false := bne_eq_false_iff_eq.mpr c5
  clear c5
  obtain rfl := Option.some.inj H
  have p101 : 0 ≤ (x5_1 : Int) := of_decide_eq_true t6_
  have q101 : x5_1 < (l0.length : Int) := of_decide_eq_true t6_
  obtain ⟨ad101, e101, hx101_0⟩ := Kd.at_int HR0.out x5_1 p101 q101
  cases e101
  replace p101 := eq_true p101
  replace q101 := eq_true q101
  go_wp2
  go_ret
  exact ⟨by first | rfl | (simp; done) | (simp [*]; done), by repeat (first | exact Drawn0.refl _ | apply Drawn0.step)⟩
 rw [if_neg c5] at H
 have c5b0 : ((rd l0 x5_1) == a1) = false := beq_eq_false_iff_ne.mpr c5
 have c5b1 : ((rd l0 x5_1) != a1) = true := bne_iff_ne.mpr c5
 have H' := Aside0.mk H
 clear H
 have p101 : 0 ≤ (x5_1 : Int) := of_decide_eq_true t6_
 have q101 : x5_1 < (l0.length : Int) := of_decide_eq_true t6_
 obtain ⟨ad101, e101, hx101_0⟩ := Kd.at_int HR0.out x5_1 p101 q101
 cases e101
 replace p101 := eq_true p101
 replace q101 := eq_true q101
 go_wp2
 go_roundg k1
 case measure => have := HK1.out; omega
 case rel => exact ⟨(wrap64 (x5_1 + 1)), t2_, H', ⟨by have := HK1.out; omega⟩, by repeat (first | exact Drawn0.refl _ | apply Drawn0.step)⟩
def laws_big.f (l0 : List Int) : Option (Bool) := some (decide ((l0.length : Int) > 4096))
set_option maxHeartbeats 8000000 in
set_option maxRecDepth 100000 in
theorem laws_big.calls (A0 : Option Addr) (c0 : Nat) (l0 : List Int) (r : Bool) (w : World) (hr0 : Kd.C (Kd.int .u8) w A0 l0.length l0) (hc0 : l0.length ≤ c0) (h : laws_big.f l0 = some r) :
  Calls Try.prog 6 #[.slice A0 l0.length c0] w fun e w' => e = .returned (.bool r) ∧ Drawn0 w w' := by
 have HR0 := Aside0.mk hr0
 have HC0 := Aside0.mk hc0
 clear hr0 hc0
 have H : (some (decide ((l0.length : Int) > 4096))) = some r := h
 clear h
 obtain rfl := Option.some.inj H
 go_enter Try.func6, Try.ntmps6
 go_wp2
 go_ret
 exact ⟨by first | rfl | (simp; done) | (simp [*]; done), by repeat (first | exact Drawn0.refl _ | apply Drawn0.step)⟩
def spec_l01Words.l0 : Nat → List Int → Int → List Int → Option (Int)
  | 0, _, _, _ => none
  | k + 1, x1, x5, x102000 => if x5 < (x1.length : Int) then (if 0 ≤ x5 then ((spec_l01N.f k x102000).bind fun t104 => ((spec_l01In.f (rd x1 x5) 0 (wrap64 (t104 - 1))).bind fun t105 => (if t105 = true then (spec_l01Words.l0 k x1 (wrap64 (x5 + 1)) x102000) else (some 2)))) else (none)) else (some 0)
def spec_l01Words.f (k : Nat) (l0_0 : List Int) (l1 : List Int) : Option (Int) := (spec_l01Is.f k l0_0).bind fun t102 => (if t102 = true then (spec_l01Words.l0 k l1 0 l0_0) else (some 1))
def spec_l01Words.T6 : Bool × List (List Nat × List Nat) := (true, [([], []), ([], []), ([0, 1], [0, 1]), ([2], [2]), ([], []), ([4], [4]), ([5], [5]), ([3, 6, 5], [3, 6]), ([7], [7])])
def spec_l01Words.B6 : List Nat := [0, 0, 3, 7, 0, 16, 48, 127, 255]
theorem spec_l01Words.tab6 : rtab .any (opsOf Try.f58 6) = spec_l01Words.T6 := by kernel_rfl
theorem spec_l01Words.bits6 : waitsOk spec_l01Words.T6.2 spec_l01Words.B6 = true := by kernel_rfl
set_option maxHeartbeats 8000000 in
set_option maxRecDepth 100000 in
theorem spec_l01Words.calls (k : Nat) (A0_0 : Option Addr) (c0_0 : Nat) (l0_0 : List Int) (A1 : Option Addr) (c1 : Nat) (l1 : List Int) (r : Int) (w : World) (hr0_0 : Kd.C (Kd.int .i64) w A0_0 l0_0.length l0_0) (hc0_0 : l0_0.length ≤ c0_0) (hr1 : Kd.C (Kd.int .i64) w A1 l1.length l1) (hc1 : l1.length ≤ c1) (h : spec_l01Words.f k l0_0 l1 = some r) :
  Calls Try.prog 58 #[.agg #[.slice A0_0 l0_0.length c0_0], .slice A1 l1.length c1] w fun e w' => e = .returned (.int .i64 r) ∧ Below w.heap.size w w' := by
 have hu26 := Try.underlying26
 have HR0_0 := Aside0.mk hr0_0
 have HC0_0 := Aside0.mk hc0_0
 clear hr0_0 hc0_0
 have HR1 := Aside0.mk hr1
 have HC1 := Aside0.mk hc1
 clear hr1 hc1
 have HB := Aside0.mk (Below.refl w.heap.size w)
 have H : ((spec_l01Is.f k l0_0).bind fun t102 => (if t102 = true then (spec_l01Words.l0 k l1 0 l0_0) else (some 1))) = some r := h
 clear h
 replace H := Option.bind_eq_some_iff.mp H
 obtain ⟨t102, A30, H⟩ := H
 replace H : (if t102 = true then (spec_l01Words.l0 k l1 0 l0_0) else (some 1)) = some r := H
 have A3 := Aside0.mk A30
 clear A30
 by_cases c4 : t102 = true
 rotate_left
 ·replace c4 := Bool.eq_false_iff.mpr c4
  subst c4
  have H1 : (some 1) = some r := by rw [if_neg (show ¬ (false = true) by decide)] at H; exact H
  clear H
  have H := H1
  clear H1
  obtain rfl := Option.some.inj H
  go_enter Try.func58, Try.ntmps58
  go_wp2_with (first | ((with_reducible refine gate_dst (N := 2) rfl ?_); refine bx_ (N := 2) (cs := #[.slice A0_0 l0_0.length c0_0]) (t := 26) rfl rfl ?_; intro gb101 hg w17 hbox hb; have n0_ := b1_ HB hb; have n1_ := Aside0.mk (hbox); have n2_ := ge_ hg HB; have n3_ := ge_ hg HB; clear HB; have HB := n0_; have BK101 := n1_; have GW101 := n2_; have GE101 := n3_; clear n0_ n1_ n2_ n3_ hb hbox hg; have hcz18_0 := hz_ BK101; have hfz18_0 := blk_frozen BK101.out 0) | ((with_reducible refine gate_callee (f := 67) rfl ?_); refine gl_ (some 7) rfl rfl Try.func67 #[.agg #[.slice A0_0 l0_0.length c0_0]] rfl ?_; (with_reducible refine (spec_l01Is.calls k _ _ l0_0 false _ ?side1 ?side2 A3.out).mono ?_); (case side1 => exact c2_ HR0_0 HB); (case side2 => exact HC0_0.out); rintro e w19 ⟨rfl, hb⟩; refine ⟨_, rfl, ?_⟩; replace BK101 := a2_ BK101 hb; replace HB := b1_ HB hb; (try clear hb); (try clear hb2); (try clear hk); (try clear hi)))
  go_ret
  exact ⟨t5_, gb_ HB.out⟩

 subst c4
 have H1 : (spec_l01Words.l0 k l1 0 l0_0) = some r := by rw [if_pos rfl] at H; exact H
 clear H
 have H := H1
 clear H1
 have H' := Aside0.mk H
 clear H
 go_enter Try.func58, Try.ntmps58
 go_wp2_with (first | ((with_reducible refine gate_dst (N := 2) rfl ?_); refine bx_ (N := 2) (cs := #[.slice A0_0 l0_0.length c0_0]) (t := 26) rfl rfl ?_; intro gb101 hg w5 hbox hb; have n0_ := b1_ HB hb; have n1_ := Aside0.mk (hbox); have n2_ := ge_ hg HB; have n3_ := ge_ hg HB; clear HB; have HB := n0_; have BK101 := n1_; have GW101 := n2_; have GE101 := n3_; clear n0_ n1_ n2_ n3_ hb hbox hg; have hcz6_0 := hz_ BK101; have hfz6_0 := blk_frozen BK101.out 0) | ((with_reducible refine gate_callee (f := 67) rfl ?_); refine gl_ (some 7) rfl rfl Try.func67 #[.agg #[.slice A0_0 l0_0.length c0_0]] rfl ?_; (with_reducible refine (spec_l01Is.calls k _ _ l0_0 true _ ?side1 ?side2 A3.out).mono ?_); (case side1 => exact c2_ HR0_0 HB); (case side2 => exact HC0_0.out); rintro e w7 ⟨rfl, hb⟩; refine ⟨_, rfl, ?_⟩; replace BK101 := a2_ BK101 hb; replace HB := b1_ HB hb; (try clear hb); (try clear hb2); (try clear hk); (try clear hi)))
 go_loopg [5] k (fun kq v5 w' => ∃ (x5_1 : Int), v5 = .int .i64 x5_1 ∧ Aside0 (spec_l01Words.l0 kq l1 x5_1 l0_0 = some r) ∧ Aside0 (kq ≤ k) ∧ Aside0 (w'.heap[gb101]? = some (.cells #[(.slice A0_0 l0_0.length c0_0)] 26 (0, 0))) ∧ Aside0 (Below w.heap.size w w'))
 case atStart => exact ⟨(0), t2_, H', ⟨Nat.le_refl _⟩, ⟨bb_ BK101.out⟩, ⟨gb_ HB.out⟩⟩
 clear H'
 try clear c1
 try clear p2
 try clear c4
 try clear c5
 try clear c6
 try clear hcz6_0
 try clear hfz6_0
 obtain ⟨x5_1, rfl, HA, HK1, BK101, HB⟩ := hrel
 obtain _ | k1 := gk
 ·exact absurd HA.out (by simp [spec_l01Words.l0])
 have H := HA.out
 clear HA
 simp only [spec_l01Words.l0] at H
 by_cases c8 : x5_1 < (l1.length : Int)
 rotate_left
 ·rw [if_neg c8] at H
  have c8b0 : decide (x5_1 < (l1.length : Int)) = false := decide_eq_false c8
  clear c8
  obtain rfl := Option.some.inj H
  go_wp2
  go_ret
  exact ⟨t5_, gb_ HB.out⟩
 rw [if_pos c8] at H
 have c8b0 : decide (x5_1 < (l1.length : Int)) = true := decide_eq_true c8
 clear c8
 by_cases c9 : 0 ≤ x5_1
 rotate_left
 ·rw [if_neg c9] at H
  exact absurd H (by simp)
 rw [if_pos c9] at H
 have c9b0 : decide (0 ≤ x5_1) = true := decide_eq_true c9
 clear c9
 replace H := Option.bind_eq_some_iff.mp H
 obtain ⟨t104, A100, H⟩ := H
 replace H : ((spec_l01In.f (rd l1 x5_1) 0 (wrap64 (t104 - 1))).bind fun t105 => (if t105 = true then (spec_l01Words.l0 k1 l1 (wrap64 (x5_1 + 1)) l0_0) else (some 2))) = some r := H
 have A10 := Aside0.mk A100
 clear A100
 replace H := Option.bind_eq_some_iff.mp H
 obtain ⟨t105, A110, H⟩ := H
 replace H : (if t105 = true then (spec_l01Words.l0 k1 l1 (wrap64 (x5_1 + 1)) l0_0) else (some 2)) = some r := H
 have A11 := Aside0.mk A110
 clear A110
 by_cases c12 : t105 = true
 rotate_left
 ·replace c12 := Bool.eq_false_iff.mpr c12
  subst c12
  have H1 : (some 2) = some r := by rw [if_neg (show ¬ (false = true) by decide)] at H; exact H
  clear H
  have H := H1
  clear H1
  obtain rfl := Option.some.inj H
  try go_wp2
  replace BK101 := Aside0.mk (blk_drew BK101.out)
  replace HB := Aside0.mk (below_drew1 HB.out)
  have p103 : 0 ≤ (x5_1 : Int) := of_decide_eq_true t6_
  have q103 : x5_1 < (l1.length : Int) := of_decide_eq_true t6_
  obtain ⟨ad103, e103, hx103_0⟩ := Kd.at_int HR1.out x5_1 p103 q103
  have hw103_0 := hx103_0
  cases e103
  replace hx103_0 := (HB.out.cell (World.block_lt_of_cell? _ _ hx103_0)).trans hx103_0
  replace p103 := eq_true p103
  replace q103 := eq_true q103
  refine start_ (n := 9) (S := fun w' => w'.cell? ⟨gb101, 0, none⟩ = some (.slice A0_0 l0_0.length c0_0) ∧ w'.cell? (ad103.add (x5_1).toNat) = some (.int .i64 (rd l1 x5_1))) (ds := []) #[false, false, false, false, false, false, false, false, false] (by kernel_rfl) rfl rfl ⟨(blk_cell BK101.out 0).trans rfl, ((HB.out.cell (World.block_lt_of_cell? _ _ hw103_0)).trans hw103_0)⟩ (fun hHeld => ?_); refine with_tabW spec_l01Words.tab6 spec_l01Words.bits6 (fun HT_ HW_ => ?_)
  generalize wr.drew = w15 at BK101 HB hx103_0 hHeld ⊢
  refine pu_ (i := 0) (N := some 15) (v := ?_) (a' := ?_) #[true, false, false, false, false, false, false, false, false] rfl rfl HT_ (Or.inl ⟨by rfl, ?_⟩) ?_ ?_
  rotate_left
  ·exact t7_
  rotate_left
  ·exact t4_
  refine pu_ (i := 1) (N := some 16) (v := ?_) (a' := ?_) #[true, true, false, false, false, false, false, false, false] rfl rfl HT_ (Or.inl ⟨by rfl, ?_⟩) ?_ ?_
  rotate_left
  ·exact t7_
  rotate_left
  ·exact t4_
  refine pu_ (i := 2) (N := some 17) (v := ?_) (a' := ?_) #[true, true, true, false, false, false, false, false, false] rfl rfl HT_ (Or.inl ⟨by rfl, ?_⟩) ?_ ?_
  rotate_left
  ·exact t7_
  rotate_left
  ·exact t4_
  refine tk_ (i := 3) (N := some 18) (v := ?_) (a' := ?_) #[true, true, true, true, false, false, false, false, false] rfl rfl HT_ HW_ (Or.inl ⟨by rfl, ?_⟩) hHeld ?_ ?_
  rotate_left
  ·rintro w' ⟨s0, s1⟩
   go_simp
   with_reducible rfl
  rotate_left
  ·exact t4_
  refine tk_ (i := 4) (N := some 19) (v := ?_) (a' := ?_) #[true, true, true, true, true, false, false, false, false] rfl rfl HT_ HW_ (Or.inl ⟨by rfl, ?_⟩) hHeld ?_ ?_
  rotate_left
  ·rintro w' ⟨s0, s1⟩
   go_simp
   with_reducible rfl
  rotate_left
  ·exact t4_
  refine on_ (i := 5) (N := some 20) #[true, true, true, true, true, true, false, false, false] rfl rfl HT_ (fun K hK => ?_)
  refine goes_ Try.func76 (by kernel_rfl) rfl #[.agg #[.slice A0_0 l0_0.length c0_0]] (by rfl) rfl rfl t1_ ?_
  with_reducible refine (spec_l01N.calls k1 _ _ l0_0 t104 _ ?side1 ?side2 A10.out).mono ?_
  (case side1 => exact c2_ HR0_0 HB)
  (case side2 => exact HC0_0.out)
  rintro e w16 ⟨rfl, hb⟩
  refine ⟨_, rfl, ?_⟩
  replace BK101 := a2_ BK101 hb
  replace HB := b1_ HB hb
  (try clear hb)
  (try clear hb2)
  (try clear hk)
  (try clear hi)
  refine hK.out _ _ ⟨(blk_cell BK101.out 0).trans rfl, ((HB.out.cell (World.block_lt_of_cell? _ _ hw103_0)).trans hw103_0)⟩ (fun hHeld => ?_)
  clear hK K
  refine norm_ (a' := ?_) ?_ ?_
  rotate_left
  ·show Act.put _ (some 20) _ = _
   simp only [Act.put, List.setIfInBounds_toArray, List.set_cons_zero, List.set_cons_succ, i64_w, i32_w]
   rfl
  refine pu_ (i := 6) (N := some 21) (v := ?_) (a' := ?_) #[true, true, true, true, true, true, true, false, false] rfl rfl HT_ (Or.inl ⟨by rfl, ?_⟩) ?_ ?_
  rotate_left
  ·exact t7_
  rotate_left
  ·exact t4_
  refine on_ (i := 7) (N := some 22) #[true, true, true, true, true, true, true, true, false] rfl rfl HT_ (fun K hK => ?_)
  refine goes_ Try.func84 (by kernel_rfl) rfl #[.int .i64 (rd l1 x5_1), .int .i64 0, .int .i64 (wrap64 (t104 - 1))] (by rfl) rfl rfl t1_ ?_
  with_reducible refine (spec_l01In.calls (rd l1 x5_1) 0 (wrap64 (t104 - 1)) false _ A11.out).mono ?_
  rintro e w' ⟨rfl, ⟨nd, rfl⟩⟩
  refine ⟨_, rfl, ?_⟩
  refine hK.out _ _ ⟨(blk_cell BK101.out 0).trans rfl, ((HB.out.cell (World.block_lt_of_cell? _ _ hw103_0)).trans hw103_0)⟩ (fun hHeld => ?_)
  clear hK K
  refine norm_ (a' := ?_) ?_ ?_
  rotate_left
  ·show Act.put _ (some 22) _ = _
   simp only [Act.put, List.setIfInBounds_toArray, List.set_cons_zero, List.set_cons_succ, i64_w, i32_w]
   rfl
  refine pu_ (i := 8) (N := some 23) (v := ?_) (a' := ?_) #[true, true, true, true, true, true, true, true, true] rfl rfl HT_ (Or.inl ⟨by rfl, ?_⟩) ?_ ?_
  rotate_left
  ·exact t7_
  rotate_left
  ·exact t4_
  refine done_ (done_of HT_.out (by kernel_rfl)) ?_
  try go_wp2
  go_ret
  exact ⟨t5_, gb_ HB.out⟩
 subst c12
 have H1 : (spec_l01Words.l0 k1 l1 (wrap64 (x5_1 + 1)) l0_0) = some r := by rw [if_pos rfl] at H; exact H
 clear H
 have H := H1
 clear H1
 have H' := Aside0.mk H
 clear H
 try go_wp2
 replace BK101 := Aside0.mk (blk_drew BK101.out)
 replace HB := Aside0.mk (below_drew1 HB.out)
 have p103 : 0 ≤ (x5_1 : Int) := of_decide_eq_true t6_
 have q103 : x5_1 < (l1.length : Int) := of_decide_eq_true t6_
 obtain ⟨ad103, e103, hx103_0⟩ := Kd.at_int HR1.out x5_1 p103 q103
 have hw103_0 := hx103_0
 cases e103
 replace hx103_0 := (HB.out.cell (World.block_lt_of_cell? _ _ hx103_0)).trans hx103_0
 replace p103 := eq_true p103
 replace q103 := eq_true q103
 refine start_ (n := 9) (S := fun w' => w'.cell? ⟨gb101, 0, none⟩ = some (.slice A0_0 l0_0.length c0_0) ∧ w'.cell? (ad103.add (x5_1).toNat) = some (.int .i64 (rd l1 x5_1))) (ds := []) #[false, false, false, false, false, false, false, false, false] (by kernel_rfl) rfl rfl ⟨(blk_cell BK101.out 0).trans rfl, ((HB.out.cell (World.block_lt_of_cell? _ _ hw103_0)).trans hw103_0)⟩ (fun hHeld => ?_); refine with_tabW spec_l01Words.tab6 spec_l01Words.bits6 (fun HT_ HW_ => ?_)
 generalize wr.drew = w13 at BK101 HB hx103_0 hHeld ⊢
 refine pu_ (i := 0) (N := some 15) (v := ?_) (a' := ?_) #[true, false, false, false, false, false, false, false, false] rfl rfl HT_ (Or.inl ⟨by rfl, ?_⟩) ?_ ?_
 rotate_left
 ·exact t7_
 rotate_left
 ·exact t4_
 refine pu_ (i := 1) (N := some 16) (v := ?_) (a' := ?_) #[true, true, false, false, false, false, false, false, false] rfl rfl HT_ (Or.inl ⟨by rfl, ?_⟩) ?_ ?_
 rotate_left
 ·exact t7_
 rotate_left
 ·exact t4_
 refine pu_ (i := 2) (N := some 17) (v := ?_) (a' := ?_) #[true, true, true, false, false, false, false, false, false] rfl rfl HT_ (Or.inl ⟨by rfl, ?_⟩) ?_ ?_
 rotate_left
 ·exact t7_
 rotate_left
 ·exact t4_
 refine tk_ (i := 3) (N := some 18) (v := ?_) (a' := ?_) #[true, true, true, true, false, false, false, false, false] rfl rfl HT_ HW_ (Or.inl ⟨by rfl, ?_⟩) hHeld ?_ ?_
 rotate_left
 ·rintro w' ⟨s0, s1⟩
  go_simp
  with_reducible rfl
 rotate_left
 ·exact t4_
 refine tk_ (i := 4) (N := some 19) (v := ?_) (a' := ?_) #[true, true, true, true, true, false, false, false, false] rfl rfl HT_ HW_ (Or.inl ⟨by rfl, ?_⟩) hHeld ?_ ?_
 rotate_left
 ·rintro w' ⟨s0, s1⟩
  go_simp
  with_reducible rfl
 rotate_left
 ·exact t4_
 refine on_ (i := 5) (N := some 20) #[true, true, true, true, true, true, false, false, false] rfl rfl HT_ (fun K hK => ?_)
 refine goes_ Try.func76 (by kernel_rfl) rfl #[.agg #[.slice A0_0 l0_0.length c0_0]] (by rfl) rfl rfl t1_ ?_
 with_reducible refine (spec_l01N.calls k1 _ _ l0_0 t104 _ ?side1 ?side2 A10.out).mono ?_
 (case side1 => exact c2_ HR0_0 HB)
 (case side2 => exact HC0_0.out)
 rintro e w14 ⟨rfl, hb⟩
 refine ⟨_, rfl, ?_⟩
 replace BK101 := a2_ BK101 hb
 replace HB := b1_ HB hb
 (try clear hb)
 (try clear hb2)
 (try clear hk)
 (try clear hi)
 refine hK.out _ _ ⟨(blk_cell BK101.out 0).trans rfl, ((HB.out.cell (World.block_lt_of_cell? _ _ hw103_0)).trans hw103_0)⟩ (fun hHeld => ?_)
 clear hK K
 refine norm_ (a' := ?_) ?_ ?_
 rotate_left
 ·show Act.put _ (some 20) _ = _
  simp only [Act.put, List.setIfInBounds_toArray, List.set_cons_zero, List.set_cons_succ, i64_w, i32_w]
  rfl
 refine pu_ (i := 6) (N := some 21) (v := ?_) (a' := ?_) #[true, true, true, true, true, true, true, false, false] rfl rfl HT_ (Or.inl ⟨by rfl, ?_⟩) ?_ ?_
 rotate_left
 ·exact t7_
 rotate_left
 ·exact t4_
 refine on_ (i := 7) (N := some 22) #[true, true, true, true, true, true, true, true, false] rfl rfl HT_ (fun K hK => ?_)
 refine goes_ Try.func84 (by kernel_rfl) rfl #[.int .i64 (rd l1 x5_1), .int .i64 0, .int .i64 (wrap64 (t104 - 1))] (by rfl) rfl rfl t1_ ?_
 with_reducible refine (spec_l01In.calls (rd l1 x5_1) 0 (wrap64 (t104 - 1)) true _ A11.out).mono ?_
 rintro e w' ⟨rfl, ⟨nd, rfl⟩⟩
 refine ⟨_, rfl, ?_⟩
 refine hK.out _ _ ⟨(blk_cell BK101.out 0).trans rfl, ((HB.out.cell (World.block_lt_of_cell? _ _ hw103_0)).trans hw103_0)⟩ (fun hHeld => ?_)
 clear hK K
 refine norm_ (a' := ?_) ?_ ?_
 rotate_left
 ·show Act.put _ (some 22) _ = _
  simp only [Act.put, List.setIfInBounds_toArray, List.set_cons_zero, List.set_cons_succ, i64_w, i32_w]
  rfl
 refine pu_ (i := 8) (N := some 23) (v := ?_) (a' := ?_) #[true, true, true, true, true, true, true, true, true] rfl rfl HT_ (Or.inl ⟨by rfl, ?_⟩) ?_ ?_
 rotate_left
 ·exact t7_
 rotate_left
 ·exact t4_
 refine done_ (done_of HT_.out (by kernel_rfl)) ?_
 try go_wp2
 go_roundg k1
 case measure => have := HK1.out; omega
 case rel => exact ⟨(wrap64 (x5_1 + 1)), t2_, H', ⟨by have := HK1.out; omega⟩, ⟨bb_ BK101.out⟩, ⟨gb_ HB.out⟩⟩
def spec_l01Own.f (l0 : List Int) : Option (List Int) := (some (([] : List Int) : List Int)).bind fun y101 => (if y101.length + l0.length < 17592186044416 then (some (y101 ++ l0)) else (none))
set_option maxHeartbeats 8000000 in
set_option maxRecDepth 100000 in
theorem spec_l01Own.calls (A0 : Option Addr) (c0 : Nat) (l0 : List Int) (r : List Int) (w : World) (hr0 : Kd.C (Kd.int .i64) w A0 l0.length l0) (hc0 : l0.length ≤ c0) (h : spec_l01Own.f l0 = some r) :
  Calls Try.prog 115 #[.slice A0 l0.length c0] w fun e w' => ∃ v0_ : Value, e = .returned (v0_) ∧ Kd.R (Kd.int .i64) 2 w' w.heap.size (fun _ => True) v0_ r ∧ Below w.heap.size w w' := by
 have HR0 := Aside0.mk hr0
 have HC0 := Aside0.mk hc0
 clear hr0 hc0
 have HB := Aside0.mk (Below.refl w.heap.size w)
 have H : ((some (([] : List Int) : List Int)).bind fun y101 => (if y101.length + l0.length < 17592186044416 then (some (y101 ++ l0)) else (none))) = some r := h
 clear h
 obtain ⟨y101, hy101⟩ : ∃ y_ : List Int, y_ = (([] : List Int)) := ⟨_, rfl⟩
 replace H : (if y101.length + l0.length < 17592186044416 then (some (y101 ++ l0)) else (none)) = some r := y_ H
 have Ny101 := Aside0.mk hy101
 clear hy101
 by_cases c2 : y101.length + l0.length < 17592186044416
 rotate_left
 ·rw [if_neg c2] at H
  exact absurd H (by simp)

 rw [if_pos c2] at H
 have LMc2 := Aside0.mk c2
 clear c2
 obtain ⟨y104, hy104⟩ : ∃ y_ : List Int, y_ = (y101 ++ l0) := ⟨_, rfl⟩
 replace H : (some y104) = some r := y_ H
 have Ny104 := Aside0.mk hy104
 clear hy104
 obtain rfl := Option.some.inj H
 go_enter Try.func115, Try.ntmps115
 go_wp2_with (first | ((with_reducible refine gate_dst (N := 3) rfl ?_); refine Kd.R_lit (Kd.int .i64) _ 2 ?hg (N := 3) ?hd (xs := ([] : List Int)) (inner := []) (ok := fun _ => True) (okp := fun _ => True) ?hr ?hp (fun _ hk => hk) trivial (Below.refl _ _) (Nat.le_refl _) (by simp) ?_; (case hd => rfl); (case hg => rfl); (case hr => exact t3_); (case hp => exact (Reps.none _ _)); intro v102 w3 ho4 hb hg_ hnew_; clear hg_ hnew_; (first | rw [← Ny101.out] at ho4 | (simp only [Int.reduceToNat] at ho4; rw [← Ny101.out] at ho4)); have n0_ := Aside0.mk (Kd.R_lower ho4 (below_size (gb_ HB.out))); have n1_ := b1_ HB hb; clear HB; have HO103 := n0_; have HB := n1_; clear n0_ n1_ hb ho4) | ((with_reducible refine gate_builtin (b := .append) (xs := #[.tmp 3, .tmp 4]) rfl ?_); at_builtin; refine Kd.R_append_rows (Kd.int .i64) (w0 := w) w.heap.size rfl (.tmp 3) (.tmp 4) 24 2 (.int .i64 0) 8 rfl Try.underlying24 info2 rfl (by decide) (by omega) v102 y101 l0 _ _ _ (fun _ => True) (fun _ => False) rfl rfl ?aO ?aR (fun _ _ h => h) (fun _ h => h.elim) ?aF ?aB ?aS ?aL ?_; (case aR => repeat (first | exact (Kd.C_below HR0.out HB.out) | (with_reducible refine Kd.C_alloc ?_ _) | (with_reducible refine Kd.C_drewN ?_ _) | (with_reducible refine Kd.C_drew ?_))); (case aB => exact (gb_ HB.out)); (case aF => exact (fun _ _ => trivial)); (case aO => exact (rb_ HO103.out)); (case aS => exact (below_size (gb_ HB.out))); (case aL => have := LMc2.out; omega); intro v105 w5 ho hb hg hat; rw [← Ny104.out] at ho; have n0_ := Aside0.mk (hb); have n1_ := Aside0.mk (ho); clear HB HO103; have HB := n0_; have HO106 := n1_; clear n0_ n1_ ho hb hg hat))
 go_ret
 exact ⟨_, t5_, rb_ HO106.out, gb_ HB.out⟩
def impl_areWords.l0 : Nat → Int → List Int → Int → Int → Option (Bool)
 | 0, _, _, _, _ => none
 | k + 1, x5, x10, x11, x12 => if x12 < x11 then (if 0 ≤ x12 then (if x12 < (x10.length : Int) then (if (rd x10 x12) < 0 then (some false) else (if (rd x10 x12) ≥ x5 then (some false) else (impl_areWords.l0 k x5 x10 x11 (wrap64 (x12 + 1))))) else (none)) else (none)) else (some true)
def impl_areWords.f (k : Nat) (l0_0 : List Int) (l1 : List Int) : Option (Bool) := (impl_count.f k l0_0).bind fun t102 => (impl_areWords.l0 k t102 l1 (l1.length : Int) 0)
set_option maxHeartbeats 8000000 in
set_option maxRecDepth 100000 in
theorem impl_areWords.calls (k : Nat) (A0_0 : Option Addr) (c0_0 : Nat) (l0_0 : List Int) (A1 : Option Addr) (c1 : Nat) (l1 : List Int) (r : Bool) (w : World) (hr0_0 : Kd.C (Kd.int .i64) w A0_0 l0_0.length l0_0) (hc0_0 : l0_0.length ≤ c0_0) (hr1 : Kd.C (Kd.int .i64) w A1 l1.length l1) (hc1 : l1.length ≤ c1) (h : impl_areWords.f k l0_0 l1 = some r) :
  Calls Try.prog 110 #[.agg #[.slice A0_0 l0_0.length c0_0], .slice A1 l1.length c1] w fun e w' => e = .returned (.bool r) ∧ Below w.heap.size w w' := by
 have hu26 := Try.underlying26
 have HR0_0 := Aside0.mk hr0_0
 have HC0_0 := Aside0.mk hc0_0
 clear hr0_0 hc0_0
 have HR1 := Aside0.mk hr1
 have HC1 := Aside0.mk hc1
 clear hr1 hc1
 have HB := Aside0.mk (Below.refl w.heap.size w)
 have H : ((impl_count.f k l0_0).bind fun t102 => (impl_areWords.l0 k t102 l1 (l1.length : Int) 0)) = some r := h
 clear h
 replace H := Option.bind_eq_some_iff.mp H
 obtain ⟨t102, A30, H⟩ := H
 replace H : (impl_areWords.l0 k t102 l1 (l1.length : Int) 0) = some r := H
 have A3 := Aside0.mk A30
 clear A30
 have H' := Aside0.mk H
 clear H
 go_enter Try.func110, Try.ntmps110
 go_wp2_with (first | ((with_reducible refine gate_dst (N := 2) rfl ?_); refine bx_ (N := 2) (cs := #[.slice A0_0 l0_0.length c0_0]) (t := 26) rfl rfl ?_; intro gb101 hg w4 hbox hb; have n0_ := b1_ HB hb; have n1_ := Aside0.mk (hbox); have n2_ := ge_ hg HB; have n3_ := ge_ hg HB; clear HB; have HB := n0_; have BK101 := n1_; have GW101 := n2_; have GE101 := n3_; clear n0_ n1_ n2_ n3_ hb hbox hg; have hcz5_0 := hz_ BK101; have hfz5_0 := blk_frozen BK101.out 0) | ((with_reducible refine gate_callee (f := 124) rfl ?_); refine gl_ (some 9) rfl rfl Try.func124 #[.agg #[.slice A0_0 l0_0.length c0_0]] rfl ?_; (with_reducible refine (impl_count.calls k _ _ l0_0 t102 _ ?side1 ?side2 A3.out).mono ?_); (case side1 => exact c2_ HR0_0 HB); (case side2 => exact HC0_0.out); rintro e w6 ⟨rfl, hb⟩; refine ⟨_, rfl, ?_⟩; replace BK101 := a2_ BK101 hb; replace HB := b1_ HB hb; (try clear hb); (try clear hb2); (try clear hk); (try clear hi)))
 go_loopg [12] k (fun kq v12 w' => ∃ (x12_1 : Int), v12 = .int .i64 x12_1 ∧ Aside0 (impl_areWords.l0 kq t102 l1 (l1.length : Int) x12_1 = some r) ∧ Aside0 (kq ≤ k) ∧ Aside0 (w'.heap[gb101]? = some (.cells #[(.slice A0_0 l0_0.length c0_0)] 26 (0, 0))) ∧ Aside0 (Below w.heap.size w w'))
 case atStart => exact ⟨(0), t2_, H', ⟨Nat.le_refl _⟩, ⟨bb_ BK101.out⟩, ⟨gb_ HB.out⟩⟩
 clear H'
 try clear c1
 try clear p2
 try clear hcz5_0
 try clear hfz5_0
 obtain ⟨x12_1, rfl, HA, HK1, BK101, HB⟩ := hrel
 obtain _ | k1 := gk
 ·exact absurd HA.out (by simp [impl_areWords.l0])
 have H := HA.out
 clear HA
 simp only [impl_areWords.l0] at H
 by_cases c7 : x12_1 < (l1.length : Int)
 rotate_left
 ·rw [if_neg c7] at H
  have c7b0 : decide (x12_1 < (l1.length : Int)) = false := decide_eq_false c7
  clear c7
  obtain rfl := Option.some.inj H
  go_wp2
  go_ret
  exact ⟨t5_, gb_ HB.out⟩

 rw [if_pos c7] at H
 have c7b0 : decide (x12_1 < (l1.length : Int)) = true := decide_eq_true c7
 clear c7
 by_cases c8 : 0 ≤ x12_1
 rotate_left
 ·rw [if_neg c8] at H
  exact absurd H (by simp)
 rw [if_pos c8] at H
 have c8b0 : decide (0 ≤ x12_1) = true := decide_eq_true c8
 clear c8
 by_cases c9 : x12_1 < (l1.length : Int)
 rotate_left
 ·rw [if_neg c9] at H
  exact absurd H (by simp)
 rw [if_pos c9] at H
 have c9b0 : decide (x12_1 < (l1.length : Int)) = true := decide_eq_true c9
 clear c9
 by_cases c10 : (rd l1 x12_1) < 0
 ·rw [if_pos c10] at H
  have c10b0 : decide ((rd l1 x12_1) < 0) = true := decide_eq_true c10
  clear c10
  obtain rfl := Option.some.inj H
  have p103 : 0 ≤ (x12_1 : Int) := of_decide_eq_true t6_
  have q103 : x12_1 < (l1.length : Int) := of_decide_eq_true t6_
  obtain ⟨ad103, e103, hx103_0⟩ := Kd.at_int HR1.out x12_1 p103 q103
  cases e103
  replace hx103_0 := (HB.out.cell (World.block_lt_of_cell? _ _ hx103_0)).trans hx103_0
  replace p103 := eq_true p103
  replace q103 := eq_true q103
  go_wp2
  go_ret
  exact ⟨t5_, gb_ HB.out⟩
 rw [if_neg c10] at H
 have c10b0 : decide ((rd l1 x12_1) < 0) = false := decide_eq_false c10
 clear c10
 by_cases c11 : (rd l1 x12_1) ≥ t102
 ·rw [if_pos c11] at H
  have c11b0 : decide (t102 ≤ (rd l1 x12_1)) = true := decide_eq_true c11
  clear c11
  obtain rfl := Option.some.inj H
  have p103 : 0 ≤ (x12_1 : Int) := of_decide_eq_true t6_
  have q103 : x12_1 < (l1.length : Int) := of_decide_eq_true t6_
  obtain ⟨ad103, e103, hx103_0⟩ := Kd.at_int HR1.out x12_1 p103 q103
  cases e103
  replace hx103_0 := (HB.out.cell (World.block_lt_of_cell? _ _ hx103_0)).trans hx103_0
  replace p103 := eq_true p103
  replace q103 := eq_true q103
  go_wp2
  go_ret
  exact ⟨t5_, gb_ HB.out⟩
 rw [if_neg c11] at H
 have c11b0 : decide (t102 ≤ (rd l1 x12_1)) = false := decide_eq_false c11
 clear c11
 have H' := Aside0.mk H
 clear H
 have p103 : 0 ≤ (x12_1 : Int) := of_decide_eq_true t6_
 have q103 : x12_1 < (l1.length : Int) := of_decide_eq_true t6_
 obtain ⟨ad103, e103, hx103_0⟩ := Kd.at_int HR1.out x12_1 p103 q103
 cases e103
 replace hx103_0 := (HB.out.cell (World.block_lt_of_cell? _ _ hx103_0)).trans hx103_0
 replace p103 := eq_true p103
 replace q103 := eq_true q103
 go_wp2
 go_roundg k1
 case measure => have := HK1.out; omega
 case rel => exact ⟨(wrap64 (x12_1 + 1)), t2_, H', ⟨by have := HK1.out; omega⟩, ⟨bb_ BK101.out⟩, ⟨gb_ HB.out⟩⟩
def impl_wordCode.f (k : Nat) (l0_0 : List Int) (l1 : List Int) : Option (Int) := (impl_IsSpace.f k l0_0).bind fun t102 => (if t102 = true then ((impl_areWords.f k l0_0 l1).bind fun t103 => (if t103 = true then (some 0) else (some 2))) else (some 1))
set_option maxHeartbeats 8000000 in
set_option maxRecDepth 100000 in
theorem impl_wordCode.calls (k : Nat) (A0_0 : Option Addr) (c0_0 : Nat) (l0_0 : List Int) (A1 : Option Addr) (c1 : Nat) (l1 : List Int) (r : Int) (w : World) (hr0_0 : Kd.C (Kd.int .i64) w A0_0 l0_0.length l0_0) (hc0_0 : l0_0.length ≤ c0_0) (hr1 : Kd.C (Kd.int .i64) w A1 l1.length l1) (hc1 : l1.length ≤ c1) (h : impl_wordCode.f k l0_0 l1 = some r) :
  Calls Try.prog 56 #[.agg #[.slice A0_0 l0_0.length c0_0], .slice A1 l1.length c1] w fun e w' => e = .returned (.int .i64 r) ∧ Below w.heap.size w w' := by
 have hu26 := Try.underlying26
 have HR0_0 := Aside0.mk hr0_0
 have HC0_0 := Aside0.mk hc0_0
 clear hr0_0 hc0_0
 have HR1 := Aside0.mk hr1
 have HC1 := Aside0.mk hc1
 clear hr1 hc1
 have HB := Aside0.mk (Below.refl w.heap.size w)
 have H : ((impl_IsSpace.f k l0_0).bind fun t102 => (if t102 = true then ((impl_areWords.f k l0_0 l1).bind fun t103 => (if t103 = true then (some 0) else (some 2))) else (some 1))) = some r := h
 clear h
 replace H := Option.bind_eq_some_iff.mp H
 obtain ⟨t102, A30, H⟩ := H
 replace H : (if t102 = true then ((impl_areWords.f k l0_0 l1).bind fun t103 => (if t103 = true then (some 0) else (some 2))) else (some 1)) = some r := H
 have A3 := Aside0.mk A30
 clear A30
 by_cases c4 : t102 = true
 rotate_left
 ·replace c4 := Bool.eq_false_iff.mpr c4
  subst c4
  have H1 : (some 1) = some r := by rw [if_neg (show ¬ (false = true) by decide)] at H; exact H
  clear H
  have H := H1
  clear H1
  obtain rfl := Option.some.inj H
  go_enter Try.func56, Try.ntmps56
  go_wp2_with (first | ((with_reducible refine gate_dst (N := 2) rfl ?_); refine bx_ (N := 2) (cs := #[.slice A0_0 l0_0.length c0_0]) (t := 26) rfl rfl ?_; intro gb101 hg w17 hbox hb; have n0_ := b1_ HB hb; have n1_ := Aside0.mk (hbox); have n2_ := ge_ hg HB; have n3_ := ge_ hg HB; clear HB; have HB := n0_; have BK101 := n1_; have GW101 := n2_; have GE101 := n3_; clear n0_ n1_ n2_ n3_ hb hbox hg; have hcz18_0 := hz_ BK101; have hfz18_0 := blk_frozen BK101.out 0) | ((with_reducible refine gate_callee (f := 19) rfl ?_); refine gl_ (some 7) rfl rfl Try.func19 #[.agg #[.slice A0_0 l0_0.length c0_0]] rfl ?_; (with_reducible refine (impl_IsSpace.calls k _ _ l0_0 false _ ?side1 ?side2 A3.out).mono ?_); (case side1 => exact c2_ HR0_0 HB); (case side2 => exact HC0_0.out); rintro e w19 ⟨rfl, hb⟩; refine ⟨_, rfl, ?_⟩; replace BK101 := a2_ BK101 hb; replace HB := b1_ HB hb; (try clear hb); (try clear hb2); (try clear hk); (try clear hi)))
  go_ret
  exact ⟨t5_, gb_ HB.out⟩

 subst c4
 have H1 : ((impl_areWords.f k l0_0 l1).bind fun t103 => (if t103 = true then (some 0) else (some 2))) = some r := by rw [if_pos rfl] at H; exact H
 clear H
 have H := H1
 clear H1
 replace H := Option.bind_eq_some_iff.mp H
 obtain ⟨t103, A50, H⟩ := H
 replace H : (if t103 = true then (some 0) else (some 2)) = some r := H
 have A5 := Aside0.mk A50
 clear A50
 by_cases c6 : t103 = true
 ·subst c6
  have H1 : (some 0) = some r := by rw [if_pos rfl] at H; exact H
  clear H
  have H := H1
  clear H1
  obtain rfl := Option.some.inj H
  go_enter Try.func56, Try.ntmps56
  go_wp2_with (first | ((with_reducible refine gate_dst (N := 2) rfl ?_); refine bx_ (N := 2) (cs := #[.slice A0_0 l0_0.length c0_0]) (t := 26) rfl rfl ?_; intro gb101 hg w7 hbox hb; have n0_ := b1_ HB hb; have n1_ := Aside0.mk (hbox); have n2_ := ge_ hg HB; have n3_ := ge_ hg HB; clear HB; have HB := n0_; have BK101 := n1_; have GW101 := n2_; have GE101 := n3_; clear n0_ n1_ n2_ n3_ hb hbox hg; have hcz8_0 := hz_ BK101; have hfz8_0 := blk_frozen BK101.out 0) | ((with_reducible refine gate_callee (f := 19) rfl ?_); refine gl_ (some 7) rfl rfl Try.func19 #[.agg #[.slice A0_0 l0_0.length c0_0]] rfl ?_; (with_reducible refine (impl_IsSpace.calls k _ _ l0_0 true _ ?side1 ?side2 A3.out).mono ?_); (case side1 => exact c2_ HR0_0 HB); (case side2 => exact HC0_0.out); rintro e w9 ⟨rfl, hb⟩; refine ⟨_, rfl, ?_⟩; replace BK101 := a2_ BK101 hb; replace HB := b1_ HB hb; (try clear hb); (try clear hb2); (try clear hk); (try clear hi); have hcz10_0 := hz_ BK101; have hfz10_0 := blk_frozen BK101.out 0) | ((with_reducible refine gate_callee (f := 110) rfl ?_); refine gl_ (some 12) rfl rfl Try.func110 #[.agg #[.slice A0_0 l0_0.length c0_0], .slice A1 l1.length c1] rfl ?_; (with_reducible refine (impl_areWords.calls k _ _ l0_0 _ _ l1 true _ ?side1 ?side2 ?side3 ?side4 A5.out).mono ?_); (case side1 => exact c2_ HR0_0 HB); (case side2 => exact HC0_0.out); (case side3 => exact c2_ HR1 HB); (case side4 => exact HC1.out); rintro e w11 ⟨rfl, hb⟩; refine ⟨_, rfl, ?_⟩; replace BK101 := a2_ BK101 hb; replace HB := b1_ HB hb; (try clear hb); (try clear hb2); (try clear hk); (try clear hi)))
  go_ret
  exact ⟨t5_, gb_ HB.out⟩
 replace c6 := Bool.eq_false_iff.mpr c6
 subst c6
 have H1 : (some 2) = some r := by rw [if_neg (show ¬ (false = true) by decide)] at H; exact H
 clear H
 have H := H1
 clear H1
 obtain rfl := Option.some.inj H
 go_enter Try.func56, Try.ntmps56
 go_wp2_with (first | ((with_reducible refine gate_dst (N := 2) rfl ?_); refine bx_ (N := 2) (cs := #[.slice A0_0 l0_0.length c0_0]) (t := 26) rfl rfl ?_; intro gb101 hg w12 hbox hb; have n0_ := b1_ HB hb; have n1_ := Aside0.mk (hbox); have n2_ := ge_ hg HB; have n3_ := ge_ hg HB; clear HB; have HB := n0_; have BK101 := n1_; have GW101 := n2_; have GE101 := n3_; clear n0_ n1_ n2_ n3_ hb hbox hg; have hcz13_0 := hz_ BK101; have hfz13_0 := blk_frozen BK101.out 0) | ((with_reducible refine gate_callee (f := 19) rfl ?_); refine gl_ (some 7) rfl rfl Try.func19 #[.agg #[.slice A0_0 l0_0.length c0_0]] rfl ?_; (with_reducible refine (impl_IsSpace.calls k _ _ l0_0 true _ ?side1 ?side2 A3.out).mono ?_); (case side1 => exact c2_ HR0_0 HB); (case side2 => exact HC0_0.out); rintro e w14 ⟨rfl, hb⟩; refine ⟨_, rfl, ?_⟩; replace BK101 := a2_ BK101 hb; replace HB := b1_ HB hb; (try clear hb); (try clear hb2); (try clear hk); (try clear hi); have hcz15_0 := hz_ BK101; have hfz15_0 := blk_frozen BK101.out 0) | ((with_reducible refine gate_callee (f := 110) rfl ?_); refine gl_ (some 12) rfl rfl Try.func110 #[.agg #[.slice A0_0 l0_0.length c0_0], .slice A1 l1.length c1] rfl ?_; (with_reducible refine (impl_areWords.calls k _ _ l0_0 _ _ l1 false _ ?side1 ?side2 ?side3 ?side4 A5.out).mono ?_); (case side1 => exact c2_ HR0_0 HB); (case side2 => exact HC0_0.out); (case side3 => exact c2_ HR1 HB); (case side4 => exact HC1.out); rintro e w16 ⟨rfl, hb⟩; refine ⟨_, rfl, ?_⟩; replace BK101 := a2_ BK101 hb; replace HB := b1_ HB hb; (try clear hb); (try clear hb2); (try clear hk); (try clear hi)))
 go_ret
 exact ⟨t5_, gb_ HB.out⟩
def spec_l01Digits.l0 : Nat → Int → List Int → Int → List Int → Option (List Int)
 | 0, _, _, _, _ => none
 | k + 1, x1, x5, x6, x102000 => if x6 ≥ 0 then (if 0 ≤ x6 then (if x6 < (x102000.length : Int) then (if (rd x102000 x6) = 0 then (none) else (if x6 < (x5.length : Int) then (spec_l01Digits.l0 k (wrap64 (Int.tdiv x1 (rd x102000 x6))) (x5.set (x6 : Int).toNat (Int.tmod x1 (rd x102000 x6))) (wrap64 (x6 - 1)) x102000) else (none))) else (none)) else (none)) else (some x5)
def spec_l01Digits.f (k : Nat) (l0_0 : List Int) (a1 : Int) : Option (List Int) := if 0 ≤ (l0_0.length : Int) then (if ((l0_0.length : Int) : Int).toNat ≤ 35184372088832 then (spec_l01Digits.l0 k a1 (List.replicate ((l0_0.length : Int) : Int).toNat 0) (wrap64 ((l0_0.length : Int) - 1)) l0_0) else (none)) else (none)
set_option maxHeartbeats 8000000 in
set_option maxRecDepth 100000 in
theorem spec_l01Digits.calls (k : Nat) (A0_0 : Option Addr) (c0_0 : Nat) (l0_0 : List Int) (a1 : Int) (r : List Int) (w : World) (hr0_0 : Kd.C (Kd.int .i64) w A0_0 l0_0.length l0_0) (hc0_0 : l0_0.length ≤ c0_0) (h : spec_l01Digits.f k l0_0 a1 = some r) :
  Calls Try.prog 65 #[.agg #[.slice A0_0 l0_0.length c0_0], .int .i64 a1] w fun e w' => ∃ v0_ : Value, e = .returned (v0_) ∧ Kd.R (Kd.int .i64) 2 w' w.heap.size (fun _ => True) v0_ r ∧ Below w.heap.size w w' := by
 have hu26 := Try.underlying26
 have HR0_0 := Aside0.mk hr0_0
 have HC0_0 := Aside0.mk hc0_0
 clear hr0_0 hc0_0
 have HB := Aside0.mk (Below.refl w.heap.size w)
 have H : (if 0 ≤ (l0_0.length : Int) then (if ((l0_0.length : Int) : Int).toNat ≤ 35184372088832 then (spec_l01Digits.l0 k a1 (List.replicate ((l0_0.length : Int) : Int).toNat 0) (wrap64 ((l0_0.length : Int) - 1)) l0_0) else (none)) else (none)) = some r := h
 clear h
 by_cases c3 : 0 ≤ (l0_0.length : Int)
 rotate_left
 ·rw [if_neg c3] at H
  exact absurd H (by simp)

 rw [if_pos c3] at H
 have c3b0 := eq_true c3
 have c3b1 : decide (0 ≤ (l0_0.length : Int)) = true := decide_eq_true c3
 clear c3
 by_cases c4 : ((l0_0.length : Int) : Int).toNat ≤ 35184372088832
 rotate_left
 ·rw [if_neg c4] at H
  exact absurd H (by simp)
 rw [if_pos c4] at H
 have c4b0 := eq_true c4
 have c4b1 : decide (((l0_0.length : Int) : Int).toNat ≤ 35184372088832) = true := decide_eq_true c4
 clear c4
 obtain ⟨y102, hy102⟩ : ∃ y_ : List Int, y_ = (List.replicate ((l0_0.length : Int) : Int).toNat 0) := ⟨_, rfl⟩
 replace H : (spec_l01Digits.l0 k a1 y102 (wrap64 ((l0_0.length : Int) - 1)) l0_0) = some r := y_ H
 have Ny102 := Aside0.mk hy102
 clear hy102
 have H' := Aside0.mk H
 clear H
 go_enter Try.func65, Try.ntmps65
 go_wp2_with (first | ((with_reducible refine gate_dst (N := 2) rfl ?_); refine bx_ (N := 2) (cs := #[.slice A0_0 l0_0.length c0_0]) (t := 26) rfl rfl ?_; intro gb101 hg w5 hbox hb; have n0_ := b1_ HB hb; have n1_ := Aside0.mk (hbox); have n2_ := ge_ hg HB; have n3_ := ge_ hg HB; clear HB; have HB := n0_; have BK101 := n1_; have GW101 := n2_; have GE101 := n3_; clear n0_ n1_ n2_ n3_ hb hbox hg; have hcz6_0 := hz_ BK101; have hfz6_0 := blk_frozen BK101.out 0) | ((with_reducible refine gate_dst (N := 10) rfl ?_); refine Kd.R_make (Kd.int .i64) _ 2 rfl (N := 10) rfl 24 _ _ rfl (l0_0.length : Int) rfl rfl Try.underlying24 (.int .i64 0) 8 info2 rfl (by decide) (by omega) 0 (ok := fun _ => True) (okp := fun _ => True) rfl (fun _ hk => hk) trivial (of_decide_eq_true t6_) (Nat.le_trans (Nat.mul_le_mul_right _ (of_decide_eq_true t6_ : (l0_0.length : Int).toNat ≤ 35184372088832)) (by omega)) (Below.refl _ _) (Nat.le_refl _) ?_; intro v103 w7 ho8 hb hg_ hnew_; clear hg_ hnew_; (first | rw [← Ny102.out] at ho8 | (simp only [Int.reduceToNat] at ho8; rw [← Ny102.out] at ho8)); have n0_ := Aside0.mk (Kd.R_lower ho8 (below_size (gb_ HB.out))); have n1_ := a2_ BK101 hb; have n2_ := b1_ HB hb; clear BK101 HB; have HO104 := n0_; have BK101 := n1_; have HB := n2_; clear n0_ n1_ n2_ hb ho8; have hcz9_0 := hz_ BK101; have hfz9_0 := blk_frozen BK101.out 0))
 go_loopg [1, 6] k (fun kq v1 v6 w' => ∃ (x1_1 : Int) (x5_1 : List Int) (x6_1 : Int), v1 = .int .i64 x1_1 ∧ v6 = .int .i64 x6_1 ∧ Aside0 (spec_l01Digits.l0 kq x1_1 x5_1 x6_1 l0_0 = some r) ∧ Aside0 (kq ≤ k) ∧ Aside0 (Kd.R (Kd.int .i64) 2 w' w.heap.size (fun _ => True) v103 x5_1) ∧ Aside0 (w'.heap[gb101]? = some (.cells #[(.slice A0_0 l0_0.length c0_0)] 26 (0, 0))) ∧ Aside0 (Below w.heap.size w w'))
 case atStart => exact ⟨(a1), (y102), (wrap64 ((l0_0.length : Int) - 1)), t2_, t2_, H', ⟨Nat.le_refl _⟩, ⟨rb_ HO104.out⟩, ⟨bb_ BK101.out⟩, ⟨gb_ HB.out⟩⟩
 clear H'
 try clear p2
 try clear c3
 try clear c3b0
 try clear c3b1
 try clear c4
 try clear c4b0
 try clear c4b1
 try clear c6
 try clear p6
 try clear hcz6_0
 try clear hcz9_0
 try clear hfz6_0
 try clear hfz9_0
 obtain ⟨x1_1, x5_1, x6_1, rfl, rfl, HA, HK1, HO_5, BK101, HB⟩ := hrel
 obtain _ | k1 := gk
 ·exact absurd HA.out (by simp [spec_l01Digits.l0])
 have H := HA.out
 clear HA
 simp only [spec_l01Digits.l0] at H
 by_cases c10 : x6_1 ≥ 0
 rotate_left
 ·rw [if_neg c10] at H
  have c10b0 : decide (0 ≤ x6_1) = false := decide_eq_false c10
  clear c10
  obtain rfl := Option.some.inj H
  go_wp2
  go_ret
  exact ⟨_, t5_, rb_ HO_5.out, gb_ HB.out⟩
 rw [if_pos c10] at H
 have c10b0 : decide (0 ≤ x6_1) = true := decide_eq_true c10
 clear c10
 by_cases c11 : 0 ≤ x6_1
 rotate_left
 ·rw [if_neg c11] at H
  exact absurd H (by simp)
 rw [if_pos c11] at H
 have c11b0 : decide (0 ≤ x6_1) = true := decide_eq_true c11
 clear c11
 by_cases c12 : x6_1 < (l0_0.length : Int)
 rotate_left
 ·rw [if_neg c12] at H
  exact absurd H (by simp)
 rw [if_pos c12] at H
 have c12b0 : decide (x6_1 < (l0_0.length : Int)) = true := decide_eq_true c12
 clear c12
 by_cases c13 : (rd l0_0 x6_1) = 0
 ·rw [if_pos c13] at H
  exact absurd H (by simp)
 rw [if_neg c13] at H
 have c13b0 : ((rd l0_0 x6_1) == 0) = false := beq_eq_false_iff_ne.mpr c13
 have c13b1 : ((rd l0_0 x6_1) != 0) = true := bne_iff_ne.mpr c13
 by_cases c14 : x6_1 < (x5_1.length : Int)
 rotate_left
 ·rw [if_neg c14] at H
  exact absurd H (by simp)
 rw [if_pos c14] at H
 have c14b0 : decide (x6_1 < (x5_1.length : Int)) = true := decide_eq_true c14
 clear c14
 obtain ⟨y106, hy106⟩ : ∃ y_ : List Int, y_ = (x5_1.set (x6_1 : Int).toNat (Int.tmod x1_1 (rd l0_0 x6_1))) := ⟨_, rfl⟩
 replace H : (spec_l01Digits.l0 k1 (wrap64 (Int.tdiv x1_1 (rd l0_0 x6_1))) y106 (wrap64 (x6_1 - 1)) l0_0) = some r := y_ H
 have Ny106 := Aside0.mk hy106
 clear hy106
 have H' := Aside0.mk H
 clear H
 have hcz16_0 := hz_ BK101
 have hfz16_0 := blk_frozen BK101.out 0
 have p105 : 0 ≤ (x6_1 : Int) := of_decide_eq_true t6_
 have q105 : x6_1 < (l0_0.length : Int) := of_decide_eq_true t6_
 obtain ⟨ad105, e105, hx105_0⟩ := Kd.at_int HR0_0.out x6_1 p105 q105
 cases e105
 replace hx105_0 := (HB.out.cell (World.block_lt_of_cell? _ _ hx105_0)).trans hx105_0
 replace p105 := eq_true p105
 replace q105 := eq_true q105
 have p15 : 0 ≤ (x6_1 : Int) := of_decide_eq_true t6_
 have q15 : (x6_1 : Int) < ((x5_1.length : Int) : Int) := of_decide_eq_true t6_
 obtain ⟨go15, co15, eo15, gb15, gl15, cl15, HG15⟩ := Kd.R_form HO_5.out (by omega)
 (first | cases eo15 | (injection eo15 with ea_ en_ ec_; (first | subst ea_ | (injection ea_ with ea_; subst ea_)); subst ec_; clear en_))
 have GB15 := Aside0.mk gb15
 have GG15 := Aside0.mk HG15
 clear gb15 gl15 HG15
 obtain ⟨hx15_0, hf15_0⟩ := Kd.R_celln 0 HO_5.out (x6_1 : Int) p15 q15
 replace p15 := eq_true p15
 replace q15 := eq_true q15
 have HP17 := Kd.R_putg HO_5.out (x6_1 : Int) (Int.tmod x1_1 (rd l0_0 x6_1))
 go_wp2_with (first | ((with_reducible refine gate_store (t := 2) (p := 28) rfl ?_); refine store_event (t := 2) (p := 28) (v := ?vo_w18) (w1 := (wr.setCell ⟨go15, (x6_1 : Int).toNat, none⟩ (.int .i64 (Int.tmod x1_1 (rd l0_0 x6_1))))) ?hg ?ho ?hn ?hr ?_; (case ho => rfl); (case hg => rfl); (case hn => rfl); (case hr => exact t3_); intro w18 hw; have hg : wr.grownBy w18 (some go15) := (by rw [hw]; exact HP17.2); have hp_ : Kd.R (Kd.int .i64) 2 w18 w.heap.size (fun _ => True) (.slice (some ⟨go15, 0, none⟩) x5_1.length co15) y106 := (by rw [hw, Ny106.out]; exact HP17.1); clear HP17; have n0_ := Aside0.mk (hp_); have n1_ := Aside0.mk (blk_grown (g := gb101) (o := .cells #[.slice (some ad105) l0_0.length c0_0] 26 (0, 0)) (bb_ BK101.out) hg (Kd.R_ne HO_5.out BK101.out (by decide))); have n2_ := Aside0.mk ((by rw [hw]; exact below_set (HB.out) GB15.out : Below w.heap.size w w18)); clear HO_5 BK101 HB; have HO_5 := n0_; have BK101 := n1_; have HB := n2_; clear n0_ n1_ n2_ hg hw hp_; have hcz19_0 := hz_ BK101; have hfz19_0 := blk_frozen BK101.out 0; have p107 : 0 ≤ (x6_1 : Int) := of_decide_eq_true t6_; have q107 : x6_1 < (l0_0.length : Int) := of_decide_eq_true t6_; obtain ⟨ad107, e107, hx107_0⟩ := Kd.at_int HR0_0.out x6_1 p107 q107; obtain rfl : ad105 = ad107 := (by injection e107); replace hx107_0 := (HB.out.cell (World.block_lt_of_cell? _ _ hx107_0)).trans hx107_0; replace p107 := eq_true p107; replace q107 := eq_true q107))
 go_roundg k1
 case measure => have := HK1.out; omega
 case rel => exact ⟨(wrap64 (Int.tdiv x1_1 (rd l0_0 x6_1))), (y106), (wrap64 (x6_1 - 1)), t2_, t2_, H', ⟨by have := HK1.out; omega⟩, ⟨rb_ HO_5.out⟩, ⟨bb_ BK101.out⟩, ⟨gb_ HB.out⟩⟩
def spec_l01Word.l0 : Nat → List Int → Int → Int → List Int → Option (Int)
 | 0, _, _, _, _ => none
 | k + 1, x1, x5, x6, x102000 => if x6 < (x1.length : Int) then (if 0 ≤ x6 then (if x6 < (x102000.length : Int) then (spec_l01Word.l0 k x1 (wrap64 ((wrap64 (x5 * (rd x102000 x6))) + (rd x1 x6))) (wrap64 (x6 + 1)) x102000) else (none)) else (none)) else (some x5)
def spec_l01Word.f (k : Nat) (l0_0 : List Int) (l1 : List Int) : Option (Int) := spec_l01Word.l0 k l1 0 0 l0_0
set_option maxHeartbeats 8000000 in
set_option maxRecDepth 100000 in
theorem spec_l01Word.calls (k : Nat) (A0_0 : Option Addr) (c0_0 : Nat) (l0_0 : List Int) (A1 : Option Addr) (c1 : Nat) (l1 : List Int) (r : Int) (w : World) (hr0_0 : Kd.C (Kd.int .i64) w A0_0 l0_0.length l0_0) (hc0_0 : l0_0.length ≤ c0_0) (hr1 : Kd.C (Kd.int .i64) w A1 l1.length l1) (hc1 : l1.length ≤ c1) (h : spec_l01Word.f k l0_0 l1 = some r) :
  Calls Try.prog 66 #[.agg #[.slice A0_0 l0_0.length c0_0], .slice A1 l1.length c1] w fun e w' => e = .returned (.int .i64 r) ∧ Below w.heap.size w w' := by
 have hu26 := Try.underlying26
 have HR0_0 := Aside0.mk hr0_0
 have HC0_0 := Aside0.mk hc0_0
 clear hr0_0 hc0_0
 have HR1 := Aside0.mk hr1
 have HC1 := Aside0.mk hc1
 clear hr1 hc1
 have HB := Aside0.mk (Below.refl w.heap.size w)
 have H : (spec_l01Word.l0 k l1 0 0 l0_0) = some r := h
 clear h
 have H' := Aside0.mk H
 clear H
 go_enter Try.func66, Try.ntmps66
 go_wp2_with (first | ((with_reducible refine gate_dst (N := 2) rfl ?_); refine bx_ (N := 2) (cs := #[.slice A0_0 l0_0.length c0_0]) (t := 26) rfl rfl ?_; intro gb101 hg w3 hbox hb; have n0_ := b1_ HB hb; have n1_ := Aside0.mk (hbox); have n2_ := ge_ hg HB; have n3_ := ge_ hg HB; clear HB; have HB := n0_; have BK101 := n1_; have GW101 := n2_; have GE101 := n3_; clear n0_ n1_ n2_ n3_ hb hbox hg))
 repeat (go_quiet (first | ((with_reducible refine gate_dst (N := 2) rfl ?_); refine bx_ (N := 2) (cs := #[.slice A0_0 l0_0.length c0_0]) (t := 26) rfl rfl ?_; intro gb101 hg w3 hbox hb; have n0_ := b1_ HB hb; have n1_ := Aside0.mk (hbox); have n2_ := ge_ hg HB; have n3_ := ge_ hg HB; clear HB; have HB := n0_; have BK101 := n1_; have GW101 := n2_; have GE101 := n3_; clear n0_ n1_ n2_ n3_ hb hbox hg)); try go_wp2_with (first | ((with_reducible refine gate_dst (N := 2) rfl ?_); refine bx_ (N := 2) (cs := #[.slice A0_0 l0_0.length c0_0]) (t := 26) rfl rfl ?_; intro gb101 hg w3 hbox hb; have n0_ := b1_ HB hb; have n1_ := Aside0.mk (hbox); have n2_ := ge_ hg HB; have n3_ := ge_ hg HB; clear HB; have HB := n0_; have BK101 := n1_; have GW101 := n2_; have GE101 := n3_; clear n0_ n1_ n2_ n3_ hb hbox hg)))
 go_loopg [5, 6] k (fun kq v5 v6 w' => ∃ (x5_1 : Int) (x6_1 : Int), v5 = .int .i64 x5_1 ∧ v6 = .int .i64 x6_1 ∧ Aside0 (spec_l01Word.l0 kq l1 x5_1 x6_1 l0_0 = some r) ∧ Aside0 (kq ≤ k) ∧ Aside0 (w'.heap[gb101]? = some (.cells #[(.slice A0_0 l0_0.length c0_0)] 26 (0, 0))) ∧ Aside0 (Below w.heap.size w w'))
 case atStart => exact ⟨(0), (0), t2_, t2_, H', ⟨Nat.le_refl _⟩, ⟨bb_ BK101.out⟩, ⟨gb_ HB.out⟩⟩
 clear H'
 try clear c1
 try clear p2
 obtain ⟨x5_1, x6_1, rfl, rfl, HA, HK1, BK101, HB⟩ := hrel
 obtain _ | k1 := gk
 ·exact absurd HA.out (by simp [spec_l01Word.l0])
 have H := HA.out
 clear HA
 simp only [spec_l01Word.l0] at H
 by_cases c4 : x6_1 < (l1.length : Int)
 rotate_left
 ·rw [if_neg c4] at H
  have c4b0 : decide (x6_1 < (l1.length : Int)) = false := decide_eq_false c4
  clear c4
  obtain rfl := Option.some.inj H
  go_wp2
  repeat (go_quiet (fail); try go_wp2)
  go_ret
  exact ⟨t5_, gb_ HB.out⟩

 rw [if_pos c4] at H
 have c4b0 : decide (x6_1 < (l1.length : Int)) = true := decide_eq_true c4
 clear c4
 by_cases c5 : 0 ≤ x6_1
 rotate_left
 ·rw [if_neg c5] at H
  exact absurd H (by simp)
 rw [if_pos c5] at H
 have c5b0 : decide (0 ≤ x6_1) = true := decide_eq_true c5
 clear c5
 by_cases c6 : x6_1 < (l0_0.length : Int)
 rotate_left
 ·rw [if_neg c6] at H
  exact absurd H (by simp)
 rw [if_pos c6] at H
 have c6b0 : decide (x6_1 < (l0_0.length : Int)) = true := decide_eq_true c6
 clear c6
 have H' := Aside0.mk H
 clear H
 have hcz7_0 := hz_ BK101
 have hfz7_0 := blk_frozen BK101.out 0
 have p102 : 0 ≤ (x6_1 : Int) := of_decide_eq_true t6_
 have q102 : x6_1 < (l0_0.length : Int) := of_decide_eq_true t6_
 obtain ⟨ad102, e102, hx102_0⟩ := Kd.at_int HR0_0.out x6_1 p102 q102
 cases e102
 replace hx102_0 := (HB.out.cell (World.block_lt_of_cell? _ _ hx102_0)).trans hx102_0
 replace p102 := eq_true p102
 replace q102 := eq_true q102
 have p103 : 0 ≤ (x6_1 : Int) := of_decide_eq_true t6_
 have q103 : x6_1 < (l1.length : Int) := of_decide_eq_true t6_
 obtain ⟨ad103, e103, hx103_0⟩ := Kd.at_int HR1.out x6_1 p103 q103
 cases e103
 replace hx103_0 := (HB.out.cell (World.block_lt_of_cell? _ _ hx103_0)).trans hx103_0
 replace p103 := eq_true p103
 replace q103 := eq_true q103
 go_wp2
 repeat (go_quiet (fail); try go_wp2)
 go_roundg k1
 case measure => have := HK1.out; omega
 case rel => exact ⟨(wrap64 ((wrap64 (x5_1 * (rd l0_0 x6_1))) + (rd l1 x6_1))), (wrap64 (x6_1 + 1)), t2_, t2_, H', ⟨by have := HK1.out; omega⟩, ⟨bb_ BK101.out⟩, ⟨gb_ HB.out⟩⟩
def impl_places.f (l0_0 : List Int) : Option (Int) := some (l0_0.length : Int)
set_option maxHeartbeats 8000000 in
set_option maxRecDepth 100000 in
theorem impl_places.calls (A0_0 : Option Addr) (c0_0 : Nat) (l0_0 : List Int) (r : Int) (w : World) (hr0_0 : Kd.C (Kd.int .i64) w A0_0 l0_0.length l0_0) (hc0_0 : l0_0.length ≤ c0_0) (h : impl_places.f l0_0 = some r) :
  Calls Try.prog 116 #[.agg #[.slice A0_0 l0_0.length c0_0]] w fun e w' => e = .returned (.int .i64 r) ∧ Below w.heap.size w w' := by
 have hu26 := Try.underlying26
 have HR0_0 := Aside0.mk hr0_0
 have HC0_0 := Aside0.mk hc0_0
 clear hr0_0 hc0_0
 have HB := Aside0.mk (Below.refl w.heap.size w)
 have H : (some (l0_0.length : Int)) = some r := h
 clear h
 obtain rfl := Option.some.inj H
 go_enter Try.func116, Try.ntmps116
 go_wp2_with (first | ((with_reducible refine gate_dst (N := 1) rfl ?_); refine bx_ (N := 1) (cs := #[.slice A0_0 l0_0.length c0_0]) (t := 26) rfl rfl ?_; intro gb101 hg w2 hbox hb; have n0_ := b1_ HB hb; have n1_ := Aside0.mk (hbox); have n2_ := ge_ hg HB; have n3_ := ge_ hg HB; clear HB; have HB := n0_; have BK101 := n1_; have GW101 := n2_; have GE101 := n3_; clear n0_ n1_ n2_ n3_ hb hbox hg; have hcz3_0 := hz_ BK101; have hfz3_0 := blk_frozen BK101.out 0))
 go_ret
 exact ⟨t5_, gb_ HB.out⟩
def impl_isPlace.f (l0_0 : List Int) (a1 : Int) : Option (Bool) := if a1 ≥ 0 then ((impl_places.f l0_0).bind fun t102 => (some (decide (a1 < t102)))) else (some false)
set_option maxHeartbeats 8000000 in
set_option maxRecDepth 100000 in
theorem impl_isPlace.calls (A0_0 : Option Addr) (c0_0 : Nat) (l0_0 : List Int) (a1 : Int) (r : Bool) (w : World) (hr0_0 : Kd.C (Kd.int .i64) w A0_0 l0_0.length l0_0) (hc0_0 : l0_0.length ≤ c0_0) (h : impl_isPlace.f l0_0 a1 = some r) :
  Calls Try.prog 83 #[.agg #[.slice A0_0 l0_0.length c0_0], .int .i64 a1] w fun e w' => e = .returned (.bool r) ∧ Below w.heap.size w w' := by
 have hu26 := Try.underlying26
 have HR0_0 := Aside0.mk hr0_0
 have HC0_0 := Aside0.mk hc0_0
 clear hr0_0 hc0_0
 have HB := Aside0.mk (Below.refl w.heap.size w)
 have H : (if a1 ≥ 0 then ((impl_places.f l0_0).bind fun t102 => (some (decide (a1 < t102)))) else (some false)) = some r := h
 clear h
 by_cases c3 : a1 ≥ 0
 rotate_left
 ·rw [if_neg c3] at H
  have c3b0 : decide (0 ≤ a1) = false := decide_eq_false c3
  clear c3
  obtain rfl := Option.some.inj H
  go_enter Try.func83, Try.ntmps83
  go_wp2_with (first | ((with_reducible refine gate_dst (N := 2) rfl ?_); refine bx_ (N := 2) (cs := #[.slice A0_0 l0_0.length c0_0]) (t := 26) rfl rfl ?_; intro gb101 hg w8 hbox hb; have n0_ := b1_ HB hb; have n1_ := Aside0.mk (hbox); have n2_ := ge_ hg HB; have n3_ := ge_ hg HB; clear HB; have HB := n0_; have BK101 := n1_; have GW101 := n2_; have GE101 := n3_; clear n0_ n1_ n2_ n3_ hb hbox hg))
  go_ret
  exact ⟨t5_, gb_ HB.out⟩

 rw [if_pos c3] at H
 have c3b0 : decide (0 ≤ a1) = true := decide_eq_true c3
 clear c3
 replace H := Option.bind_eq_some_iff.mp H
 obtain ⟨t102, A40, H⟩ := H
 replace H : (some (decide (a1 < t102))) = some r := H
 have A4 := Aside0.mk A40
 clear A40
 obtain rfl := Option.some.inj H
 go_enter Try.func83, Try.ntmps83
 go_wp2_with (first | ((with_reducible refine gate_dst (N := 2) rfl ?_); refine bx_ (N := 2) (cs := #[.slice A0_0 l0_0.length c0_0]) (t := 26) rfl rfl ?_; intro gb101 hg w5 hbox hb; have n0_ := b1_ HB hb; have n1_ := Aside0.mk (hbox); have n2_ := ge_ hg HB; have n3_ := ge_ hg HB; clear HB; have HB := n0_; have BK101 := n1_; have GW101 := n2_; have GE101 := n3_; clear n0_ n1_ n2_ n3_ hb hbox hg; have hcz6_0 := hz_ BK101; have hfz6_0 := blk_frozen BK101.out 0) | (go_at_call 116; (with_reducible refine (impl_places.calls _ _ l0_0 t102 _ ?side1 ?side2 A4.out).mono ?_); (case side1 => exact c2_ HR0_0 HB); (case side2 => exact HC0_0.out); rintro e w7 ⟨rfl, hb⟩; replace BK101 := a2_ BK101 hb; replace HB := b1_ HB hb; (try clear hb); (try clear hb2); (try clear hk); (try clear hi)))
 go_ret
 exact ⟨t5_, gb_ HB.out⟩
end Go.Proofs.Ytlfipjdjmpdblaa.P
set_option linter.unusedVariables false
set_option linter.unusedSimpArgs false
namespace Go.Proofs.Ytlfipjdjmpdblaa.P
open Go.RowKit Go.Proofs.YtlfipjdjmpdblaaW.PrintWords Go.Proofs.YtlfipjdjmpdblaaW.PrintLast Go.Proofs.YtlfipjdjmpdblaaW.PrintMore CC
theorem take_rd (s : List Int) {n : Nat} (hn : n < s.length) : s.take (n + 1) = s.take n ++ [rd s (n : Int)] := by
  rw [List.take_add_one]
  simp [rd, List.getD_eq_getElem?_getD, hn]
theorem dloop_eq (s : List Int) : ∀ (n : Nat) (x : Int) (ar : List Int), n ≤ s.length → n ≤ ar.length → dloop s n x ar = (dgr (s.take n).reverse x).reverse ++ ar.drop n
  | 0, x, ar, _, _ => by simp [dloop, dgr]
  | n + 1, x, ar, h1, h2 => by
    simp only [dloop]
    rw [dloop_eq s n _ _ (by omega) (by simp; omega), take_rd s (by omega), List.reverse_append]
    simp only [List.reverse_cons, List.reverse_nil, List.nil_append, List.singleton_append, dgr]
    rw [List.append_assoc]
    congr 1
    rw [List.drop_eq_getElem_cons (show n < (ar.set n (x % rd s (n : Int))).length by simp; omega), List.drop_set]
    simp
theorem dig8_eq {s : List Int} (hl : s.length ≤ 8) (x : Int) : dig8 s x = dg s x ++ List.replicate (8 - s.length) 0 := by
  unfold dig8 dg
  rw [dloop_eq s s.length x _ (Nat.le_refl _) (by simpa using hl), List.drop_replicate, List.take_length]
theorem ham_dig8 {s : List Int} (hl : s.length ≤ 8) (x y : Int) : ham (dig8 s x) (dig8 s y) = dist s x y := by
  rw [dig8_eq hl, dig8_eq hl, ham_append _ _ _ _ (by rw [dg_length, dg_length]), ham_self]
  simp [dist]
theorem dig8_inR {s : List Int} (hs : isSp s = true) (x : Int) : inR s (dig8 s x) = true := by
  rw [dig8_eq (isSp_len hs)]
  exact inR_pad (dg_length _ _) (inR_dg (isSp_all hs) x)
theorem inR_of : ∀ (s d : List Int), (∀ k : Nat, k < s.length → k < d.length → 0 ≤ rd d (k : Int) ∧ rd d (k : Int) < rd s (k : Int)) → inR s d = true
  | [], _, _ => by simp [inR]
  | _ :: _, [], _ => by simp [inR]
  | q :: s, x :: d, h => by
    have h0 := h 0 (by simp) (by simp)
    have e0 : rd (x :: d) ((0 : Nat) : Int) = x := by simp [rd]
    have e1 : rd (q :: s) ((0 : Nat) : Int) = q := by simp [rd]
    rw [e0, e1] at h0
    have ih := inR_of s d (fun k hk hk2 => by
      have := h (k + 1) (by simpa using hk) (by simpa using hk2)
      have f0 : rd (x :: d) ((k + 1 : Nat) : Int) = rd d (k : Int) := by simp only [rd, Int.toNat_natCast]; rfl
      have f1 : rd (q :: s) ((k + 1 : Nat) : Int) = rd s (k : Int) := by simp only [rd, Int.toNat_natCast]; rfl
      rwa [f0, f1] at this)
    simp [inR, h0.1, h0.2, ih]
set_option maxHeartbeats 4000000 in
set_option maxRecDepth 100000 in
theorem distance_calls (A : Option Addr) (c : Nat) (s : List Int) (x y : Int) (w : World) (hr : Kd.C (Kd.int .i64) w A s.length s) (hc : s.length ≤ c) (hs : isSp s = true) (h0 : 0 ≤ x) (h1 : x ≤ 1024) (h2 : 0 ≤ y) (h3 : y ≤ 1024) :
    Calls Try.prog 60 #[.agg #[.slice A s.length c], .int .i64 x, .int .i64 y] w
      fun e w' => e = .returned (.int .i64 (ham (dig8 s x) (dig8 s y))) ∧ Below w.heap.size w w' := by
  have huS := Try.underlying26
  have HR := Aside0.mk hr
  have HS := Aside0.mk hs
  clear hr hs
  go_enter Try.func60, Try.ntmps60
  go_wp2_with fail
  have hcell : (w.alloc (.cells #[.slice A s.length c] 26)).cell? ⟨w.heap.size, 0, none⟩ = some (.slice A s.length c) := blk_cell (blk_new _ _) 0
  have hB : Below w.heap.size w (w.alloc (.cells #[.slice A s.length c] 26)) := (Below.refl _ _).alloc (Nat.le_refl _) _
  go_region_held3 (fun w' => w'.cell? ⟨w.heap.size, 0, none⟩ = some (.slice A s.length c) ∧ Below w.heap.size w w') (first | exact ⟨hcell, below_drew hB⟩ | exact keepS hb (by assumption))
    (first
      | (go_at_call 64; refine (digitsOf_calls A c s _ _ ?k1 hc HS.out (by omega) (by omega)).mono ?_; (case k1 => exact Kd.C_below HR.out (by first | assumption | exact (by assumption : _ ∧ Below _ _ _).2)); rintro e w' ⟨rfl, hb⟩)
      | (go_at_call 75; refine (far_calls (dig8_length _ _) (dig8_length _ _) _).mono ?_; rintro e w' ⟨rfl, hb⟩))
  go_wp2
  go_ret
  exact ⟨rfl, (by assumption : _ ∧ Below w.heap.size w _).2⟩
def impl_distance.f (l0_0 : List Int) (a1 a2 : Int) : Option Int := if isSp l0_0 = true ∧ isW l0_0 a1 = true ∧ isW l0_0 a2 = true then some (ham (dig8 l0_0 a1) (dig8 l0_0 a2)) else none
theorem isW_small {s : List Int} (hs : isSp s = true) {x : Int} (h : isW s x = true) : 0 ≤ x ∧ x ≤ 1024 := by
  have h1 := (isW_iff s x).1 h
  have h2 := isSp_prd hs
  omega
theorem impl_distance.calls (A0_0 : Option Addr) (c0_0 : Nat) (l0_0 : List Int) (a1 : Int) (a2 : Int) (r : Int) (w : World) (hr0_0 : Kd.C (Kd.int .i64) w A0_0 l0_0.length l0_0) (hc0_0 : l0_0.length ≤ c0_0) (h : impl_distance.f l0_0 a1 a2 = some r) :
    Calls Try.prog 60 #[.agg #[.slice A0_0 l0_0.length c0_0], .int .i64 a1, .int .i64 a2] w fun e w' => e = .returned (.int .i64 r) ∧ Below w.heap.size w w' := by
  unfold impl_distance.f at h
  split at h
  · rename_i hc
    obtain rfl := Option.some.inj h
    obtain ⟨hs, h1, h2⟩ := hc
    obtain ⟨g0, g1⟩ := isW_small hs h1
    obtain ⟨g2, g3⟩ := isW_small hs h2
    exact distance_calls A0_0 c0_0 l0_0 a1 a2 w hr0_0 hc0_0 hs g0 g1 g2 g3
  · cases h
end Go.Proofs.Ytlfipjdjmpdblaa.P
namespace Go.Proofs.Ytlfipjdjmpdblaa.P
open Go.RowKit Go.Proofs.YtlfipjdjmpdblaaW.PrintWords Go.Proofs.YtlfipjdjmpdblaaW.PrintLast Go.Proofs.YtlfipjdjmpdblaaW.PrintMore
attribute [local go_sem] max2_int min2_int max_two min_two max_three min_three max_four min_four
set_option linter.unusedVariables false
set_option linter.unusedSimpArgs false
def impl_WordOf.l0 : Nat → Int → List Int → Int → Int → List Int → Option (Int × Int)
  | 0, _, _, _, _, _ => none
  | k + 1, x6, x18, x19, x20, x102000 => if x20 < x19 then (if 0 ≤ x20 then (if x20 < (x18.length : Int) then (if (rd x18 x20) < 0 then (some (0, 2)) else (if x20 < (x102000.length : Int) then (if (rd x18 x20) ≥ (rd x102000 x20) then (some (0, 2)) else (impl_WordOf.l0 k (wrap64 ((wrap64 (x6 * (rd x102000 x20))) + (rd x18 x20))) x18 x19 (wrap64 (x20 + 1)) x102000)) else (none))) else (none)) else (none)) else (some (x6, 0))
def impl_WordOf.f (k : Nat) (l0_0 : List Int) (l1 : List Int) : Option (Int × Int) := (impl_IsSpace.f k l0_0).bind fun t102 => (if t102 = true then (if (l1.length : Int) = (l0_0.length : Int) then (impl_WordOf.l0 k 0 l1 (l1.length : Int) 0 l0_0) else (some (0, 2))) else (some (0, 1)))
set_option maxHeartbeats 8000000 in
set_option maxRecDepth 100000 in
theorem impl_WordOf.calls (k : Nat) (A0_0 : Option Addr) (c0_0 : Nat) (l0_0 : List Int) (A1 : Option Addr) (c1 : Nat) (l1 : List Int) (r1 : Int) (r2 : Int) (w : World) (hr0_0 : Kd.C (Kd.int .i64) w A0_0 l0_0.length l0_0) (hc0_0 : l0_0.length ≤ c0_0) (hr1 : Kd.C (Kd.int .i64) w A1 l1.length l1) (hc1 : l1.length ≤ c1) (h : impl_WordOf.f k l0_0 l1 = some (r1, r2)) :
  Calls Try.prog 21 #[.agg #[.slice A0_0 l0_0.length c0_0], .slice A1 l1.length c1] w fun e w' => e = .returned (.tuple #[.int .i64 r1, .int .i64 r2]) ∧ Below w.heap.size w w' := by
 have hu26 := Try.underlying26
 have HR0_0 := Aside0.mk hr0_0
 have HC0_0 := Aside0.mk hc0_0
 clear hr0_0 hc0_0
 have HR1 := Aside0.mk hr1
 have HC1 := Aside0.mk hc1
 clear hr1 hc1
 have HB := Aside0.mk (Below.refl w.heap.size w)
 have H : ((impl_IsSpace.f k l0_0).bind fun t102 => (if t102 = true then (if (l1.length : Int) = (l0_0.length : Int) then (impl_WordOf.l0 k 0 l1 (l1.length : Int) 0 l0_0) else (some (0, 2))) else (some (0, 1)))) = some (r1, r2) := h
 clear h
 replace H := Option.bind_eq_some_iff.mp H
 obtain ⟨t102, A30, H⟩ := H
 replace H : (if t102 = true then (if (l1.length : Int) = (l0_0.length : Int) then (impl_WordOf.l0 k 0 l1 (l1.length : Int) 0 l0_0) else (some (0, 2))) else (some (0, 1))) = some (r1, r2) := H
 have A3 := Aside0.mk A30
 clear A30
 by_cases c4 : t102 = true
 rotate_left
 ·replace c4 := Bool.eq_false_iff.mpr c4
  subst c4
  have H1 : (some (0, 1)) = some (r1, r2) := by rw [if_neg (show ¬ (false = true) by decide)] at H; exact H
  clear H
  have H := H1
  clear H1
  simp only [Option.some.injEq, Prod.mk.injEq] at H
  obtain ⟨rfl, rfl⟩ := H
  go_enter Try.func21, Try.ntmps21
  go_wp2_with (first | ((with_reducible refine gate_dst (N := 2) rfl ?_); refine bx_ (N := 2) (cs := #[.slice A0_0 l0_0.length c0_0]) (t := 26) rfl rfl ?_; intro gb101 hg w22 hbox hb; have n0_ := b1_ HB hb; have n1_ := Aside0.mk (hbox); have n2_ := ge_ hg HB; have n3_ := ge_ hg HB; clear HB; have HB := n0_; have BK101 := n1_; have GW101 := n2_; have GE101 := n3_; clear n0_ n1_ n2_ n3_ hb hbox hg; have hcz23_0 := hz_ BK101; have hfz23_0 := blk_frozen BK101.out 0) | ((with_reducible refine gate_callee (f := 19) rfl ?_); refine gl_ (some 10) rfl rfl Try.func19 #[.agg #[.slice A0_0 l0_0.length c0_0]] rfl ?_; (with_reducible refine (impl_IsSpace.calls k _ _ l0_0 false _ ?side1 ?side2 A3.out).mono ?_); (case side1 => exact c2_ HR0_0 HB); (case side2 => exact HC0_0.out); rintro e w24 ⟨rfl, hb⟩; refine ⟨_, rfl, ?_⟩; replace BK101 := a2_ BK101 hb; replace HB := b1_ HB hb; (try clear hb); (try clear hb2); (try clear hk); (try clear hi)))
  go_ret2
  exact ⟨t5_, gb_ HB.out⟩

 subst c4
 have H1 : (if (l1.length : Int) = (l0_0.length : Int) then (impl_WordOf.l0 k 0 l1 (l1.length : Int) 0 l0_0) else (some (0, 2))) = some (r1, r2) := by rw [if_pos rfl] at H; exact H
 clear H
 have H := H1
 clear H1
 by_cases c5 : (l1.length : Int) = (l0_0.length : Int)
 rotate_left
 ·rw [if_neg c5] at H
  have c5b0 : ((l1.length : Int) == (l0_0.length : Int)) = false := beq_eq_false_iff_ne.mpr c5
  have c5b1 : ((l1.length : Int) != (l0_0.length : Int)) = true := bne_iff_ne.mpr c5
  have c5b2 : (l1.length == l0_0.length) = false := by first | simpa using c5 | (simp at c5 ⊢; omega)
  simp only [Option.some.injEq, Prod.mk.injEq] at H
  obtain ⟨rfl, rfl⟩ := H
  go_enter Try.func21, Try.ntmps21
  go_wp2_with (first | ((with_reducible refine gate_dst (N := 2) rfl ?_); refine bx_ (N := 2) (cs := #[.slice A0_0 l0_0.length c0_0]) (t := 26) rfl rfl ?_; intro gb101 hg w18 hbox hb; have n0_ := b1_ HB hb; have n1_ := Aside0.mk (hbox); have n2_ := ge_ hg HB; have n3_ := ge_ hg HB; clear HB; have HB := n0_; have BK101 := n1_; have GW101 := n2_; have GE101 := n3_; clear n0_ n1_ n2_ n3_ hb hbox hg; have hcz19_0 := hz_ BK101; have hfz19_0 := blk_frozen BK101.out 0) | ((with_reducible refine gate_callee (f := 19) rfl ?_); refine gl_ (some 10) rfl rfl Try.func19 #[.agg #[.slice A0_0 l0_0.length c0_0]] rfl ?_; (with_reducible refine (impl_IsSpace.calls k _ _ l0_0 true _ ?side1 ?side2 A3.out).mono ?_); (case side1 => exact c2_ HR0_0 HB); (case side2 => exact HC0_0.out); rintro e w20 ⟨rfl, hb⟩; refine ⟨_, rfl, ?_⟩; replace BK101 := a2_ BK101 hb; replace HB := b1_ HB hb; (try clear hb); (try clear hb2); (try clear hk); (try clear hi); have hcz21_0 := hz_ BK101; have hfz21_0 := blk_frozen BK101.out 0))
  go_ret2
  exact ⟨t5_, gb_ HB.out⟩
 rw [if_pos c5] at H
 have c5b0 : ((l1.length : Int) == (l0_0.length : Int)) = true := beq_iff_eq.mpr c5
 have c5b1 : ((l1.length : Int) != (l0_0.length : Int)) = false := bne_eq_false_iff_eq.mpr c5
 have c5b2 : (l1.length == l0_0.length) = true := by first | simpa using c5 | (simp at c5 ⊢; omega)
 clear c5
 have H' := Aside0.mk H
 clear H
 go_enter Try.func21, Try.ntmps21
 go_wp2_with (first | ((with_reducible refine gate_dst (N := 2) rfl ?_); refine bx_ (N := 2) (cs := #[.slice A0_0 l0_0.length c0_0]) (t := 26) rfl rfl ?_; intro gb101 hg w6 hbox hb; have n0_ := b1_ HB hb; have n1_ := Aside0.mk (hbox); have n2_ := ge_ hg HB; have n3_ := ge_ hg HB; clear HB; have HB := n0_; have BK101 := n1_; have GW101 := n2_; have GE101 := n3_; clear n0_ n1_ n2_ n3_ hb hbox hg; have hcz7_0 := hz_ BK101; have hfz7_0 := blk_frozen BK101.out 0) | ((with_reducible refine gate_callee (f := 19) rfl ?_); refine gl_ (some 10) rfl rfl Try.func19 #[.agg #[.slice A0_0 l0_0.length c0_0]] rfl ?_; (with_reducible refine (impl_IsSpace.calls k _ _ l0_0 true _ ?side1 ?side2 A3.out).mono ?_); (case side1 => exact c2_ HR0_0 HB); (case side2 => exact HC0_0.out); rintro e w8 ⟨rfl, hb⟩; refine ⟨_, rfl, ?_⟩; replace BK101 := a2_ BK101 hb; replace HB := b1_ HB hb; (try clear hb); (try clear hb2); (try clear hk); (try clear hi); have hcz9_0 := hz_ BK101; have hfz9_0 := blk_frozen BK101.out 0))
 go_loopg [6, 20] k (fun kq v6 v20 w' => ∃ (x6_1 : Int) (x20_1 : Int), v6 = .int .i64 x6_1 ∧ v20 = .int .i64 x20_1 ∧ Aside0 (impl_WordOf.l0 kq x6_1 l1 (l1.length : Int) x20_1 l0_0 = some (r1, r2)) ∧ Aside0 (kq ≤ k) ∧ Aside0 (w'.heap[gb101]? = some (.cells #[(.slice A0_0 l0_0.length c0_0)] 26 (0, 0))) ∧ Aside0 (Below w.heap.size w w'))
 case atStart => exact ⟨(0), (0), t2_, t2_, H', ⟨Nat.le_refl _⟩, ⟨bb_ BK101.out⟩, ⟨gb_ HB.out⟩⟩
 clear H'
 try clear c1
 try clear c2
 try clear p2
 try clear c4
 try clear c5
 try clear c5b0
 try clear c5b1
 try clear c5b2
 try clear hcz7_0
 try clear hcz9_0
 try clear hfz7_0
 try clear hfz9_0
 obtain ⟨x6_1, x20_1, rfl, rfl, HA, HK1, BK101, HB⟩ := hrel
 obtain _ | k1 := gk
 ·exact absurd HA.out (by simp [impl_WordOf.l0])
 have H := HA.out
 clear HA
 simp only [impl_WordOf.l0] at H
 by_cases c10 : x20_1 < (l1.length : Int)
 rotate_left
 ·rw [if_neg c10] at H
  have c10b0 : decide (x20_1 < (l1.length : Int)) = false := decide_eq_false c10
  clear c10
  simp only [Option.some.injEq, Prod.mk.injEq] at H
  obtain ⟨rfl, rfl⟩ := H
  go_wp2
  go_ret2
  exact ⟨t5_, gb_ HB.out⟩
 rw [if_pos c10] at H
 have c10b0 : decide (x20_1 < (l1.length : Int)) = true := decide_eq_true c10
 clear c10
 by_cases c11 : 0 ≤ x20_1
 rotate_left
 ·rw [if_neg c11] at H
  exact absurd H (by simp)
 rw [if_pos c11] at H
 have c11b0 : decide (0 ≤ x20_1) = true := decide_eq_true c11
 clear c11
 by_cases c12 : x20_1 < (l1.length : Int)
 rotate_left
 ·rw [if_neg c12] at H
  exact absurd H (by simp)
 rw [if_pos c12] at H
 have c12b0 : decide (x20_1 < (l1.length : Int)) = true := decide_eq_true c12
 clear c12
 by_cases c13 : (rd l1 x20_1) < 0
 ·rw [if_pos c13] at H
  have c13b0 : decide ((rd l1 x20_1) < 0) = true := decide_eq_true c13
  clear c13
  simp only [Option.some.injEq, Prod.mk.injEq] at H
  obtain ⟨rfl, rfl⟩ := H
  have p103 : 0 ≤ (x20_1 : Int) := of_decide_eq_true t6_
  have q103 : x20_1 < (l1.length : Int) := of_decide_eq_true t6_
  obtain ⟨ad103, e103, hx103_0⟩ := Kd.at_int HR1.out x20_1 p103 q103
  cases e103
  replace hx103_0 := (HB.out.cell (World.block_lt_of_cell? _ _ hx103_0)).trans hx103_0
  replace p103 := eq_true p103
  replace q103 := eq_true q103
  go_wp2
  go_ret2
  exact ⟨t5_, gb_ HB.out⟩
 rw [if_neg c13] at H
 have c13b0 : decide ((rd l1 x20_1) < 0) = false := decide_eq_false c13
 clear c13
 by_cases c14 : x20_1 < (l0_0.length : Int)
 rotate_left
 ·rw [if_neg c14] at H
  exact absurd H (by simp)
 rw [if_pos c14] at H
 have c14b0 : decide (x20_1 < (l0_0.length : Int)) = true := decide_eq_true c14
 clear c14
 by_cases c15 : (rd l1 x20_1) ≥ (rd l0_0 x20_1)
 ·rw [if_pos c15] at H
  have c15b0 : decide ((rd l0_0 x20_1) ≤ (rd l1 x20_1)) = true := decide_eq_true c15
  clear c15
  simp only [Option.some.injEq, Prod.mk.injEq] at H
  obtain ⟨rfl, rfl⟩ := H
  have p103 : 0 ≤ (x20_1 : Int) := of_decide_eq_true t6_
  have q103 : x20_1 < (l1.length : Int) := of_decide_eq_true t6_
  obtain ⟨ad103, e103, hx103_0⟩ := Kd.at_int HR1.out x20_1 p103 q103
  cases e103
  replace hx103_0 := (HB.out.cell (World.block_lt_of_cell? _ _ hx103_0)).trans hx103_0
  replace p103 := eq_true p103
  replace q103 := eq_true q103
  have hcz16_0 := hz_ BK101
  have hfz16_0 := blk_frozen BK101.out 0
  have p104 : 0 ≤ (x20_1 : Int) := of_decide_eq_true t6_
  have q104 : x20_1 < (l0_0.length : Int) := of_decide_eq_true t6_
  obtain ⟨ad104, e104, hx104_0⟩ := Kd.at_int HR0_0.out x20_1 p104 q104
  cases e104
  replace hx104_0 := (HB.out.cell (World.block_lt_of_cell? _ _ hx104_0)).trans hx104_0
  replace p104 := eq_true p104
  replace q104 := eq_true q104
  go_wp2
  go_ret2
  exact ⟨t5_, gb_ HB.out⟩
 rw [if_neg c15] at H
 have c15b0 : decide ((rd l0_0 x20_1) ≤ (rd l1 x20_1)) = false := decide_eq_false c15
 clear c15
 have H' := Aside0.mk H
 clear H
 have p103 : 0 ≤ (x20_1 : Int) := of_decide_eq_true t6_
 have q103 : x20_1 < (l1.length : Int) := of_decide_eq_true t6_
 obtain ⟨ad103, e103, hx103_0⟩ := Kd.at_int HR1.out x20_1 p103 q103
 cases e103
 replace hx103_0 := (HB.out.cell (World.block_lt_of_cell? _ _ hx103_0)).trans hx103_0
 replace p103 := eq_true p103
 replace q103 := eq_true q103
 have hcz17_0 := hz_ BK101
 have hfz17_0 := blk_frozen BK101.out 0
 have p104 : 0 ≤ (x20_1 : Int) := of_decide_eq_true t6_
 have q104 : x20_1 < (l0_0.length : Int) := of_decide_eq_true t6_
 obtain ⟨ad104, e104, hx104_0⟩ := Kd.at_int HR0_0.out x20_1 p104 q104
 cases e104
 replace hx104_0 := (HB.out.cell (World.block_lt_of_cell? _ _ hx104_0)).trans hx104_0
 replace p104 := eq_true p104
 replace q104 := eq_true q104
 have p105 : 0 ≤ (x20_1 : Int) := of_decide_eq_true t6_
 have q105 : x20_1 < (l0_0.length : Int) := of_decide_eq_true t6_
 obtain ⟨ad105, e105, hx105_0⟩ := Kd.at_int HR0_0.out x20_1 p105 q105
 obtain rfl : ad104 = ad105 := (by injection e105)
 replace hx105_0 := (HB.out.cell (World.block_lt_of_cell? _ _ hx105_0)).trans hx105_0
 replace p105 := eq_true p105
 replace q105 := eq_true q105
 go_wp2
 go_roundg k1
 case measure => have := HK1.out; omega
 case rel => exact ⟨(wrap64 ((wrap64 (x6_1 * (rd l0_0 x20_1))) + (rd l1 x20_1))), (wrap64 (x20_1 + 1)), t2_, t2_, H', ⟨by have := HK1.out; omega⟩, ⟨bb_ BK101.out⟩, ⟨gb_ HB.out⟩⟩
def spec_l01Ball.l0 : Nat → Int → Int → List Int → Int → List Int → Option (List Int)
  | 0, _, _, _, _, _ => none
  | k + 1, x1, x2, x7, x8, x102000 => (spec_l01N.f k x102000).bind fun t105 => (if x8 < t105 then ((spec_l01Distance.f k x102000 x8 x1).bind fun t106 => (if t106 ≤ x2 then (if x7.length < 17592186044416 then (spec_l01Ball.l0 k x1 x2 (x7 ++ [x8]) (wrap64 (x8 + 1)) x102000) else (none)) else (spec_l01Ball.l0 k x1 x2 x7 (wrap64 (x8 + 1)) x102000))) else (some x7))
def spec_l01Ball.f (k : Nat) (l0_0 : List Int) (a1 : Int) (a2 : Int) : Option (List Int) := spec_l01Ball.l0 k a1 a2 (([] : List Int)) 0 l0_0
set_option maxHeartbeats 8000000 in
set_option maxRecDepth 100000 in
theorem spec_l01Ball.calls (k : Nat) (A0_0 : Option Addr) (c0_0 : Nat) (l0_0 : List Int) (a1 : Int) (a2 : Int) (r : List Int) (w : World) (hr0_0 : Kd.C (Kd.int .i64) w A0_0 l0_0.length l0_0) (hc0_0 : l0_0.length ≤ c0_0) (h : spec_l01Ball.f k l0_0 a1 a2 = some r) :
  Calls Try.prog 72 #[.agg #[.slice A0_0 l0_0.length c0_0], .int .i64 a1, .int .i64 a2] w fun e w' => ∃ v0_ : Value, e = .returned (v0_) ∧ Kd.R (Kd.int .i64) 2 w' w.heap.size (fun _ => True) v0_ r ∧ Below w.heap.size w w' := by
 have hu26 := Try.underlying26
 have HR0_0 := Aside0.mk hr0_0
 have HC0_0 := Aside0.mk hc0_0
 clear hr0_0 hc0_0
 have HB := Aside0.mk (Below.refl w.heap.size w)
 have H : (spec_l01Ball.l0 k a1 a2 (([] : List Int)) 0 l0_0) = some r := h
 clear h
 obtain ⟨y102, hy102⟩ : ∃ y_ : List Int, y_ = (([] : List Int)) := ⟨_, rfl⟩
 replace H : (spec_l01Ball.l0 k a1 a2 y102 0 l0_0) = some r := y_ H
 have Ny102 := Aside0.mk hy102
 clear hy102
 have H' := Aside0.mk H
 clear H
 go_enter Try.func72, Try.ntmps72
 go_wp2_with (first | ((with_reducible refine gate_dst (N := 3) rfl ?_); refine bx_ (N := 3) (cs := #[.slice A0_0 l0_0.length c0_0]) (t := 26) rfl rfl ?_; intro gb101 hg w4 hbox hb; have n0_ := b1_ HB hb; have n1_ := Aside0.mk (hbox); have n2_ := ge_ hg HB; have n3_ := ge_ hg HB; clear HB; have HB := n0_; have BK101 := n1_; have GW101 := n2_; have GE101 := n3_; clear n0_ n1_ n2_ n3_ hb hbox hg) | ((with_reducible refine gate_dst (N := 9) rfl ?_); refine Kd.R_lit (Kd.int .i64) _ 2 ?hg (N := 9) ?hd (xs := ([] : List Int)) (inner := []) (ok := fun _ => True) (okp := fun _ => True) ?hr ?hp (fun _ hk => hk) trivial (Below.refl _ _) (Nat.le_refl _) (by simp) ?_; (case hd => rfl); (case hg => rfl); (case hr => exact t3_); (case hp => exact (Reps.none _ _)); intro v103 w5 ho6 hb hg_ hnew_; clear hg_ hnew_; (first | rw [← Ny102.out] at ho6 | (simp only [Int.reduceToNat] at ho6; rw [← Ny102.out] at ho6)); have n0_ := Aside0.mk (Kd.R_lower ho6 (below_size (gb_ HB.out))); have n1_ := a2_ BK101 hb; have n2_ := b1_ HB hb; clear BK101 HB; have HO104 := n0_; have BK101 := n1_; have HB := n2_; clear n0_ n1_ n2_ hb ho6))
 go_loopg [7, 8] k (fun kq v7 v8 w' => ∃ (x7_1 : List Int) (x8_1 : Int), v8 = .int .i64 x8_1 ∧ Aside0 (spec_l01Ball.l0 kq a1 a2 x7_1 x8_1 l0_0 = some r) ∧ Aside0 (kq ≤ k) ∧ Aside0 (Kd.R (Kd.int .i64) 2 w' w.heap.size (fun _ => True) v7 x7_1) ∧ Aside0 (w'.heap[gb101]? = some (.cells #[(.slice A0_0 l0_0.length c0_0)] 26 (0, 0))) ∧ Aside0 (Below w.heap.size w w'))
 case atStart => exact ⟨(y102), (0), t2_, H', ⟨Nat.le_refl _⟩, ⟨rb_ HO104.out⟩, ⟨bb_ BK101.out⟩, ⟨gb_ HB.out⟩⟩
 clear H'
 try clear p2
 obtain ⟨x7_1, x8_1, rfl, HA, HK1, HO_7, BK101, HB⟩ := hrel
 obtain _ | k1 := gk
 ·exact absurd HA.out (by simp [spec_l01Ball.l0])
 have H := HA.out
 clear HA
 simp only [spec_l01Ball.l0] at H
 replace H := Option.bind_eq_some_iff.mp H
 obtain ⟨t105, A70, H⟩ := H
 replace H : (if x8_1 < t105 then ((spec_l01Distance.f k1 l0_0 x8_1 a1).bind fun t106 => (if t106 ≤ a2 then (if x7_1.length < 17592186044416 then (spec_l01Ball.l0 k1 a1 a2 (x7_1 ++ [x8_1]) (wrap64 (x8_1 + 1)) l0_0) else (none)) else (spec_l01Ball.l0 k1 a1 a2 x7_1 (wrap64 (x8_1 + 1)) l0_0))) else (some x7_1)) = some r := H
 have A7 := Aside0.mk A70
 clear A70
 by_cases c8 : x8_1 < t105
 rotate_left
 ·rw [if_neg c8] at H
  have c8b0 : decide (x8_1 < t105) = false := decide_eq_false c8
  clear c8
  obtain rfl := Option.some.inj H
  have hcz21_0 := hz_ BK101
  have hfz21_0 := blk_frozen BK101.out 0
  go_wp2_with (first | ((with_reducible refine gate_callee (f := 76) rfl ?_); refine gl_ (some 12) rfl rfl Try.func76 #[.agg #[.slice A0_0 l0_0.length c0_0]] rfl ?_; (with_reducible refine (spec_l01N.calls k1 _ _ l0_0 t105 _ ?side1 ?side2 A7.out).mono ?_); (case side1 => exact c2_ HR0_0 HB); (case side2 => exact HC0_0.out); rintro e w22 ⟨rfl, hb⟩; refine ⟨_, rfl, ?_⟩; replace HO_7 := a1_ HO_7 hb; replace BK101 := a2_ BK101 hb; replace HB := b1_ HB hb; (try clear hb); (try clear hb2); (try clear hk); (try clear hi)))
  go_ret
  exact ⟨_, t5_, rb_ HO_7.out, gb_ HB.out⟩

 rw [if_pos c8] at H
 have c8b0 : decide (x8_1 < t105) = true := decide_eq_true c8
 clear c8
 replace H := Option.bind_eq_some_iff.mp H
 obtain ⟨t106, A90, H⟩ := H
 replace H : (if t106 ≤ a2 then (if x7_1.length < 17592186044416 then (spec_l01Ball.l0 k1 a1 a2 (x7_1 ++ [x8_1]) (wrap64 (x8_1 + 1)) l0_0) else (none)) else (spec_l01Ball.l0 k1 a1 a2 x7_1 (wrap64 (x8_1 + 1)) l0_0)) = some r := H
 have A9 := Aside0.mk A90
 clear A90
 by_cases c10 : t106 ≤ a2
 rotate_left
 ·rw [if_neg c10] at H
  have c10b0 : decide (t106 ≤ a2) = false := decide_eq_false c10
  clear c10
  have H' := Aside0.mk H
  clear H
  have hcz17_0 := hz_ BK101
  have hfz17_0 := blk_frozen BK101.out 0
  go_wp2_with (first | ((with_reducible refine gate_callee (f := 76) rfl ?_); refine gl_ (some 12) rfl rfl Try.func76 #[.agg #[.slice A0_0 l0_0.length c0_0]] rfl ?_; (with_reducible refine (spec_l01N.calls k1 _ _ l0_0 t105 _ ?side1 ?side2 A7.out).mono ?_); (case side1 => exact c2_ HR0_0 HB); (case side2 => exact HC0_0.out); rintro e w18 ⟨rfl, hb⟩; refine ⟨_, rfl, ?_⟩; replace HO_7 := a1_ HO_7 hb; replace BK101 := a2_ BK101 hb; replace HB := b1_ HB hb; (try clear hb); (try clear hb2); (try clear hk); (try clear hi); have hcz19_0 := hz_ BK101; have hfz19_0 := blk_frozen BK101.out 0) | ((with_reducible refine gate_callee (f := 61) rfl ?_); refine gl_ (some 19) rfl rfl Try.func61 #[.agg #[.slice A0_0 l0_0.length c0_0], .int .i64 x8_1, .int .i64 a1] rfl ?_; (with_reducible refine (spec_l01Distance.calls k1 _ _ l0_0 x8_1 a1 t106 _ ?side1 ?side2 A9.out).mono ?_); (case side1 => exact c2_ HR0_0 HB); (case side2 => exact HC0_0.out); rintro e w20 ⟨rfl, hb⟩; refine ⟨_, rfl, ?_⟩; replace HO_7 := a1_ HO_7 hb; replace BK101 := a2_ BK101 hb; replace HB := b1_ HB hb; (try clear hb); (try clear hb2); (try clear hk); (try clear hi)))
  go_roundg k1
  case measure => have := HK1.out; omega
  case rel => exact ⟨(x7_1), (wrap64 (x8_1 + 1)), t2_, H', ⟨by have := HK1.out; omega⟩, ⟨rb_ HO_7.out⟩, ⟨bb_ BK101.out⟩, ⟨gb_ HB.out⟩⟩
 rw [if_pos c10] at H
 have c10b0 : decide (t106 ≤ a2) = true := decide_eq_true c10
 clear c10
 by_cases c11 : x7_1.length < 17592186044416
 rotate_left
 ·rw [if_neg c11] at H
  exact absurd H (by simp)
 rw [if_pos c11] at H
 have LMc11 := Aside0.mk c11
 clear c11
 obtain ⟨y107, hy107⟩ : ∃ y_ : List Int, y_ = (x7_1 ++ [x8_1]) := ⟨_, rfl⟩
 replace H : (spec_l01Ball.l0 k1 a1 a2 y107 (wrap64 (x8_1 + 1)) l0_0) = some r := y_ H
 have Ny107 := Aside0.mk hy107
 clear hy107
 have H' := Aside0.mk H
 clear H
 have hcz12_0 := hz_ BK101
 have hfz12_0 := blk_frozen BK101.out 0
 go_wp2_with (first | ((with_reducible refine gate_callee (f := 76) rfl ?_); refine gl_ (some 12) rfl rfl Try.func76 #[.agg #[.slice A0_0 l0_0.length c0_0]] rfl ?_; (with_reducible refine (spec_l01N.calls k1 _ _ l0_0 t105 _ ?side1 ?side2 A7.out).mono ?_); (case side1 => exact c2_ HR0_0 HB); (case side2 => exact HC0_0.out); rintro e w13 ⟨rfl, hb⟩; refine ⟨_, rfl, ?_⟩; replace HO_7 := a1_ HO_7 hb; replace BK101 := a2_ BK101 hb; replace HB := b1_ HB hb; (try clear hb); (try clear hb2); (try clear hk); (try clear hi); have hcz14_0 := hz_ BK101; have hfz14_0 := blk_frozen BK101.out 0) | ((with_reducible refine gate_callee (f := 61) rfl ?_); refine gl_ (some 19) rfl rfl Try.func61 #[.agg #[.slice A0_0 l0_0.length c0_0], .int .i64 x8_1, .int .i64 a1] rfl ?_; (with_reducible refine (spec_l01Distance.calls k1 _ _ l0_0 x8_1 a1 t106 _ ?side1 ?side2 A9.out).mono ?_); (case side1 => exact c2_ HR0_0 HB); (case side2 => exact HC0_0.out); rintro e w15 ⟨rfl, hb⟩; refine ⟨_, rfl, ?_⟩; replace HO_7 := a1_ HO_7 hb; replace BK101 := a2_ BK101 hb; replace HB := b1_ HB hb; (try clear hb); (try clear hb2); (try clear hk); (try clear hi)) | ((with_reducible refine gate_builtin (b := .append) (xs := #[.tmp 22, .tmp 24]) rfl ?_); at_builtin; refine Kd.R_append (Kd.int .i64) (w0 := w) w.heap.size rfl (.tmp 22) (.tmp 24) 24 2 (.int .i64 0) 8 rfl Try.underlying24 info2 rfl (by decide) (by omega) u7 x7_1 x8_1 [.int .i64 x8_1] (fun _ => True) (fun _ => False) rfl rfl ?aP (fun _ hk => hk.elim) ?aF ?aO ?aB ?aS ?aL ?_; (case aP => exact rfl); (case aB => exact (gb_ HB.out)); (case aF => exact (fun _ _ => trivial)); (case aO => exact (rb_ HO_7.out)); (case aS => exact (below_size (gb_ HB.out))); (case aL => have := LMc11.out; omega); intro v108 w16 ho hb hg hat; rw [← Ny107.out] at ho; have n0_ := Aside0.mk (blk_grown (g := gb101) (o := .cells #[.slice A0_0 l0_0.length c0_0] 26 (0, 0)) (bb_ BK101.out) hg (Kd.R_ne HO_7.out BK101.out (by decide))); have n1_ := Aside0.mk (hb); have n2_ := Aside0.mk (ho); clear BK101 HB HO_7; have BK101 := n0_; have HB := n1_; have HO109 := n2_; clear n0_ n1_ n2_ ho hb hg hat))
 go_roundg k1
 case measure => have := HK1.out; omega
 case rel => exact ⟨(y107), (wrap64 (x8_1 + 1)), t2_, H', ⟨by have := HK1.out; omega⟩, ⟨rb_ HO109.out⟩, ⟨bb_ BK101.out⟩, ⟨gb_ HB.out⟩⟩
end Go.Proofs.Ytlfipjdjmpdblaa.P
set_option linter.unusedVariables false
set_option linter.unusedSimpArgs false
namespace Go.Proofs.Ytlfipjdjmpdblaa.P
open Go.RowKit Go.Proofs.YtlfipjdjmpdblaaW.PrintWords Go.Proofs.YtlfipjdjmpdblaaW.PrintLast Go.Proofs.YtlfipjdjmpdblaaW.PrintMore CC
theorem infoD : (Try.prog.info? 54).map (fun i => (i.zero, i.size, i.bytes)) = some (some (.agg #[.int .u8 0, .int .u8 0, .int .u8 0, .int .u8 0, .int .u8 0, .int .u8 0, .int .u8 0, .int .u8 0]), 8, 8) := by kernel_rfl
def flat8 (L : List (List Int)) : List Value := (L.map (nums .u8)).flatten
def all8 (s : List Int) (n : Nat) : List (List Int) := (List.range n).map fun (i : Nat) => dig8 s (i : Int)
theorem all8_succ (s : List Int) (n : Nat) : all8 s (n + 1) = all8 s n ++ [dig8 s (n : Int)] := by simp [all8, List.range_succ]
theorem flat8_succ (s : List Int) (n : Nat) : flat8 (all8 s (n + 1)) = flat8 (all8 s n) ++ nums .u8 (dig8 s (n : Int)) := by simp [flat8, all8_succ]
set_option maxHeartbeats 4000000 in
set_option maxRecDepth 100000 in
theorem allDigits_calls (A : Option Addr) (c : Nat) (s : List Int) (w : World) (hr : Kd.C (Kd.int .i64) w A s.length s) (hc : s.length ≤ c) (hs : isSp s = true) (kc : Nat) (hcount : impl_count.f kc s = some (prd s)) :
    Calls Try.prog 99 #[.agg #[.slice A s.length c]] w
      fun e w' => ∃ v, e = .returned v ∧ w'.ownsRow w.heap.size 54 8 v (prd s).toNat (flat8 (all8 s (prd s).toNat)) ∧ Below w.heap.size w w' := by
  have huS := Try.underlying26
  have huD := Try.underlying54
  have HR := Aside0.mk hr
  have HS := Aside0.mk hs
  have p0 := isSp_prd1 hs
  have p1 := isSp_prd hs
  have HK := Aside0.mk hcount
  clear hr hs hcount
  obtain ⟨i0, hi, hz0, hz1, hz2⟩ := info_parts infoD
  have HI := Aside0.mk (And.intro hi (And.intro hz0 (And.intro hz1 hz2)))
  clear hi hz0 hz1 hz2
  go_enter Try.func99, Try.ntmps99
  go_wp2_with fail
  have hcell : ((w.alloc (.cells #[.slice A s.length c] 26)).alloc (.cells #[] 54)).heap[w.heap.size]? = some (.cells #[.slice A s.length c] 26 (0, 0)) := blk_alloc (blk_new _ _) _
  have hB : Below w.heap.size w ((w.alloc (.cells #[.slice A s.length c] 26)).alloc (.cells #[] 54)) := ((Below.refl _ _).alloc (Nat.le_refl _) _).alloc (by simp) _
  have hO : ((w.alloc (.cells #[.slice A s.length c] 26)).alloc (.cells #[] 54)).ownsRow w.heap.size 54 8 (.slice (some ⟨w.heap.size + 1, 0, none⟩) 0 0) 0 [] :=
    ⟨rfl, .inr ⟨w.heap.size + 1, 0, #[], rfl, by omega, by simpa using blk_new (w.alloc (.cells #[.slice A s.length c] 26)) (.cells #[] 54), by omega, by unfold maxLen; omega, rfl, rfl⟩⟩
  refine (impl_count.calls kc A c s (prd s) _ (Kd.C_below HR.out hB) hc HK.out).mono ?_
  rintro e w1 ⟨rfl, hb⟩
  have K1 := Aside0.mk (blk_below hcell hb)
  have B1 := Aside0.mk (below_then hB hB.size hb)
  have O1 := Aside0.mk (pw_own_below hO hb)
  clear hcell hB hO hb
  obtain ⟨P, hP⟩ : ∃ P : Nat, prd s = (P : Int) := ⟨(prd s).toNat, by omega⟩
  have HP := Aside0.mk hP
  have p2 : P ≤ 1024 := by omega
  rw [hP]
  clear hP
  have hk1 : w1.cell? ⟨w.heap.size, 0, none⟩ = some (.slice A s.length c) := blk_cell K1.out 0
  go_wp2_with fail
  clear hk1
  go_loopw [3, 8] (fun v i W => ∃ (n : Nat), n ≤ P ∧ i = .int .i64 n ∧ Aside0 (W.ownsRow w.heap.size 54 8 v n (flat8 (all8 s n))) ∧ Aside0 (W.heap[w.heap.size]? = some (.cells #[.slice A s.length c] 26 (0, 0))) ∧ Aside0 (Below w.heap.size w W)) (fun _ i _ => P - (intOf i).toNat)
  case atStart => exact ⟨0, by omega, rfl, ⟨O1.out⟩, K1, B1⟩
  case round =>
    obtain ⟨n, hn, rfl, HO, HC, HB⟩ := hrel
    clear K1 B1 O1
    by_cases hlt : n < P
    · have hcz : wr.cell? ⟨w.heap.size, 0, none⟩ = some (.slice A s.length c) := blk_cell HC.out 0
      go_wp2_with fail
      refine (digitsOf_calls A c s (n : Int) _ (Kd.C_below HR.out HB.out) hc HS.out (by omega) (by omega)).mono ?_
      rintro e w2 ⟨rfl, hb2⟩
      have O2 := Aside0.mk (pw_own_below HO.out hb2)
      have C2 := Aside0.mk (blk_below HC.out hb2)
      have B2 := Aside0.mk (below_then HB.out HB.out.size hb2)
      clear HO HC HB hcz hb2
      have E8 := Aside0.mk (dig8_length s (n : Int))
      have F8 := Aside0.mk (flat8_succ s n)
      change Aside0 ((dig8 s (n : Int)).length = 8) at E8
      have hd8 : dloop s s.length (n : Int) (List.replicate 8 0) = dig8 s (n : Int) := rfl
      rw [hd8]
      clear hd8
      generalize dig8 s (n : Int) = d at *
      obtain ⟨y0, y1, y2, y3, y4, y5, y6, y7, rfl⟩ := eight E8.out
      have ea : arr8 [y0, y1, y2, y3, y4, y5, y6, y7] = .agg #[.int .u8 y0, .int .u8 y1, .int .u8 y2, .int .u8 y3, .int .u8 y4, .int .u8 y5, .int .u8 y6, .int .u8 y7] := rfl
      rw [ea]
      clear ea
      go_wp2_with (at_builtin; obtain ⟨hi, hz0, hz1, hz2⟩ := HI.out; refine wpList_append_own _ rfl _ _ 78 rfl w.heap.size 54 i0 (.agg #[.int .u8 0, .int .u8 0, .int .u8 0, .int .u8 0, .int .u8 0, .int .u8 0, .int .u8 0, .int .u8 0]) 8 8 Try.underlying78 hi hz0 hz1 hz2 rfl (by decide) _ n (flat8 (all8 s n)) rfl (O2.out.alloc _) ⟨w2.heap.size, 0, none⟩ 1 1 [.int .u8 y0, .int .u8 y1, .int .u8 y2, .int .u8 y3, .int .u8 y4, .int .u8 y5, .int .u8 y6, .int .u8 y7] rfl ?c0 ?c1 ?c2 ?c3 ?c4 ?c5 ?_; clear hi hz0 hz1 hz2)
      case c0 => rfl
      case c1 =>
        intro j u hj
        have hb := blk_cell (blk_new w2 (.cells #[.int .u8 y0, .int .u8 y1, .int .u8 y2, .int .u8 y3, .int .u8 y4, .int .u8 y5, .int .u8 y6, .int .u8 y7] 54)) j
        rw [add_plain, hb]
        simpa using hj
      case c2 => intro u hu; simp only [List.mem_cons, List.not_mem_nil, or_false] at hu; rcases hu with rfl | rfl | rfl | rfl | rfl | rfl | rfl | rfl <;> rfl
      case c3 => unfold maxLen; omega
      case c4 => omega
      case c5 => have := B2.out.size; simp; omega
      intro v' w3 O3 G3 _
      have O4 : Aside0 (w3.ownsRow w.heap.size 54 8 v' (n + 1) (flat8 (all8 s (n + 1)))) := ⟨by rw [F8.out]; exact O3⟩
      have C3 := Aside0.mk (blk_grown (blk_alloc C2.out _) G3 (own_ne O2.out C2.out (by decide)))
      have B3 := Aside0.mk (pw_below_grown (below_alloc B2.out _) _ (by have := B2.out.size; simp; omega) G3 (fun k hk => own_base O2.out k hk))
      clear O3 G3 O2 C2 B2 F8 E8
      go_wp2
      go_roundw
      case rel => exact ⟨n + 1, by omega, by go_num, O4, C3, B3⟩
      case measure => simp [intOf]; omega
    · go_wp2
      go_ret
      have hn : n = P := by omega
      subst hn
      have e : (prd s).toNat = n := by have := HP.out; omega
      rw [e]
      exact ⟨_, rfl, HO.out, HB.out⟩
end Go.Proofs.Ytlfipjdjmpdblaa.P
namespace Go.Proofs.Ytlfipjdjmpdblaa.P
open Go.RowKit Go.Proofs.YtlfipjdjmpdblaaW.PrintWords Go.Proofs.YtlfipjdjmpdblaaW.PrintLast Go.Proofs.YtlfipjdjmpdblaaW.PrintMore
attribute [local go_sem] max2_int min2_int max_two min_two max_three min_three max_four min_four
set_option linter.unusedVariables false
set_option linter.unusedSimpArgs false
def spec_l01Pick.f (s0_0 : List Int) (s0_1 : Int) (s0_2 : Int) (l1 : List Int) : Option (Int × Int × Int) := (spec_l01Next.f s0_0 s0_1 s0_2 (l1.length : Int)).bind fun bt101 => (if 0 ≤ bt101.1 then (if bt101.1 < (l1.length : Int) then (some (rd l1 bt101.1, bt101.2.1, bt101.2.2)) else (none)) else (none))
set_option maxHeartbeats 8000000 in
set_option maxRecDepth 100000 in
theorem spec_l01Pick.calls (g : Nat) (s0_0 : List Int) (s0_1 : Int) (s0_2 : Int) (A1 : Option Addr) (c1 : Nat) (l1 : List Int) (r1 : Int) (r2 : Int) (r3 : Int) (w0 w : World) (hI : IsS91 w0 w g s0_0 s0_1 s0_2) (hB : Below w0.heap.size w0 w) (hr1 : Kd.C (Kd.int .i64) w A1 l1.length l1) (hc1 : l1.length ≤ c1) (hf1 : ∀ ad, A1 = some ad → 0 < l1.length → ad.block ≠ g) (h : spec_l01Pick.f s0_0 s0_1 s0_2 l1 = some (r1, r2, r3)) :
  Calls Try.prog 82 #[.pointer (some ⟨g, 0, none⟩), .slice A1 l1.length c1] w fun e w' => e = .returned (.int .i64 r1) ∧ IsS91 w0 w' g s0_0 r2 r3 ∧ Below w0.heap.size w0 w' ∧ KeepBut w w' g none := by
 have HR1 := Aside0.mk hr1
 have HC1 := Aside0.mk hc1
 clear hr1 hc1
 have HI0 := Aside0.mk hI
 have HK := Aside0.mk (KeepBut.refl w g none)
 have HL := Aside0.mk hB.size
 clear hI
 have HW0 := Aside0.mk hB.size
 have HB := Aside0.mk hB
 clear hB
 have H : ((spec_l01Next.f s0_0 s0_1 s0_2 (l1.length : Int)).bind fun bt101 => (if 0 ≤ bt101.1 then (if bt101.1 < (l1.length : Int) then (some (rd l1 bt101.1, bt101.2.1, bt101.2.2)) else (none)) else (none))) = some (r1, r2, r3) := h
 clear h
 replace H := Option.bind_eq_some_iff.mp H
 obtain ⟨⟨t101, t102, t103⟩, A30, H⟩ := H
 replace H : (if 0 ≤ t101 then (if t101 < (l1.length : Int) then (some (rd l1 t101, t102, t103)) else (none)) else (none)) = some (r1, r2, r3) := H
 have A3 := Aside0.mk A30
 clear A30
 by_cases c4 : 0 ≤ t101
 rotate_left
 ·rw [if_neg c4] at H
  exact absurd H (by simp)

 rw [if_pos c4] at H
 have c4b0 : decide (0 ≤ t101) = true := decide_eq_true c4
 clear c4
 by_cases c5 : t101 < (l1.length : Int)
 rotate_left
 ·rw [if_neg c5] at H
  exact absurd H (by simp)
 rw [if_pos c5] at H
 have c5b0 : decide (t101 < (l1.length : Int)) = true := decide_eq_true c5
 clear c5
 simp only [Option.some.injEq, Prod.mk.injEq] at H
 obtain ⟨rfl, rfl, rfl⟩ := H
 go_enter Try.func82, Try.ntmps82
 go_wp2_with (first | ((with_reducible refine gate_callee (f := 85) rfl ?_); refine gl_ (some 9) rfl rfl Try.func85 #[.pointer (some ⟨g, 0, none⟩), .int .i64 (l1.length : Int)] rfl ?_; (with_reducible refine (spec_l01Next.calls g s0_0 s0_1 s0_2 (l1.length : Int) t101 t102 t103 w0 _ ?side1 ?side2 A3.out).mono ?_); (case side1 => exact i_ HI0); (case side2 => exact gb_ HB.out); rintro e w6 ⟨rfl, hi, hb, hk⟩; refine ⟨_, rfl, ?_⟩; replace HK := Aside0.mk (KeepBut.trans (kb_ HK) hk (.inl rfl)); replace HB := Aside0.mk (hb); replace HI0 := Aside0.mk (hi); (try clear hb); (try clear hb2); (try clear hk); (try clear hi); have p104 : 0 ≤ (t101 : Int) := of_decide_eq_true t6_; have q104 : t101 < (l1.length : Int) := of_decide_eq_true t6_; obtain ⟨ad104, e104, hx104_0⟩ := Kd.at_int HR1.out t101 p104 q104; cases e104; replace hx104_0 := keep_cell HK.out hx104_0 (by first | (rw [add_block]; exact hf1 _ rfl (by omega)) | exact hf1 _ rfl (by omega) | exact hf1 ad104 rfl (by omega)); replace p104 := eq_true p104; replace q104 := eq_true q104))
 go_ret
 exact ⟨t5_, i_ HI0, gb_ HB.out, kb_ HK⟩
def spec_IsSpace.f (k : Nat) (l0_0 : List Int) : Option (Bool) := (spec_l01Is.f k l0_0).bind fun t102 => (some t102)
set_option maxHeartbeats 8000000 in
set_option maxRecDepth 100000 in
theorem spec_IsSpace.calls (k : Nat) (A0_0 : Option Addr) (c0_0 : Nat) (l0_0 : List Int) (r : Bool) (w : World) (hr0_0 : Kd.C (Kd.int .i64) w A0_0 l0_0.length l0_0) (hc0_0 : l0_0.length ≤ c0_0) (h : spec_IsSpace.f k l0_0 = some r) :
  Calls Try.prog 20 #[.agg #[.slice A0_0 l0_0.length c0_0]] w fun e w' => e = .returned (.bool r) ∧ Below w.heap.size w w' := by
 have hu26 := Try.underlying26
 have HR0_0 := Aside0.mk hr0_0
 have HC0_0 := Aside0.mk hc0_0
 clear hr0_0 hc0_0
 have HB := Aside0.mk (Below.refl w.heap.size w)
 have H : ((spec_l01Is.f k l0_0).bind fun t102 => (some t102)) = some r := h
 clear h
 replace H := Option.bind_eq_some_iff.mp H
 obtain ⟨t102, A20, H⟩ := H
 replace H : (some t102) = some r := H
 have A2 := Aside0.mk A20
 clear A20
 obtain rfl := Option.some.inj H
 go_enter Try.func20, Try.ntmps20
 go_wp2_with (first | ((with_reducible refine gate_dst (N := 1) rfl ?_); refine bx_ (N := 1) (cs := #[.slice A0_0 l0_0.length c0_0]) (t := 26) rfl rfl ?_; intro gb101 hg w3 hbox hb; have n0_ := b1_ HB hb; have n1_ := Aside0.mk (hbox); have n2_ := ge_ hg HB; have n3_ := ge_ hg HB; clear HB; have HB := n0_; have BK101 := n1_; have GW101 := n2_; have GE101 := n3_; clear n0_ n1_ n2_ n3_ hb hbox hg; have hcz4_0 := hz_ BK101; have hfz4_0 := blk_frozen BK101.out 0) | ((with_reducible refine gate_callee (f := 67) rfl ?_); refine gl_ (some 4) rfl rfl Try.func67 #[.agg #[.slice A0_0 l0_0.length c0_0]] rfl ?_; (with_reducible refine (spec_l01Is.calls k _ _ l0_0 t102 _ ?side1 ?side2 A2.out).mono ?_); (case side1 => exact c2_ HR0_0 HB); (case side2 => exact HC0_0.out); rintro e w5 ⟨rfl, hb⟩; refine ⟨_, rfl, ?_⟩; replace BK101 := a2_ BK101 hb; replace HB := b1_ HB hb; (try clear hb); (try clear hb2); (try clear hk); (try clear hi)))
 go_ret
 exact ⟨t5_, gb_ HB.out⟩
end Go.Proofs.Ytlfipjdjmpdblaa.P
set_option linter.unusedVariables false
set_option linter.unusedSimpArgs false
namespace Go.Proofs.Ytlfipjdjmpdblaa.P
open Go.RowKit Go.Proofs.YtlfipjdjmpdblaaW.PrintWords Go.Proofs.YtlfipjdjmpdblaaW.PrintLast Go.Proofs.YtlfipjdjmpdblaaW.PrintMore CC
def upd8 (g : Nat → Int) (n : Nat) : List Int := (List.range 8).map fun k => if k < n then g k else 0
theorem upd8_length (g : Nat → Int) (n : Nat) : (upd8 g n).length = 8 := by simp [upd8]
theorem upd8_zero (g : Nat → Int) : upd8 g 0 = List.replicate 8 0 := rfl
theorem upd8_succ (g : Nat → Int) (n : Nat) : (upd8 g n).set n (g n) = upd8 g (n + 1) := by
  apply List.ext_getElem?
  intro k
  by_cases hk : k = n
  · subst hk
    by_cases h8 : k < 8
    · rw [List.getElem?_set_self (by rw [upd8_length]; exact h8)]
      simp [upd8, h8]
    · rw [List.getElem?_eq_none (by rw [List.length_set, upd8_length]; omega), List.getElem?_eq_none (by rw [upd8_length]; omega)]
  · rw [List.getElem?_set_ne (fun e => hk e.symm)]
    simp only [upd8, List.getElem?_map]
    by_cases h8 : k < 8
    · simp only [List.getElem?_range h8, Option.map_some, Option.some.injEq]
      by_cases h1 : k < n
      · rw [if_pos h1, if_pos (by omega)]
      · rw [if_neg h1, if_neg (by omega)]
    · rw [List.getElem?_eq_none (by simp; omega)]
      rfl
theorem size_rd {s : List Int} (hs : s.all sizeOk = true) {k : Nat} (hk : k < s.length) : 2 ≤ rd s (k : Int) ∧ rd s (k : Int) ≤ 4 := by
  have hq : sizeOk (rd s (k : Int)) = true := by
    have : rd s (k : Int) = s[k] := by simp [rd, List.getD_eq_getElem?_getD, hk]
    rw [this]
    exact List.all_eq_true.1 hs _ (List.getElem_mem hk)
  have := (sizeOk_iff _).1 hq
  omega
theorem mod_small {q x : Int} (h0 : 2 ≤ q) (h1 : q ≤ 4) : 0 ≤ x % q ∧ x % q ≤ 3 := by
  have a := Int.emod_nonneg x (show q ≠ 0 by omega)
  have b := Int.emod_lt_of_pos x (show 0 < q by omega)
  omega
theorem upd8_rd (g : Nat → Int) (n : Nat) {k : Nat} (hk : k < n) (h8 : k < 8) : rd (upd8 g n) (k : Int) = g k := by
  simp [rd, upd8, List.getD_eq_getElem?_getD, h8, hk]
end Go.Proofs.Ytlfipjdjmpdblaa.P
