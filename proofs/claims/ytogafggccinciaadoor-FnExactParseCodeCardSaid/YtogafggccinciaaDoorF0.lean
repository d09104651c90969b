/- The values' own types in this seat, printed by this session's driver with the kit's print program. -/
import Derived.Test.YtogafggccinciaaDoorProg
import Derived.Below
import Derived.Deep.Draws
import Derived.Deep.AppendLies
import Derived.Maps.AppendAt
import Derived.OwnWalk
import Derived.Laws.BytesArg
import Derived.Laws.MakeOwn
import Derived.Laws.OwnMore
import Derived.Deep.OwnRows
import Derived.Tactics
import Derived.Lib.ConvBytes
import Derived.Laws.Slices
import Derived.WalkKit
import Derived.KernelRfl
import Derived.RowKit3
import Derived.Deep.LoopGhost
import Derived.Deep.QuietTactic
import Derived.BigQuiet
import Derived.WideLaws
import Derived.Deep.DeepCutAuto
import Derived.Deep.CutBlock
import Derived.Deep.RegionHeld3
import Derived.Laws.Rows
import Derived.Lib.AppendStr
import Derived.ArgAppend
import Derived.Laws.IdiomCopy
import Derived.OrdersHeld
import Derived.Laws.BitsLemmas
import Derived.RowKit
import Derived.Test.YtogafggccinciaaDoorWWords
import Derived.Test.YtogafggccinciaaDoorWLast
import Derived.Test.YtogafggccinciaaDoorWMore
namespace Go.Proofs.YtogafggccinciaaDoor.P
open Go.RowKit Go.Proofs.YtogafggccinciaaDoorW.PrintWords Go.Proofs.YtogafggccinciaaDoorW.PrintLast Go.Proofs.YtogafggccinciaaDoorW.PrintMore
attribute [local go_sem] max2_int min2_int max_two min_two max_three min_three max_four min_four
set_option linter.unusedVariables false
set_option linter.unusedSimpArgs false

def errW : Option Int → Value
  | none => .nilIface
  | some c => .iface 0 (.int .i64 c)
theorem errW_none : errW none = .nilIface := rfl
theorem errW_some (c : Int) : errW (some c) = .iface 0 (.int .i64 c) := rfl

/-- What another world is made of this one by making and drawing alone. -/
inductive Stp_ (w : World) : World → Prop
  | refl : Stp_ w w
  | alloc {w' : World} (h : Stp_ w w') (o : Obj) : Stp_ w (w'.alloc o)
  | drew {w' : World} (h : Stp_ w w') : Stp_ w w'.drew
  | drewN {w' : World} (h : Stp_ w w') (n : Nat) : Stp_ w (w'.drewN n)
theorem rb_ {α : Type} {d : Kd α} {e base : Nat} {ok : Nat → Prop} {v : Value} {xs : List α} {w w' : World} (h : d.R e w base ok v xs) (s : Stp_ w w' := by with_reducible repeat first | exact .refl | apply Stp_.alloc | apply Stp_.drewN | apply Stp_.drew) : d.R e w' base ok v xs := by
  induction s with
  | refl => exact h
  | alloc _ o ih => exact Kd.R_alloc ih o
  | drew _ ih => exact Kd.R_drew ih
  | drewN _ n ih => exact Kd.R_drewN ih n
theorem bb_ {w w' : World} {g : Nat} {o : Obj} (h : w.heap[g]? = some o) (s : Stp_ w w' := by with_reducible repeat first | exact .refl | apply Stp_.alloc | apply Stp_.drewN | apply Stp_.drew) : w'.heap[g]? = some o := by
  induction s with
  | refl => exact h
  | alloc _ o ih => exact blk_alloc ih o
  | drew _ ih => exact blk_drew ih
  | drewN _ n ih => exact blk_drewN ih n
inductive StG_ (n : Nat) (w : World) : World → Prop
  | refl : StG_ n w w
  | alloc {w' : World} (h : StG_ n w w') (o : Obj) : StG_ n w (w'.alloc o)
  | drew {w' : World} (h : StG_ n w w') : StG_ n w w'.drew
  | drewN {w' : World} (h : StG_ n w w') (m : Nat) : StG_ n w (w'.drewN m)
  | set {w' : World} {k j : Nat} {v : Value} (h : StG_ n w w') (hk : n ≤ k) : StG_ n w (w'.setCell ⟨k, j, none⟩ v)
theorem gb_ {w0 w w' : World} (h : Below w0.heap.size w0 w) (s : StG_ w0.heap.size w w' := by repeat (first | (with_reducible first | exact .refl | apply StG_.alloc | apply StG_.drewN | apply StG_.drew | refine StG_.set ?_ (Aside0.out (by assumption))) | exact .refl)) : Below w0.heap.size w0 w' := by
  induction s with
  | refl => exact h
  | alloc _ o ih => exact below_alloc ih o
  | drew _ ih => exact below_drew1 ih
  | drewN _ m ih => exact pw_below_drewN ih m
  | set _ hk ih => exact below_set ih hk
theorem a1_ {α : Type} {d : Kd α} {e base : Nat} {ok : Nat → Prop} {v : Value} {xs : List α} {w w' w1 : World} (h : Aside0 (d.R e w base ok v xs)) (hb : Below w'.heap.size w' w1) (s : Stp_ w w' := by with_reducible repeat first | exact .refl | apply Stp_.alloc | apply Stp_.drewN | apply Stp_.drew) : Aside0 (d.R e w1 base ok v xs) := ⟨Kd.R_below (rb_ h.out s) hb⟩
theorem a2_ {w w' w1 : World} {g : Nat} {o : Obj} (h : Aside0 (w.heap[g]? = some o)) (hb : Below w'.heap.size w' w1) (s : Stp_ w w' := by with_reducible repeat first | exact .refl | apply Stp_.alloc | apply Stp_.drewN | apply Stp_.drew) : Aside0 (w1.heap[g]? = some o) := ⟨blk_below (bb_ h.out s) hb⟩
theorem a5_ {α β : Type} {d : Kd α} {d2 : Kd β} {e e2 base : Nat} {ok ok2 : Nat → Prop} {u v : Value} {xs : List α} {ys : List β} {w W w1 w2 : World} (h : Aside0 (d.R e w base ok u xs)) (ho : d2.R e2 w2 W.heap.size ok2 v ys) (hb : Below W.heap.size W w1) (s : Stp_ w W := by with_reducible repeat first | exact .refl | apply Stp_.alloc | apply Stp_.drewN | apply Stp_.drew) : Aside0 (d.R e w1 base (fun k => ok k ∧ some k ≠ v.ownBlock) u xs) := ⟨Kd.R_elder' (rb_ h.out s) (Kd.R_base ho) hb⟩
inductive Sts_ (g : Nat) (w : World) : World → Prop
  | refl : Sts_ g w w
  | alloc {w' : World} (h : Sts_ g w w') (o : Obj) : Sts_ g w (w'.alloc o)
  | drew {w' : World} (h : Sts_ g w w') : Sts_ g w w'.drew
  | drewN {w' : World} (h : Sts_ g w w') (n : Nat) : Sts_ g w (w'.drewN n)
  | set {w' : World} {j : Nat} {u : Value} (h : Sts_ g w w') : Sts_ g w (w'.setCell ⟨g, j, none⟩ u)
theorem rs_ {α : Type} {d : Kd α} {e base : Nat} {ok : Nat → Prop} {v : Value} {xs : List α} {w w' : World} {g t : Nat} {cells : Array Value} (h : d.R e w base ok v xs) (k : w.heap[g]? = some (.cells cells t (0, 0))) (ht : ∀ q, q ∈ e :: d.E → q ≠ t) (s : Sts_ g w w') : d.R e w' base ok v xs := by
  refine Kd.R_mono (ok := fun k => ok k ∧ k ≠ g) ?_ (fun _ hk => hk.1)
  have h0 := Kd.R_types h k ht
  induction s with
  | refl => exact h0
  | alloc _ o ih => exact Kd.R_alloc ih o
  | drew _ ih => exact Kd.R_drew ih
  | drewN _ n ih => exact Kd.R_drewN ih n
  | set _ ih => exact Kd.R_far (p := ⟨g, _, none⟩) ih (fun _ hk => hk.2) _
theorem bs_ {w w' : World} {g g2 t : Nat} {cs : Array Value} (h : w.heap[g]? = some (.cells cs t (0, 0))) (nb : g ≠ g2) (s : Sts_ g2 w w') : w'.heap[g]? = some (.cells cs t (0, 0)) := by
  induction s with
  | refl => exact h
  | alloc _ o ih => exact blk_alloc ih o
  | drew _ ih => exact blk_drew ih
  | drewN _ n ih => exact blk_drewN ih n
  | set _ ih => exact blk_far ih (p := ⟨g2, _, none⟩) nb _
theorem a3_ {w w' w1 : World} {g g2 t : Nat} {cs : Array Value} (h : Aside0 (w.heap[g]? = some (.cells cs t (0, 0)))) (nb : Aside0 (g ≠ g2)) (hb : Below w'.heap.size w' w1) (s : Sts_ g2 w w' := by repeat (first | (with_reducible first | exact .refl | apply Sts_.alloc | apply Sts_.drewN | apply Sts_.drew | apply Sts_.set) | exact .refl)) : Aside0 (w1.heap[g]? = some (.cells cs t (0, 0))) := ⟨blk_below (bs_ h.out nb.out s) hb⟩
theorem a4_ {α : Type} {d : Kd α} {e base : Nat} {ok : Nat → Prop} {v : Value} {xs : List α} {w w' w1 : World} {g t : Nat} {cells : Array Value} (h : Aside0 (d.R e w base ok v xs)) (k : Aside0 (w.heap[g]? = some (.cells cells t (0, 0)))) (hb : Below w'.heap.size w' w1) (s : Sts_ g w w' := by repeat (first | (with_reducible first | exact .refl | apply Sts_.alloc | apply Sts_.drewN | apply Sts_.drew | apply Sts_.set) | exact .refl)) (ht : ∀ q, q ∈ e :: d.E → q ≠ t := by decide) : Aside0 (d.R e w1 base ok v xs) := ⟨Kd.R_below (rs_ h.out k.out ht s) hb⟩
theorem a8_ {α β : Type} {d : Kd α} {d2 : Kd β} {e e2 base : Nat} {ok ok2 : Nat → Prop} {u v : Value} {xs : List α} {ys : List β} {w W w1 w2 : World} {g t : Nat} {cells : Array Value} (h : Aside0 (d.R e w base ok u xs)) (k : Aside0 (w.heap[g]? = some (.cells cells t (0, 0)))) (ho : d2.R e2 w2 W.heap.size ok2 v ys) (hb : Below W.heap.size W w1) (s : Sts_ g w W := by repeat (first | (with_reducible first | exact .refl | apply Sts_.alloc | apply Sts_.drewN | apply Sts_.drew | apply Sts_.set) | exact .refl)) (ht : ∀ q, q ∈ e :: d.E → q ≠ t := by decide) : Aside0 (d.R e w1 base (fun k => ok k ∧ some k ≠ v.ownBlock) u xs) := ⟨Kd.R_elder' (rs_ h.out k.out ht s) (Kd.R_base ho) hb⟩
theorem a7_ {α : Type} {d : Kd α} {e base : Nat} {ok : Nat → Prop} {v : Value} {xs : List α} {w w' w1 : World} {g t : Nat} {cs : Array Value} (k : Aside0 (w.heap[g]? = some (.cells cs t (0, 0)))) (hk : Kept w' w1 (fun k_ => some k_ = v.ownBlock)) (h : Aside0 (d.R e w base ok v xs)) (s : Stp_ w w' := by with_reducible repeat first | exact .refl | apply Stp_.alloc | apply Stp_.drewN | apply Stp_.drew) (ht : e ≠ t := by decide) : Aside0 (w1.heap[g]? = some (.cells cs t (0, 0))) := ⟨blk_kept (bb_ k.out s) hk (fun hs => Kd.R_ne h.out k.out ht hs)⟩
theorem c1_ {α : Type} {d : Kd α} {e base : Nat} {ok : Nat → Prop} {A : Option Addr} {n c : Nat} {xs : List α} {w w' : World} (h : Aside0 (d.R e w base ok (.slice A n c) xs)) (s : Stp_ w w' := by with_reducible repeat first | exact .refl | apply Stp_.alloc | apply Stp_.drewN | apply Stp_.drew) : d.C w' A xs.length xs := (Kd.R_reads' (rb_ h.out s)).2.2
theorem c2_ {α : Type} {d : Kd α} {A : Option Addr} {n : Nat} {xs : List α} {w W w' : World} (h : Aside0 (d.C w A n xs)) (hb : Aside0 (Below w.heap.size w W)) (s : Stp_ W w' := by with_reducible repeat first | exact .refl | apply Stp_.alloc | apply Stp_.drewN | apply Stp_.drew) : d.C w' A n xs := by
  have h0 := Kd.C_below h.out hb.out
  induction s with
  | refl => exact h0
  | alloc _ o ih => exact Kd.C_alloc ih o
  | drew _ ih => exact Kd.C_drew ih
  | drewN _ n ih => exact Kd.C_drewN ih n
abbrev OB_ (k : Nat) (v : Value) : Prop := some k ≠ v.ownBlock

theorem info2 : (Tryd.prog.info? 2).map (fun i => (i.zero, i.size, i.bytes)) = some (some (.int .i64 0), 1, 8) := by kernel_rfl
theorem info9 : (Tryd.prog.info? 9).map (fun i => (i.zero, i.size, i.bytes)) = some (some (.string ⟨#[]⟩), 1, 16) := by kernel_rfl
-- the values' own types
def rd_L2 (xs : List (List ByteArray)) (i : Int) : (List ByteArray) := xs.getD i.toNat ([] : List ByteArray)
theorem at_L2 {w : World} {A : Option Addr} {n : Nat} {xs : List (List ByteArray)} (h : Kd.C (Kd.slice 9 Kd.string) w A n xs) (i : Int) (h0 : 0 ≤ i) (h1 : i < n) : ∃ ad A0 c0, A = some ad ∧ w.cell? (ad.add i.toNat) = some (.slice A0 (rd_L2 xs i).length c0) ∧ (rd_L2 xs i).length ≤ c0 ∧ Kd.string.C w A0 (rd_L2 xs i).length (rd_L2 xs i) := by
  obtain ⟨ad, c, e, _, hK, hc0⟩ := Kd.C_get h ([] : List ByteArray) i h0 h1
  have hc : ∀ j u, c[j]? = some u → w.cell? (ad.add (i.toNat * 1 + j)) = some u := hc0
  obtain ⟨A0, c0, rfl, l0, g0⟩ := hK
  exact ⟨ad, A0, c0, e, by have hq := hc 0 _ rfl; rwa [Nat.mul_one, Nat.add_zero] at hq, l0, g0⟩

end Go.Proofs.YtogafggccinciaaDoor.P
