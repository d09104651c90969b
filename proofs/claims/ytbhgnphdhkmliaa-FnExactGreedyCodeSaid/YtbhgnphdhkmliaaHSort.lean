/- A list in order, and without doubles: what slices.Sort and slices.Compact do to a list of the call's own. -/
import Derived.Test.YtbhgnphdhkmliaaHThose0
import Derived.Test.YtbhgnphdhkmliaaShelf
import Derived.Test.YtbhgnphdhkmliaaAsc
import Derived.Sort.OwnSortedInts
import Derived.Maps.AppendAt
set_option linter.unusedVariables false
set_option linter.unusedSimpArgs false
namespace Go.Proofs.Ytbhgnphdhkmliaa.P
open Go.RowKit Go.Lib Go.Sort Go.Proofs.YtbhgnphdhkmliaaW.PrintWords Go.Proofs.YtbhgnphdhkmliaaW.PrintLast Go.Proofs.YtbhgnphdhkmliaaW.PrintMore CC

theorem grow_none (w : World) : grow w #[] = w := by simp [grow]

theorem sort_calls (b : Nat) (A : Option Addr) (cap : Nat) (xs : List Int) (w : World) (ho : w.ownsRow b 2 1 (.slice A xs.length cap) xs.length (nums .i64 xs)) (hl : xs.length ≤ 1048576) :
    Calls Try.prog 70 #[.slice A xs.length cap] w
      fun e w' => e = .returned (.tuple #[]) ∧ w'.ownsRow b 2 1 (.slice A xs.length cap) xs.length (nums .i64 (msort xs)) ∧ w.grownBy w' (Value.slice A xs.length cap).ownBlock := by
  have h1 := ho.2
  rcases h1 with ⟨hv, h0⟩ | ⟨g, cap', cur, hv, hbase, hb, hn, hcap, hsz, hcells⟩
  · have h0' : xs = [] := List.eq_nil_of_length_eq_zero h0
    subst h0'
    refine (Try.slices_Sort_int_none A cap w).mono ?_
    rintro e w' ⟨rfl, rfl⟩
    exact ⟨rfl, by simpa [msort] using ho, World.grownBy.refl _ _⟩
  · injection hv with e1 e2 e3
    subst e1 e3
    have hH := holds_of_blockI (ss := xs) hb (by simpa [nums] using hcells)
    refine (Try.slices_Sort_int g 0 cap xs w hH (blk_lt hb) (by omega)).mono ?_
    rintro e w' ⟨rfl, n, os, rfl⟩
    exact ⟨rfl, ownsRow_sortedI (ts := msort xs) (msort_length xs) hbase hb hn hcap hsz, grownBy_sortedI _⟩

theorem compact_calls (b : Nat) (A : Option Addr) (cap : Nat) (xs : List Int) (w : World) (ho : w.ownsRow b 2 1 (.slice A xs.length cap) xs.length (nums .i64 xs)) (hl : xs.length ≤ 1048576) :
    Calls Try.prog 80 #[.slice A xs.length cap] w
      fun e w' => ∃ v, e = .returned v ∧ Kd.R (Kd.int .i64) 2 w' b (fun _ => True) v (Lib.compact xs) ∧ w.grownBy w' (Value.slice A xs.length cap).ownBlock := by
  have h1 := ho.2
  rcases h1 with ⟨hv, h0⟩ | ⟨g, cap', cur, hv, hbase, hb, hn, hcap, hsz, hcells⟩
  · have h0' : xs = [] := List.eq_nil_of_length_eq_zero h0
    subst h0'
    refine (Try.slices_Compact_int_empty A cap w).mono ?_
    rintro e w' ⟨rfl, rfl⟩
    exact ⟨_, rfl, Kd.R_of_own ho (fun _ _ => trivial), World.grownBy.refl _ _⟩
  · injection hv with e1 e2 e3
    subst e1 e3
    have hH := holds_of_blockI (ss := xs) hb (by simpa [nums] using hcells)
    refine (Try.slices_Compact_int g 0 cap xs w hH (by omega) hn).mono ?_
    rintro e w' ⟨rfl, q, rfl⟩
    have hll : (Lib.compact xs ++ List.replicate (xs.length - (Lib.compact xs).length) 0).length = xs.length := by
      have := compact_len xs
      simp
      omega
    have hr := ownsRow_sortedI (n := q) (os := #[]) (ss := xs) (ts := Lib.compact xs ++ List.replicate (xs.length - (Lib.compact xs).length) 0) hll hbase hb hn hcap hsz
    have hg := grownBy_sortedI (w := w) (g := g) (n := q) (os := #[]) (Lib.compact xs ++ List.replicate (xs.length - (Lib.compact xs).length) 0).toArray
    rw [grow_none] at hr hg
    have hR : Kd.R (Kd.int .i64) 2 _ b (fun _ => True) (.slice (some ⟨g, 0, none⟩) xs.length cap) (Lib.compact xs ++ List.replicate (xs.length - (Lib.compact xs).length) 0) := Kd.R_of_own (by rw [hll]; exact hr) (fun _ _ => trivial)
    have hR2 := Kd.R_take hR (m := (Lib.compact xs).length) (by rw [hll]; exact compact_len xs)
    rw [List.take_left'] at hR2
    · exact ⟨_, rfl, hR2, hg⟩
    · rfl
end Go.Proofs.Ytbhgnphdhkmliaa.P
