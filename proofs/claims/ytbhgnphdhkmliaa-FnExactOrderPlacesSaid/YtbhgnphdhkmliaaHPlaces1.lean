/- A word with the places in an order: what the function that the program's OrderPlaces hands on returns. -/
import Derived.Test.YtbhgnphdhkmliaaHOrdered
import Derived.Test.YtbhgnphdhkmliaaHIsOrder
import Derived.Test.YtbhgnphdhkmliaaHDig
import Derived.Test.YtbhgnphdhkmliaaQBase
set_option linter.unusedVariables false
set_option linter.unusedSimpArgs false
namespace Go.Proofs.Ytbhgnphdhkmliaa.P
open Go.RowKit Go.Proofs.YtbhgnphdhkmliaaW.PrintWords Go.Proofs.YtbhgnphdhkmliaaW.PrintLast Go.Proofs.YtbhgnphdhkmliaaW.PrintMore CC

/-- A list put where an order says, the first n places. -/
def putN (N : Nat) (e p : List Int) : Nat → List Int
  | 0 => List.replicate N 0
  | n + 1 => (putN N e p n).set (rd p (n : Int)).toNat (rd e (n : Int))
theorem putN_length (N : Nat) (e p : List Int) : ∀ n, (putN N e p n).length = N
  | 0 => by simp [putN]
  | n + 1 => by rw [putN, List.length_set, putN_length N e p n]
theorem ordD_putN (e p : List Int) : ∀ n, ordD e p n = putN 8 e p n
  | 0 => rfl
  | n + 1 => by rw [ordD, putN, ordD_putN e p n]
/-- The sizes with the places in an order. -/
def ospL (s p : List Int) : List Int := putN p.length s p p.length
theorem rd_getElem {l : List Int} {n : Nat} (h : n < l.length) : rd l (n : Int) = l[n] := by simp [rd, List.getD_eq_getElem?_getD, h]
theorem rd_set_ne9 (L : List Int) {k y : Nat} (h : k ≠ y) (v : Int) : rd (L.set k v) (y : Int) = rd L (y : Int) := by simp only [rd, Int.toNat_natCast, List.getD_eq_getElem?_getD, List.getElem?_set_ne h]
theorem putN_rd {p : List Int} (hn : p.Nodup) (hp : ∀ x ∈ p, 0 ≤ x) (N : Nat) (e : List Int) : ∀ (n : Nat), n ≤ p.length → ∀ j : Nat, j < n → rd p (j : Int) < N → rd (putN N e p n) (rd p (j : Int)) = rd e (j : Int)
  | 0, _, j, hj, _ => by omega
  | n + 1, hl, j, hj, hN => by
    have hm : ∀ k : Nat, k < p.length → 0 ≤ rd p (k : Int) := fun k hk => hp _ (by rw [rd_getElem hk]; exact List.getElem_mem _)
    have hj0 := hm j (by omega)
    obtain ⟨y, hy⟩ := Int.eq_ofNat_of_zero_le hj0
    rw [putN, hy]
    by_cases e1 : j = n
    · subst e1
      rw [hy, Int.toNat_natCast]
      have hlen : y < (putN N e p j).length := by rw [putN_length]; omega
      simp [rd, List.getD_eq_getElem?_getD, hlen]
    · have ih := putN_rd hn hp N e n (by omega) j (by omega) hN
      rw [hy] at ih
      have hne : (rd p (n : Int)).toNat ≠ y := by
        intro h
        have hn0 := hm n (by omega)
        have h2 : rd p (n : Int) = rd p (j : Int) := by omega
        rw [rd_getElem (show n < p.length by omega), rd_getElem (show j < p.length by omega)] at h2
        exact e1 ((List.getElem_inj hn).1 h2).symm
      rw [← ih, rd_set_ne9 _ hne]
theorem msort_perm9 (l : List Int) : (msort l).Perm l := List.mergeSort_perm l _
/-- What an order is: each number below its length once. -/
theorem ordQ_facts {p : List Int} {n : Int} (h : ordQ p n = true) : (p.length : Int) = n ∧ p.Nodup ∧ (∀ x ∈ p, 0 ≤ x ∧ x < p.length) ∧ (upTo p.length).Perm p := by
  unfold ordQ at h
  rw [Bool.and_eq_true, decide_eq_true_eq, decide_eq_true_eq] at h
  have hp : (upTo p.length).Perm p := by rw [← h.1]; exact msort_perm9 p
  refine ⟨h.2, ?_, fun x hx => ?_, hp⟩
  · refine (hp.nodup_iff).1 ?_
    unfold upTo
    rw [List.nodup_iff_pairwise_ne, List.pairwise_map]
    exact (List.nodup_range).imp (fun h e => h (by omega))
  · have := (hp.mem_iff).2 hx
    simp only [upTo, List.mem_map, List.mem_range] at this
    obtain ⟨i, hi, e⟩ := this
    omega
theorem ordQ_rd {p : List Int} {n : Int} (h : ordQ p n = true) : ∀ j : Nat, j < p.length → 0 ≤ rd p (j : Int) ∧ rd p (j : Int) < p.length := fun j hj => by
  rw [rd_getElem hj]
  exact (ordQ_facts h).2.2.1 _ (List.getElem_mem _)
theorem ordQ_onto {p : List Int} {n : Int} (h : ordQ p n = true) {k : Nat} (hk : k < p.length) : ∃ j : Nat, j < p.length ∧ rd p (j : Int) = k := by
  have : (k : Int) ∈ p := (ordQ_facts h).2.2.2.mem_iff.1 (by simp only [upTo, List.mem_map, List.mem_range]; exact ⟨k, hk, rfl⟩)
  obtain ⟨j, hj, e⟩ := List.getElem_of_mem this
  exact ⟨j, hj, by rw [rd_getElem hj, e]⟩
theorem prd_perm {a b : List Int} (h : a.Perm b) : prd a = prd b := by
  induction h with
  | nil => rfl
  | cons x _ ih => simp only [prd, ih]
  | swap x y l => simp only [prd]; rw [← Int.mul_assoc, ← Int.mul_assoc, Int.mul_comm x y]
  | trans _ _ h1 h2 => exact h1.trans h2
theorem ospL_perm {s p : List Int} (h : ordQ p s.length = true) : (ospL s p).Perm s := by
  obtain ⟨hl, hn, hb, hp⟩ := ordQ_facts h
  have hl2 : p.length = s.length := by omega
  have e1 : s = p.map (fun k => rd (ospL s p) k) := by
    apply List.ext_getElem (by simp [hl2])
    intro j h1 h2
    rw [List.getElem_map]
    have hj : j < p.length := by simpa using h2
    have := putN_rd hn (fun x hx => (hb x hx).1) p.length s p.length (Nat.le_refl _) j hj (ordQ_rd h j hj).2
    rw [rd_getElem hj, rd_getElem h1] at this
    exact this.symm
  have e2 : ospL s p = (upTo p.length).map (fun k => rd (ospL s p) k) := by
    apply List.ext_getElem (by unfold ospL; rw [putN_length]; simp [upTo])
    intro j h1 h2
    rw [List.getElem_map]
    have : (upTo p.length)[j]'(by simpa using h2) = (j : Int) := by simp [upTo]
    rw [this, rd_getElem h1]
  have h3 := hp.map (fun k => rd (ospL s p) k)
  rw [← e1, ← e2] at h3
  exact h3
theorem ospL_len (s p : List Int) : (ospL s p).length = p.length := by unfold ospL; rw [putN_length]
theorem ospL_isSp {s p : List Int} (hs : isSp s = true) (h : ordQ p s.length = true) : isSp (ospL s p) = true := by
  have hp := ospL_perm h
  have h0 := (isSp_iff s).1 hs
  refine (isSp_iff _).2 ⟨by rw [hp.length_eq]; exact h0.1, by rw [hp.length_eq]; exact h0.2.1, ?_, by rw [prd_perm hp]; exact h0.2.2.2⟩
  rw [List.all_eq_true]
  intro x hx
  exact List.all_eq_true.1 h0.2.2.1 x (hp.mem_iff.1 hx)
theorem ospL_rd {s p : List Int} (h : ordQ p s.length = true) {j : Nat} (hj : j < p.length) : rd (ospL s p) (rd p (j : Int)) = rd s (j : Int) := by
  obtain ⟨hl, hn, hb, hp⟩ := ordQ_facts h
  exact putN_rd hn (fun x hx => (hb x hx).1) p.length s p.length (Nat.le_refl _) j hj (ordQ_rd h j hj).2
theorem putN_inR {s p e : List Int} (hs : isSp s = true) (h : ordQ p s.length = true) (hi : inR s e = true) (he : s.length ≤ e.length) {N : Nat} (hN : p.length ≤ N) : inR (ospL s p) (putN N e p p.length) = true := by
  obtain ⟨hl, hn, hb, hp⟩ := ordQ_facts h
  have hl2 : p.length = s.length := by omega
  refine inR_of _ _ fun k hk _ => ?_
  rw [ospL_len] at hk
  obtain ⟨j, hj, ej⟩ := ordQ_onto h hk
  have h1 := putN_rd hn (fun x hx => (hb x hx).1) N e p.length (Nat.le_refl _) j hj (by have := (ordQ_rd h j hj).2; omega)
  have h2 := ospL_rd h hj
  rw [ej] at h1 h2
  rw [h1, h2]
  exact inR_rd s e j hi (by omega) (by omega)
/-- A word with the places in an order. -/
def plW (s p : List Int) (x : Int) : Int := hor 0 (ospL s p) (putN 8 (dig8 s x) p p.length)

set_option maxHeartbeats 4000000 in
set_option maxRecDepth 100000 in
theorem place1_calls (gx gs gp : Nat) (AX : Option Addr) (cX : Nat) (A : Option Addr) (c : Nat) (s : List Int) (A2 : Option Addr) (c2 : Nat) (p : List Int) (x : Int) (w : World) (hrX : Kd.C (Kd.int .i64) w AX (ospL s p).length (ospL s p)) (hcX : (ospL s p).length ≤ cX) (hr : Kd.C (Kd.int .i64) w A s.length s) (hc : s.length ≤ c) (hr2 : Kd.C (Kd.int .i64) w A2 p.length p) (hc2 : p.length ≤ c2) (hs : isSp s = true) (ho : ordQ p s.length = true) (h0 : 0 ≤ x) (h1 : x ≤ 1024)
    (kx : w.cell? ⟨gx, 0, none⟩ = some (.slice AX (ospL s p).length cX)) (ks : w.cell? ⟨gs, 0, none⟩ = some (.slice A s.length c)) (kp : w.cell? ⟨gp, 0, none⟩ = some (.slice A2 p.length c2)) :
    Calls Try.prog 53 #[.int .i64 x, .pointer (some ⟨gx, 0, none⟩), .pointer (some ⟨gs, 0, none⟩), .pointer (some ⟨gp, 0, none⟩)] w
      fun e w' => e = .returned (.int .i64 (plW s p x)) ∧ Below w.heap.size w w' := by
  have huS := Try.underlying26
  have huD := Try.underlying60
  have HR := Aside0.mk hr
  have HR2 := Aside0.mk hr2
  have HRX := Aside0.mk hrX
  have HS := Aside0.mk hs
  have HSX := Aside0.mk (ospL_isSp hs ho)
  have hsl := isSp_len hs
  obtain ⟨hl, _, _, _⟩ := ordQ_facts ho
  have hpl : p.length ≤ 8 := by omega
  have HPP : Aside0 (∀ j : Nat, j < p.length → 0 ≤ rd p (j : Int) ∧ rd p (j : Int) < 8) := ⟨fun j hj => by have := ordQ_rd ho j hj; omega⟩
  have E8 := Aside0.mk (dig8_length s x)
  have I1 := Aside0.mk (putN_inR (N := 8) hs ho (dig8_inR hs x) (by rw [dig8_length]; exact hsl) hpl)
  have I2 := Aside0.mk (putN_length 8 (dig8 s x) p p.length)
  have HX : Aside0 (plW s p x = hor 0 (ospL s p) (putN 8 (dig8 s x) p p.length)) := ⟨rfl⟩
  obtain ⟨sx, hsx⟩ : ∃ sx, sx = ospL s p := ⟨_, rfl⟩
  rw [← hsx] at HRX HSX I1 HX hcX kx
  clear hr hr2 hrX hs hsx ho hl
  go_enter Try.func53, Try.ntmps53
  go_wp2_with fail
  have hB : Below w.heap.size w w := Below.refl _ _
  have HOD := Aside0.mk (ordD_putN (dig8 s x) p p.length)
  go_region_held3 (fun w' => w'.cell? ⟨gx, 0, none⟩ = some (.slice AX sx.length cX) ∧ w'.cell? ⟨gs, 0, none⟩ = some (.slice A s.length c) ∧ w'.cell? ⟨gp, 0, none⟩ = some (.slice A2 p.length c2) ∧ Below w.heap.size w w') (first | exact ⟨kx, ks, kp, below_drew hB⟩ | exact (And.imp (pw_cell_below hb) (And.imp (pw_cell_below hb) (And.imp (pw_cell_below hb) (fun hS => below_then hS hS.size hb)))) (by assumption))
    (first
      | (go_at_call 47; refine (digitsOf_calls A c s _ _ ?k1 hc HS.out (by omega) (by omega)).mono ?_; (case k1 => exact Kd.C_below HR.out (by first | assumption | exact (by assumption : _ ∧ _ ∧ _ ∧ Below _ _ _).2.2.2)); rintro e w' ⟨rfl, hb⟩)
      | (go_at_call 55; refine (ordered_calls (dig8 s x) p E8.out A2 c2 _ ?k1 hc2 hpl HPP.out).mono ?_; (case k1 => exact Kd.C_below HR2.out (by first | assumption | exact (by assumption : _ ∧ _ ∧ _ ∧ Below _ _ _).2.2.2)); rintro e w' ⟨rfl, hb⟩; rw [HOD.out])
      | (go_at_call 54; refine (wordOf_calls AX cX sx (putN 8 (dig8 s x) p p.length) _ ?k1 hcX HSX.out I2.out I1.out).mono ?_; (case k1 => exact Kd.C_below HRX.out (by first | assumption | exact (by assumption : _ ∧ _ ∧ _ ∧ Below _ _ _).2.2.2)); rintro e w' ⟨rfl, hb⟩))
  all_goals
    obtain ⟨_, _, _, hBB⟩ := (by assumption : World.cell? _ ⟨gx, 0, none⟩ = some (Value.slice AX sx.length cX) ∧ _)
    go_wp2
    go_ret
    exact ⟨by rw [HX.out]; rfl, hBB⟩
end Go.Proofs.Ytbhgnphdhkmliaa.P
