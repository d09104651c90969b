/- What the law FnForms needs, part 16: words, walks of functions (each says that a call returns what the plain Lean function beside it says), plain lemmas. -/
import Derived.Test.YtnkndaapamenmaaGreatKFnFormsO
import Derived.Deep.DeepAppendRoom
import Derived.Deep.RegionLaw
import Derived.Laws.EntriesVeiled
set_option linter.unusedVariables false
set_option linter.unusedSimpArgs false
namespace Go.Proofs.YtnkndaapamenmaaGreat.P
open Go.RowKit Go.Proofs.YtnkndaapamenmaaGreatW.PrintWords Go.Proofs.YtnkndaapamenmaaGreatW.PrintLast Go.Proofs.YtnkndaapamenmaaGreatW.PrintMore CC
def kO (s : List Int) : Nat → List Int → List (List Int)
  | 0, p => [p]
  | d + 1, p => (List.range s.length).flatMap fun (n : Nat) => if rd s (n : Int) = rd s (p.length : Int) ∧ ¬ (n : Int) ∈ p then kO s d (p ++ [(n : Int)]) else []
def kG (s : List Int) (d : Nat) (p : List Int) (n : Nat) : List (List Int) := if rd s (n : Int) = rd s (p.length : Int) ∧ ¬ (n : Int) ∈ p then kO s d (p ++ [(n : Int)]) else []
def kP (s : List Int) (d : Nat) (p : List Int) (m : Nat) : List (List Int) := (List.range m).flatMap (kG s d p)
theorem kP_zero (s : List Int) (d : Nat) (p : List Int) : kP s d p 0 = [] := rfl
theorem kP_succ (s : List Int) (d : Nat) (p : List Int) (m : Nat) : kP s d p (m + 1) = kP s d p m ++ kG s d p m := by simp [kP, List.range_succ]
theorem kO_succ (s : List Int) (d : Nat) (p : List Int) : kO s (d + 1) p = kP s d p s.length := rfl
theorem kO_len {s : List Int} (hs : s.length ≤ 8) : ∀ (d : Nat) (p : List Int), (kO s d p).length ≤ 8 ^ d
  | 0, p => by simp [kO]
  | d + 1, p => by
    have hg : ∀ n, (kG s d p n).length ≤ 8 ^ d := fun n => by
      unfold kG
      split
      · exact kO_len hs d _
      · simp
    have hp : ∀ m, (kP s d p m).length ≤ m * 8 ^ d := by
      intro m
      induction m with
      | zero => simp [kP]
      | succ m ih => rw [kP_succ, List.length_append, Nat.succ_mul]; have := hg m; omega
    rw [kO_succ, Nat.pow_succ]
    have h1 := hp s.length
    have h2 : s.length * 8 ^ d ≤ 8 * 8 ^ d := Nat.mul_le_mul_right _ hs
    omega
theorem kG_len {s : List Int} (hs : s.length ≤ 8) (d : Nat) (p : List Int) (n : Nat) : (kG s d p n).length ≤ 8 ^ d := by
  unfold kG
  split
  · exact kO_len hs d _
  · simp
theorem kP_len {s : List Int} (hs : s.length ≤ 8) (d : Nat) (p : List Int) : ∀ m, (kP s d p m).length ≤ m * 8 ^ d
  | 0 => by simp [kP]
  | m + 1 => by rw [kP_succ, List.length_append, Nat.succ_mul]; have := kG_len hs d p m; have := kP_len hs d p m; omega
theorem index_ev (p : List Int) (hp : p.length ≤ 1048576) (x : Int) : ∀ (k n : Nat), n + k = p.length →
    ∃ r : Int, Ev (fun j => slices_Index_int64_int64.l0 j p x (p.length : Int) (n : Int)) r ∧ (decide (r ≥ 0) = decide (x ∈ p.drop n))
  | 0, n, h => by
    refine ⟨-1, Ev.step (fun k => by simp only [slices_Index_int64_int64.l0]; exact rfl) (Q.Ev.iff_neg (by omega) (Ev.now _)), ?_⟩
    rw [List.drop_of_length_le (by omega)]
    simp
  | k + 1, n, h => by
    obtain ⟨r, h1, h2⟩ := index_ev p hp x k (n + 1) (by omega)
    have hlt : n < p.length := by omega
    have hd : p.drop n = rd p (n : Int) :: p.drop (n + 1) := by
      rw [List.drop_eq_getElem_cons hlt]
      simp [rd, List.getD_eq_getElem?_getD, hlt]
    by_cases hx : x = rd p (n : Int)
    · refine ⟨(n : Int), Ev.step (fun k => by simp only [slices_Index_int64_int64.l0]; exact rfl) (Q.Ev.iff_pos (by omega) (Q.Ev.iff_pos (by omega) (Q.Ev.iff_pos (by omega) (Q.Ev.iff_pos hx (Ev.now _))))), ?_⟩
      rw [hd, ← hx]
      simp
    · refine ⟨r, Ev.step (fun k => by simp only [slices_Index_int64_int64.l0]; exact rfl) (Q.Ev.iff_pos (by omega) (Q.Ev.iff_pos (by omega) (Q.Ev.iff_pos (by omega) (Q.Ev.iff_neg hx ?_)))), ?_⟩
      · rw [Q.wrap_nat (by unfold maxLen; omega)]
        exact h1
      · rw [h2, hd]
        simp [hx]
theorem contains_ev (p : List Int) (hp : p.length ≤ 1048576) (x : Int) : Ev (fun k => slices_Contains_int64_int64.f k p x) (decide (x ∈ p)) := by
  obtain ⟨r, h1, h2⟩ := index_ev p hp x p.length 0 (by omega)
  unfold slices_Contains_int64_int64.f slices_Index_int64_int64.f
  refine Ev.bind h1 ?_
  rw [h2, List.drop_zero]
  exact Ev.now _
theorem own_prefix {w : World} {base g n m cap : Nat} {xs ys : List Value} {t : TypeId} (h : w.ownsRow base t 1 (.slice (some ⟨g, 0, none⟩) (n + m) cap) (n + m) (xs ++ ys)) (hl : xs.length = n) : w.ownsRow base t 1 (.slice (some ⟨g, 0, none⟩) n cap) n xs := by
  obtain ⟨h1, h2⟩ := h
  refine ⟨by omega, ?_⟩
  rcases h2 with ⟨h3, _⟩ | ⟨g', cap', cur, hv, hb, hg, hn, hm, hcs, ht⟩
  · cases h3
  · cases hv
    refine .inr ⟨g, cap, cur, rfl, hb, hg, by omega, hm, hcs, ?_⟩
    have := congrArg (List.take n) ht
    rw [List.take_take, Nat.mul_one, show min n (n + m) = n by omega, ← hl, List.take_left] at this
    rw [Nat.mul_one, ← hl]
    exact this
theorem hlt_of {W : World} {g : Nat} {o : Obj} (h : W.heap[g]? = some o) : g < W.heap.size := by
  rcases Nat.lt_or_ge g W.heap.size with h2 | h2
  · exact h2
  · rw [Array.getElem?_eq_none h2] at h
    cases h
theorem own_lt9 {w : World} {base g n cap size : Nat} {xs : List Value} {t : TypeId} (h : w.ownsRow base t size (.slice (some ⟨g, 0, none⟩) n cap) n xs) : g < w.heap.size := by
  rcases h.2 with ⟨h3, _⟩ | ⟨g', cap', cur, hv, _, hg, _⟩
  · cases h3
  · cases hv
    exact hlt_of hg
theorem own_step {w W : World} {base g n cap size : Nat} {xs : List Value} {t : TypeId} (h : w.ownsRow base t size (.slice (some ⟨g, 0, none⟩) n cap) n xs) (he : W.heap[g]? = w.heap[g]?) : W.ownsRow base t size (.slice (some ⟨g, 0, none⟩) n cap) n xs := by
  refine ⟨h.1, ?_⟩
  rcases h.2 with ⟨h3, _⟩ | ⟨g', cap', cur, hv, hb, hg, hr⟩
  · cases h3
  · cases hv
    exact .inr ⟨g, cap, cur, rfl, hb, he.trans hg, hr⟩
theorem step_append_spare9 {P : Program} {w : World} {ops : Array Oper} {o : Oper} {a : Act} {K : Act → World → Prop} {Q : Exit → Act → World → Prop} {E : Prop} (hgd : o.guard = none) (s x : Operand) (t : TypeId)
    (ho : o.op = .call { callee := .builtin .append, args := #[s, x], argTypes := #[t, t] })
    (base : Nat) (e : TypeId) (i : TypeInfo) (size : Nat) (ht : P.underlying t = some (.slice e)) (hi : P.info? e = some i) (hsize : i.size = size)
    (g n cap : Nat) (xs : List Value) (hs : a.eval s = .slice (some ⟨g, 0, none⟩) n cap) (hown : w.ownsRow base e size (.slice (some ⟨g, 0, none⟩) n cap) n xs)
    (ad : Addr) (m c : Nat) (news : List Value) (hx : a.eval x = .slice (some ad) m c) (hl : news.length = m * size) (hnews : ∀ j u, news[j]? = some u → w.cell? (ad.add j) = some u) (h1 : ∀ u ∈ news, u.oneCell' = true)
    (hroom : n + m ≤ cap)
    (h : ∀ w', w'.ownsRow base e size (.slice (some ⟨g, 0, none⟩) (n + m) cap) (n + m) (xs ++ news) → w.grownBy w' (some g) → K (a.put o.dst (.slice (some ⟨g, 0, none⟩) (n + m) cap)) w') : if Region.wanted o (yielded ops a.tmps) = true then Oper.wp P o a w K Q else E := by
  have hw : Region.wanted o (yielded ops a.tmps) = true := by simp [Region.wanted, hgd]
  rw [if_pos hw]
  exact wp_append_own_spare w s x t ho base e i size ht hi hsize g n cap xs hs hown ad m c news hx hl hnews h1 hroom h
def KOs (A : Option Addr) (c : Nat) (s : List Int) (w0 : World) (gs go gf gb : Nat) (p : List Int) (out : List (List Int)) (W : World) : Prop :=
  W.heap[gs]? = some (.cells #[.slice A s.length c] 26 (0, 0)) ∧
  W.heap[gf]? = some (.cells #[.func (Fn.func 78) #[] #[.pointer (some ⟨gs, 0, none⟩), .pointer (some ⟨go, 0, none⟩), .pointer (some ⟨gf, 0, none⟩)]] 85 (0, 0)) ∧
  (∃ vo, W.heap[go]? = some (.cells #[vo] 73 (0, 0)) ∧ Kd.N (Kd.slice 2 (Kd.int .i64)) 24 W w0.heap.size (fun k => w0.heap.size ≤ k ∧ k ≠ gs ∧ k ≠ go ∧ k ≠ gf ∧ k ≠ gb) vo out) ∧
  W.ownsRow gb 2 1 (.slice (some ⟨gb, 0, none⟩) p.length s.length) p.length (nums .i64 p) ∧
  Below w0.heap.size w0 W
theorem KOs_drewN {A : Option Addr} {c : Nat} {s : List Int} {w0 : World} {gs go gf gb : Nat} {p : List Int} {out : List (List Int)} {W : World} (h : KOs A c s w0 gs go gf gb p out W) (n : Nat) : KOs A c s w0 gs go gf gb p out (W.drewN n) := by
  obtain ⟨K1, K2, ⟨vo, K3, K4⟩, K5, K6⟩ := h
  exact ⟨blk_drewN K1 n, blk_drewN K2 n, ⟨vo, blk_drewN K3 n, Kd.N_drewN K4 n⟩, pw_own_drewN K5 n, pw_below_drewN K6 n⟩
theorem cell_one_new9 (w : World) (x : Value) (t : TypeId) : ∀ j u, [x][j]? = some u → (w.alloc (.cells #[x] t)).cell? ((⟨w.heap.size, 0, none⟩ : Addr).add j) = some u := by
  intro j u hj
  have hb := blk_cell (blk_new w (.cells #[x] t)) j
  rw [add_plain, hb]
  simpa using hj
theorem KOs_step {A : Option Addr} {c : Nat} {s : List Int} {w0 : World} {gs go gf gb : Nat} {p : List Int} {out : List (List Int)} {W w2 : World} {x : Int} {o : Obj} (h : KOs A c s w0 gs go gf gb p out W) (hne : gs ≠ go ∧ gs ≠ gf ∧ gs ≠ gb ∧ go ≠ gf ∧ go ≠ gb ∧ gf ≠ gb)
    (O2 : w2.ownsRow gb 2 1 (.slice (some ⟨gb, 0, none⟩) (p.length + 1) s.length) (p.length + 1) (nums .i64 p ++ [.int .i64 x])) (G2 : (W.alloc o).drew.grownBy w2 (some gb)) (hb : w0.heap.size ≤ gb) :
    KOs A c s w0 gs go gf gb (p ++ [x]) out w2 := by
  obtain ⟨K1, K2, ⟨vo, K3, K4⟩, K5, K6⟩ := h
  have hB := below_drew (below_alloc K6 o)
  refine ⟨(G2.block gs (hlt_of (blk_drew (blk_alloc K1 o))) (fun e => hne.2.2.1 (Option.some.inj e))).trans (blk_drew (blk_alloc K1 o)), (G2.block gf (hlt_of (blk_drew (blk_alloc K2 o))) (fun e => hne.2.2.2.2.2 (Option.some.inj e))).trans (blk_drew (blk_alloc K2 o)), ⟨vo, (G2.block go (hlt_of (blk_drew (blk_alloc K3 o))) (fun e => hne.2.2.2.2.1 (Option.some.inj e))).trans (blk_drew (blk_alloc K3 o)), Kd.N_grown (Kd.N_drew (Kd.N_alloc K4 o)) G2 (fun k hk e => hk.2.2.2.2 (Option.some.inj e))⟩, ?_, pw_below_grown hB _ hB.size G2 (fun k hk => by injection hk with hk; omega)⟩
  rw [nums_append, List.length_append]
  exact O2
theorem KOs_prefix {A : Option Addr} {c : Nat} {s : List Int} {w0 : World} {gs go gf gb : Nat} {p : List Int} {x : Int} {out : List (List Int)} {W : World} (h : KOs A c s w0 gs go gf gb (p ++ [x]) out W) : KOs A c s w0 gs go gf gb p out W := by
  obtain ⟨K1, K2, K3, K5, K6⟩ := h
  refine ⟨K1, K2, K3, ?_, K6⟩
  rw [nums_append, List.length_append] at K5
  exact own_prefix K5 (by simp [nums])
set_option maxHeartbeats 4000000 in
set_option maxRecDepth 100000 in
theorem search_calls (A : Option Addr) (c : Nat) (s : List Int) (w0 : World) (gs go gf gb : Nat) (hr : Kd.C (Kd.int .i64) w0 A s.length s) (hc : s.length ≤ c) (hs : s.length ≤ 8)
    (hb : w0.heap.size ≤ gs ∧ w0.heap.size ≤ go ∧ w0.heap.size ≤ gf ∧ w0.heap.size ≤ gb) (hne : gs ≠ go ∧ gs ≠ gf ∧ gs ≠ gb ∧ go ≠ gf ∧ go ≠ gb ∧ gf ≠ gb) :
    ∀ (d : Nat) (p : List Int) (out : List (List Int)) (W : World), p.length + d = s.length → out.length + 8 ^ d ≤ 16777216 → KOs A c s w0 gs go gf gb p out W →
    Calls Tryz.prog 78 #[.slice (some ⟨gb, 0, none⟩) p.length s.length, .pointer (some ⟨gs, 0, none⟩), .pointer (some ⟨go, 0, none⟩), .pointer (some ⟨gf, 0, none⟩)] W
      fun e w' => e = .returned (.tuple #[]) ∧ KOs A c s w0 gs go gf gb p (out ++ kO s d p) w' := by
  intro d
  induction d with
  | zero =>
    intro p out W hd hl hK
    have huS := Tryz.underlying26
    have HR := Aside0.mk hr
    obtain ⟨K1, K2, ⟨vo, K3, K4⟩, K5, K6⟩ := hK
    have HC : Aside0 (Kd.C (Kd.int .i64) W (some ⟨gb, 0, none⟩) p.length p) := ⟨(Kd.R_reads' (Kd.R_of_own K5 (fun _ _ => trivial) : Kd.R (Kd.int .i64) 2 W gb (fun _ => True) _ p)).2.2⟩
    have k1 : W.cell? ⟨gs, 0, none⟩ = some (.slice A s.length c) := blk_cell K1 0
    have k3 : W.cell? ⟨go, 0, none⟩ = some vo := blk_cell K3 0
    have hps : p.length = s.length := by omega
    have hLT : gs < W.heap.size ∧ go < W.heap.size ∧ gf < W.heap.size ∧ gb < W.heap.size := ⟨hlt_of K1, hlt_of K3, hlt_of K2, own_lt9 K5⟩
    have HLT := Aside0.mk hLT
    have HB0 := Aside0.mk K6.size
    clear hLT
    have K1 := Aside0.mk K1
    have K2 := Aside0.mk K2
    have K3 := Aside0.mk K3
    have K4 := Aside0.mk K4
    have K5 := Aside0.mk K5
    have K6 := Aside0.mk K6
    have c3b0 : ((p.length : Int) == (s.length : Int)) = true := beq_iff_eq.mpr (by omega)
    have c3b2 : (p.length == s.length) = true := beq_iff_eq.mpr (by omega)
    have hpl : p.length ≤ 8 := by omega
    have hpc : p.length ≤ s.length := by omega
    have HPS := Aside0.mk hps
    clear hd hps
    clear hr
    go_enter Tryz.func78, Tryz.ntmps78
    go_wp2
    have hN0 : Kd.N (Kd.slice 2 (Kd.int .i64)) 24 W.drew w0.heap.size (fun k => w0.heap.size ≤ k ∧ k ≠ gs ∧ k ≠ go ∧ k ≠ gf ∧ k ≠ gb) vo out := Kd.N_drew K4.out
    have hfr : Aside0 (∀ k, W.heap.size ≤ k → (w0.heap.size ≤ k ∧ k ≠ gs ∧ k ≠ go ∧ k ≠ gf ∧ k ≠ gb) ∧ some k ≠ vo.ownBlock) := ⟨fun k hk => by
      have h1 := HLT.out
      have h2 := HB0.out
      refine ⟨by omega, fun e => ?_⟩
      have := Kd.N_lt K4.out k e.symm
      omega⟩
    have k3d : W.drew.cell? ⟨go, 0, none⟩ = some vo := k3
    first
    | go_region_law
      (first
        | (refine goes_ Tryz.func39 (by kernel_rfl) rfl #[.slice (some ⟨gb, 0, none⟩) p.length s.length] (by rfl) rfl rfl (by (try simp only [List.map_toArray, List.map_cons, List.map_nil]); first | done | rfl) ?_; refine (clone_calls (some ⟨gb, 0, none⟩) s.length p _ (Kd.C_drew HC.out) hpc (by omega)).mono ?_; rintro e w' ⟨v1, rfl, hR, hb2⟩; refine ⟨_, rfl, ?_⟩; obtain ⟨A1, c1, rfl⟩ := Kd.R_slice hR; have hc1 := (Kd.R_reads' hR).2.1; have hF := Kd.R_F (Kd.R_mono (Kd.R_bound hR) (fun k hk => hk.2.1)); have hN1 := Kd.N_below hN0 hb2; have hB1 := below_then (below_drew K6.out) (below_drew K6.out).size hb2; have hs1 := hb2.size; have hgo1 := blk_below (blk_drew K3.out) hb2; have hgs1 := blk_below (blk_drew K1.out) hb2; have hgf1 := blk_below (blk_drew K2.out) hb2; have hgb1 := own_step K5.out (hb2.block gb HLT.out.2.2.2); have hgc1 := blk_cell hgo1 0; have hgc1a := blk_cell (blk_alloc hgo1 (.cells #[.slice A1 p.length c1] 24)) 0)
        | (refine Kd.N_append_step (Kd.slice 2 (Kd.int .i64)) (w0 := w0) w0.heap.size (by rfl) (.tmp 13) (.tmp 16) 73 24 (.slice none 0 0) 24 rfl Tryz.underlying73 info24 rfl (by decide) (by omega) vo out p [.slice A1 p.length c1] (fun k => w0.heap.size ≤ k ∧ k ≠ gs ∧ k ≠ go ∧ k ≠ gf ∧ k ≠ gb) (fun k => W.drew.heap.size ≤ k) rfl rfl (Kd.FK_slice_mk hc1 hF) (fun k hk => hfr.out k hk) (fun k hk => (hfr.out k (Nat.le_trans hs1 hk)).1) hN1 hB1 (Nat.le_trans HB0.out hs1) (by omega) ?_; intro v2 w2 hN2 hB2 hG2 hAt2; have hgo2 := (hG2.block go (hlt_of hgo1) (fun e => (hN1.1 go e.symm).2.2.1 rfl)).trans hgo1; have hgc := blk_cell hgo2 0; have hgf := blk_frozen hgo2 0; obtain ⟨A2, c2, rfl⟩ := Kd.N_slice hN2; simp only [List.length_append, List.length_singleton] at hN2; have hgs2 := (hG2.block gs (hlt_of hgs1) (fun e => (hN1.1 gs e.symm).2.1 rfl)).trans hgs1; have hgf2 := (hG2.block gf (hlt_of hgf1) (fun e => (hN1.1 gf e.symm).2.2.2.1 rfl)).trans hgf1; have hgb2 := own_step hgb1 (hG2.block gb (own_lt9 hgb1) (fun e => (hN1.1 gb e.symm).2.2.2.2 rfl))))
    | fail
    all_goals
      go_wp2
      refine bodyPost_ret (v := .tuple #[]) (by simp [results, Tryz.results78, go_sem]) rfl ?_
      refine ⟨rfl, blk_far hgs2 hne.1 _, blk_far hgf2 (fun e => hne.2.2.2.1 e.symm) _, ⟨_, blk_put hgo2 0 _ rfl, Kd.N_far hN2 (fun k hk => hk.2.2.1) _⟩, own_step hgb2 (Below.heap_setCell _ _ _ _ (fun e => hne.2.2.2.2.1 e.symm)), below_set hB2 hb.2.1⟩
  | succ d ih =>
    intro p out W hd hl hK
    have huS := Tryz.underlying26
    have HR := Aside0.mk hr
    have IH := Aside0.mk ih
    have HK := Aside0.mk hK
    obtain ⟨i0, hi, hz0, hz1, hz2⟩ := info_parts infoI
    have HI := Aside0.mk (And.intro hi (And.intro hz0 (And.intro hz1 hz2)))
    have k1 : W.cell? ⟨gs, 0, none⟩ = some (.slice A s.length c) := blk_cell hK.1 0
    have hlt : p.length < s.length := by omega
    have c3b0 : ((p.length : Int) == (s.length : Int)) = false := beq_eq_false_iff_ne.mpr (by omega)
    have c3b2 : (p.length == s.length) = false := beq_eq_false_iff_ne.mpr (by omega)
    have HPC := Aside0.mk (contains_ev p (by omega))
    clear hr ih hK hi hz0 hz1 hz2
    go_enter Tryz.func78, Tryz.ntmps78
    go_wp2
    go_loopw [21] (fun i W' => ∃ (m : Nat), m ≤ s.length ∧ i = .int .i64 m ∧ Aside0 (KOs A c s w0 gs go gf gb p (out ++ kP s d p m) W')) (fun i _ => s.length - (intOf i).toNat)
    case atStart => exact ⟨0, by omega, rfl, ⟨by rw [kP_zero, List.append_nil]; exact HK.out⟩⟩
    case round =>
      clear HK k1 c3b0 c3b2
      obtain ⟨m, hm, rfl, HK⟩ := hrel
      by_cases hms : m < s.length
      · obtain ⟨ad, e, _⟩ := Kd.at_int HR.out (m : Int) (by omega) (by omega)
        subst e
        have hx := rd_cell HR.out HK.out.2.2.2.2 m hms
        have hy := rd_cell HR.out HK.out.2.2.2.2 p.length hlt
        have k1 : wr.cell? ⟨gs, 0, none⟩ = some (.slice (some ad) s.length c) := blk_cell HK.out.1 0
        have HG : Aside0 (kG s d p m = if rd s (m : Int) = rd s (p.length : Int) ∧ ¬ (m : Int) ∈ p then kO s d (p ++ [(m : Int)]) else []) := ⟨rfl⟩
        by_cases hxy : rd s (m : Int) = rd s (p.length : Int)
        · rw [hxy] at hx HG
          generalize rd s (p.length : Int) = y at *
          clear hxy
          obtain ⟨kc, hkc⟩ := (HPC.out (m : Int)).rounds
          have HKC := Aside0.mk hkc
          clear hkc
          have hC : Kd.C (Kd.int .i64) wr (some ⟨gb, 0, none⟩) p.length p := (Kd.R_reads' (Kd.R_of_own HK.out.2.2.2.1 (fun _ _ => trivial) : Kd.R (Kd.int .i64) 2 wr gb (fun _ => True) _ p)).2.2
          go_wp2_with fail
          refine (slices_Contains_int64_int64.calls kc (some ⟨gb, 0, none⟩) s.length p (m : Int) (decide ((m : Int) ∈ p)) _ hC (by omega) HKC.out).mono ?_
          rintro e w' ⟨rfl, ⟨nd, rfl⟩⟩
          have HK1 := Aside0.mk (KOs_drewN HK.out nd)
          clear hC HKC HK hx hy k1
          generalize wr.drewN nd = w1 at *
          by_cases hmp : (m : Int) ∈ p
          · rw [decide_eq_true hmp]
            rw [if_neg (fun h => h.2 hmp)] at HG
            clear hmp
            go_wp2_with (go_quiet (fail))
            refine ⟨⟨m + 1, by omega, by go_num, ⟨by rw [kP_succ, HG.out, List.append_nil]; exact HK1.out⟩⟩, by simp [intOf]; omega⟩
          · rw [decide_eq_false hmp]
            rw [if_pos (by first | exact ⟨rfl, hmp⟩ | exact ⟨trivial, hmp⟩)] at HG
            clear hmp
            obtain ⟨hi, hz0, hz1, hz2⟩ := HI.out
            obtain ⟨K1, K2, ⟨vo, K3, K4⟩, K5, K6⟩ := HK1.out
            have hpm : (p ++ [(m : Int)]).length = p.length + 1 := by simp
            have hol : (out ++ kP s d p m).length + 8 ^ d ≤ 16777216 := by
              have h1 := kP_len hs d p m
              have h2 : (m + 1) * 8 ^ d ≤ 8 * 8 ^ d := Nat.mul_le_mul_right _ (by omega)
              rw [Nat.succ_mul] at h2
              rw [Nat.pow_succ] at hl
              rw [List.length_append]
              omega
            have f0 : w1.drew.cell? ⟨gf, 0, none⟩ = _ := blk_cell K2 0
            have f1 : (w1.alloc (.cells #[.int .i64 (m : Int)] 2)).cell? ⟨gf, 0, none⟩ = _ := blk_cell (blk_alloc K2 _) 0
            have hnew : ∀ j u, [Value.int .i64 (m : Int)][j]? = some u → (w1.alloc (.cells #[.int .i64 (m : Int)] 2)).drew.cell? ((⟨w1.heap.size, 0, none⟩ : Addr).add j) = some u := cell_one_new9 w1 _ _
            have hREC : ∀ w2, KOs (some ad) c s w0 gs go gf gb (p ++ [(m : Int)]) (out ++ kP s d p m) w2 → Calls Tryz.prog 78 #[.slice (some ⟨gb, 0, none⟩) (p.length + 1) s.length, .pointer (some ⟨gs, 0, none⟩), .pointer (some ⟨go, 0, none⟩), .pointer (some ⟨gf, 0, none⟩)] w2 fun e w' => e = .returned (.tuple #[]) ∧ KOs (some ad) c s w0 gs go gf gb (p ++ [(m : Int)]) ((out ++ kP s d p m) ++ kO s d (p ++ [(m : Int)])) w' := fun w2 h2 => by
              have h3 := IH.out (p ++ [(m : Int)]) (out ++ kP s d p m) w2 (by omega) hol h2
              rw [hpm] at h3
              exact h3
            have HREC := Aside0.mk hREC
            clear hREC
            go_wp2
            first
            | go_region_law
                (first
                  | (refine step_append_spare9 rfl (.tmp 41) (.tmp 43) 24 rfl gb 2 i0 1 Tryz.underlying24 hi hz1 gb p.length s.length (nums .i64 p) rfl (own_step (own_alloc K5 _) rfl) ⟨w1.heap.size, 0, none⟩ 1 1 [.int .i64 (m : Int)] rfl rfl hnew (by simp [Value.oneCell']) (by omega) ?_; intro w2 O2 G2; have hq := KOs_step HK1.out hne O2 G2 hb.2.2.2; have f2 := blk_cell hq.2.1 0)
                  | (refine call_ 78 #[.slice (some ⟨gb, 0, none⟩) (p.length + 1) s.length, .pointer (some ⟨gs, 0, none⟩), .pointer (some ⟨go, 0, none⟩), .pointer (some ⟨gf, 0, none⟩)] (by rfl) rfl (by have he := enters_ (P := Tryz.prog) Tryz.func78 rfl rfl #[.slice (some ⟨gb, 0, none⟩) (p.length + 1) s.length, .pointer (some ⟨gs, 0, none⟩), .pointer (some ⟨go, 0, none⟩), .pointer (some ⟨gf, 0, none⟩)] w2; unfold execOp; simp [resolve, Deferred.ofValue, invoke, Act.eval, he]) ?_; refine (HREC.out w2 hq).mono ?_; rintro e w3 ⟨rfl, hK3⟩; refine ⟨_, rfl, ?_⟩))
            | fail
            all_goals
              go_wp2
              refine ⟨⟨m + 1, by omega, by go_num, ⟨?_⟩⟩, by simp [intOf]; omega⟩
              rw [kP_succ, HG.out, ← List.append_assoc]
              exact KOs_prefix hK3
        · have hxb : (rd s (m : Int) == rd s (p.length : Int)) = false := beq_eq_false_iff_ne.mpr hxy
          rw [if_neg (fun h => hxy h.1)] at HG
          clear hxy
          go_wp2_with (go_quiet (fail))
          refine ⟨⟨m + 1, by omega, by go_num, ⟨by rw [kP_succ, HG.out, List.append_nil]; exact HK.out⟩⟩, by simp [intOf]; omega⟩
      · obtain rfl : m = s.length := by omega
        go_wp2
        refine bodyPost_end (results_none rfl _ _ _) rfl ?_
        exact ⟨rfl, by rw [kO_succ]; exact HK.out⟩
set_option maxHeartbeats 4000000 in
set_option maxRecDepth 100000 in
theorem keptOrders_calls (A : Option Addr) (c : Nat) (s : List Int) (w : World) (hr : Kd.C (Kd.int .i64) w A s.length s) (hc : s.length ≤ c) (hs : s.length ≤ 8) :
    Calls Tryz.prog 62 #[.agg #[.slice A s.length c]] w
      fun e w' => ∃ v, e = .returned v ∧ Kd.N (Kd.slice 2 (Kd.int .i64)) 24 w' w.heap.size (fun k => w.heap.size ≤ k) v (kO s s.length []) ∧ Below w.heap.size w w' := by
  have huS := Tryz.underlying26
  have huF := Tryz.underlying85
  have HR := Aside0.mk hr
  clear hr
  go_enter Tryz.func62, Tryz.ntmps62
  have B3' : ((((w.alloc (.cells #[.slice A s.length c] 26)).alloc (.cells #[] 24)).alloc (.cells #[.slice (some ⟨w.heap.size + 1, 0, none⟩) 0 0] 73)).alloc (.cells #[.nilFunc] 85)).heap[w.heap.size + 1 + 1 + 1]? = some (.cells #[.nilFunc] 85 (0, 0)) := by simpa using blk_new (((w.alloc (.cells #[.slice A s.length c] 26)).alloc (.cells #[] 24)).alloc (.cells #[.slice (some ⟨w.heap.size + 1, 0, none⟩) 0 0] 73)) (.cells #[.nilFunc] 85)
  have f3 : ((((w.alloc (.cells #[.slice A s.length c] 26)).alloc (.cells #[] 24)).alloc (.cells #[.slice (some ⟨w.heap.size + 1, 0, none⟩) 0 0] 73)).alloc (.cells #[.nilFunc] 85)).frozen? ⟨w.heap.size + 1 + 1 + 1, 0, none⟩ = false := blk_frozen B3' 0
  have c3 : ((((w.alloc (.cells #[.slice A s.length c] 26)).alloc (.cells #[] 24)).alloc (.cells #[.slice (some ⟨w.heap.size + 1, 0, none⟩) 0 0] 73)).alloc (.cells #[.nilFunc] 85)).cell? ⟨w.heap.size + 1 + 1 + 1, 0, none⟩ = some .nilFunc := blk_cell B3' 0
  go_wp2
  clear B3' f3 c3
  have B3 : ((((w.alloc (.cells #[.slice A s.length c] 26)).alloc (.cells #[] 24)).alloc (.cells #[.slice (some ⟨w.heap.size + 1, 0, none⟩) 0 0] 73)).alloc (.cells #[(.func (Fn.func 78) #[] #[.pointer (some ⟨w.heap.size, 0, none⟩), .pointer (some ⟨w.heap.size + 1 + 1, 0, none⟩), .pointer (some ⟨w.heap.size + 1 + 1 + 1, 0, none⟩)])] 85)).heap[w.heap.size + 1 + 1 + 1]? = some (.cells #[(.func (Fn.func 78) #[] #[.pointer (some ⟨w.heap.size, 0, none⟩), .pointer (some ⟨w.heap.size + 1 + 1, 0, none⟩), .pointer (some ⟨w.heap.size + 1 + 1 + 1, 0, none⟩)])] 85 (0, 0)) := by simpa using blk_new (((w.alloc (.cells #[.slice A s.length c] 26)).alloc (.cells #[] 24)).alloc (.cells #[.slice (some ⟨w.heap.size + 1, 0, none⟩) 0 0] 73)) (.cells #[(.func (Fn.func 78) #[] #[.pointer (some ⟨w.heap.size, 0, none⟩), .pointer (some ⟨w.heap.size + 1 + 1, 0, none⟩), .pointer (some ⟨w.heap.size + 1 + 1 + 1, 0, none⟩)])] 85)
  have B0 : ((((w.alloc (.cells #[.slice A s.length c] 26)).alloc (.cells #[] 24)).alloc (.cells #[.slice (some ⟨w.heap.size + 1, 0, none⟩) 0 0] 73)).alloc (.cells #[(.func (Fn.func 78) #[] #[.pointer (some ⟨w.heap.size, 0, none⟩), .pointer (some ⟨w.heap.size + 1 + 1, 0, none⟩), .pointer (some ⟨w.heap.size + 1 + 1 + 1, 0, none⟩)])] 85)).heap[w.heap.size]? = some (.cells #[.slice A s.length c] 26 (0, 0)) := blk_alloc (blk_alloc (blk_alloc (blk_new _ _) _) _) _
  have B2 : ((((w.alloc (.cells #[.slice A s.length c] 26)).alloc (.cells #[] 24)).alloc (.cells #[.slice (some ⟨w.heap.size + 1, 0, none⟩) 0 0] 73)).alloc (.cells #[(.func (Fn.func 78) #[] #[.pointer (some ⟨w.heap.size, 0, none⟩), .pointer (some ⟨w.heap.size + 1 + 1, 0, none⟩), .pointer (some ⟨w.heap.size + 1 + 1 + 1, 0, none⟩)])] 85)).heap[w.heap.size + 1 + 1]? = some (.cells #[.slice (some ⟨w.heap.size + 1, 0, none⟩) 0 0] 73 (0, 0)) := blk_alloc (by simpa using blk_new ((w.alloc (.cells #[.slice A s.length c] 26)).alloc (.cells #[] 24)) (.cells #[.slice (some ⟨w.heap.size + 1, 0, none⟩) 0 0] 73)) _
  have B1 : ((((w.alloc (.cells #[.slice A s.length c] 26)).alloc (.cells #[] 24)).alloc (.cells #[.slice (some ⟨w.heap.size + 1, 0, none⟩) 0 0] 73)).alloc (.cells #[(.func (Fn.func 78) #[] #[.pointer (some ⟨w.heap.size, 0, none⟩), .pointer (some ⟨w.heap.size + 1 + 1, 0, none⟩), .pointer (some ⟨w.heap.size + 1 + 1 + 1, 0, none⟩)])] 85)).heap[w.heap.size + 1]? = some (.cells #[] 24 (0, 0)) := blk_alloc (blk_alloc (by simpa using blk_new (w.alloc (.cells #[.slice A s.length c] 26)) (.cells #[] 24)) _) _
  have hB : Below w.heap.size w ((((w.alloc (.cells #[.slice A s.length c] 26)).alloc (.cells #[] 24)).alloc (.cells #[.slice (some ⟨w.heap.size + 1, 0, none⟩) 0 0] 73)).alloc (.cells #[(.func (Fn.func 78) #[] #[.pointer (some ⟨w.heap.size, 0, none⟩), .pointer (some ⟨w.heap.size + 1 + 1, 0, none⟩), .pointer (some ⟨w.heap.size + 1 + 1 + 1, 0, none⟩)])] 85)) := below_alloc (below_alloc (below_alloc ((Below.refl _ _).alloc (Nat.le_refl _) _) _) _) _
  have hS : ((((w.alloc (.cells #[.slice A s.length c] 26)).alloc (.cells #[] 24)).alloc (.cells #[.slice (some ⟨w.heap.size + 1, 0, none⟩) 0 0] 73)).alloc (.cells #[(.func (Fn.func 78) #[] #[.pointer (some ⟨w.heap.size, 0, none⟩), .pointer (some ⟨w.heap.size + 1 + 1, 0, none⟩), .pointer (some ⟨w.heap.size + 1 + 1 + 1, 0, none⟩)])] 85)).heap.size = w.heap.size + 4 := by simp
  generalize ((((w.alloc (.cells #[.slice A s.length c] 26)).alloc (.cells #[] 24)).alloc (.cells #[.slice (some ⟨w.heap.size + 1, 0, none⟩) 0 0] 73)).alloc (.cells #[(.func (Fn.func 78) #[] #[.pointer (some ⟨w.heap.size, 0, none⟩), .pointer (some ⟨w.heap.size + 1 + 1, 0, none⟩), .pointer (some ⟨w.heap.size + 1 + 1 + 1, 0, none⟩)])] 85)) = W4 at *
  have k0 : W4.cell? ⟨w.heap.size, 0, none⟩ = some (.slice A s.length c) := blk_cell B0 0
  have k3 : W4.cell? ⟨w.heap.size + 1 + 1 + 1, 0, none⟩ = some (.func (Fn.func 78) #[] #[.pointer (some ⟨w.heap.size, 0, none⟩), .pointer (some ⟨w.heap.size + 1 + 1, 0, none⟩), .pointer (some ⟨w.heap.size + 1 + 1 + 1, 0, none⟩)]) := blk_cell B3 0
  obtain ⟨i0, hi, hz0, hz1, hz2⟩ := info_parts infoI
  obtain ⟨w5, hmk, hown, hg5⟩ := run_make_own (P := Tryz.prog) (w := W4.drew) (w.heap.size + 1 + 1 + 1 + 1) 24 2 i0 (.int .i64 0) 1 Tryz.underlying24 hi hz0 hz1 .i64 .i64 s.length (by rw [hz2]; omega) (by unfold maxLen; omega) (by show _ ≤ W4.heap.size; omega)
  have hS4 : W4.drew.heap.size = w.heap.size + 1 + 1 + 1 + 1 := hS
  rw [hS4] at hmk hown
  have D0 := (hg5.block w.heap.size (by show _ < W4.heap.size; omega) (by simp)).trans (blk_drew B0)
  have D1 := (hg5.block (w.heap.size + 1) (by show _ < W4.heap.size; omega) (by simp)).trans (blk_drew B1)
  have D2 := (hg5.block (w.heap.size + 1 + 1) (by show _ < W4.heap.size; omega) (by simp)).trans (blk_drew B2)
  have D3 := (hg5.block (w.heap.size + 1 + 1 + 1) (by show _ < W4.heap.size; omega) (by simp)).trans (blk_drew B3)
  have DB : Below w.heap.size w w5 := pw_below_grown (below_drew hB) _ (by show _ ≤ W4.heap.size; omega) hg5 (fun k hk => by cases hk)
  have hN : Kd.N (Kd.slice 2 (Kd.int .i64)) 24 w5 w.heap.size (fun k => w.heap.size ≤ k ∧ k ≠ w.heap.size ∧ k ≠ w.heap.size + 1 + 1 ∧ k ≠ w.heap.size + 1 + 1 + 1 ∧ k ≠ w.heap.size + 1 + 1 + 1 + 1) (.slice (some ⟨w.heap.size + 1, 0, none⟩) 0 0) ([] : List (List Int)) :=
    Kd.R_N ⟨fun k hk => by simp [Value.ownBlock] at hk; omega, [], ⟨rfl, .inr ⟨w.heap.size + 1, 0, #[], rfl, by omega, D1, by simp, by unfold maxLen; omega, rfl, rfl⟩⟩, Reps.none _ _⟩
  have hK : KOs A c s w w.heap.size (w.heap.size + 1 + 1) (w.heap.size + 1 + 1 + 1) (w.heap.size + 1 + 1 + 1 + 1) [] [] w5 := ⟨D0, D3, ⟨_, D2, hN⟩, hown, DB⟩
  have h8 : 8 ^ s.length ≤ 16777216 := Nat.le_trans (Nat.pow_le_pow_right (by decide) hs) (by decide)
  have hcall := search_calls A c s w w.heap.size (w.heap.size + 1 + 1) (w.heap.size + 1 + 1 + 1) (w.heap.size + 1 + 1 + 1 + 1) HR.out hc hs (by omega) (by omega) s.length [] [] w5 (by simp) (by simpa using h8) hK
  have k5 : w5.cell? ⟨w.heap.size + 1 + 1 + 1, 0, none⟩ = some (.func (Fn.func 78) #[] #[.pointer (some ⟨w.heap.size, 0, none⟩), .pointer (some ⟨w.heap.size + 1 + 1, 0, none⟩), .pointer (some ⟨w.heap.size + 1 + 1 + 1, 0, none⟩)]) := blk_cell D3 0
  clear B0 B1 B2 B3 hB hS hS4 D0 D1 D2 D3 DB hN hK hg5 hown
  first
  | go_region_law
    (first
      | (refine call_ 78 #[.slice (some ⟨w.heap.size + 1 + 1 + 1 + 1, 0, none⟩) 0 s.length, .pointer (some ⟨w.heap.size, 0, none⟩), .pointer (some ⟨w.heap.size + 1 + 1, 0, none⟩), .pointer (some ⟨w.heap.size + 1 + 1 + 1, 0, none⟩)] (by rfl) rfl (by have he := enters_ (P := Tryz.prog) Tryz.func78 rfl rfl #[.slice (some ⟨w.heap.size + 1 + 1 + 1 + 1, 0, none⟩) 0 s.length, .pointer (some ⟨w.heap.size, 0, none⟩), .pointer (some ⟨w.heap.size + 1 + 1, 0, none⟩), .pointer (some ⟨w.heap.size + 1 + 1 + 1, 0, none⟩)] w5; unfold execOp; simp [resolve, Deferred.ofValue, invoke, Act.eval, he]) ?_; refine hcall.mono ?_; rintro e w6 ⟨rfl, hK6⟩; refine ⟨_, rfl, ?_⟩))
  | fail
  all_goals
    obtain ⟨_, _, ⟨vo, E3, E4⟩, _, EB⟩ := hK6
    have k6 := blk_cell E3 0
    go_wp2
    go_ret
    rw [List.nil_append] at E4
    exact ⟨_, rfl, Kd.N_mono E4 (fun k hk => hk.1), EB⟩
def smW (s : List Int) (u w : Int) : Int := hor 0 s (sum8 s (dig8 s u) (dig8 s w))
def smL (s : List Int) (w n : Nat) : List Int := (List.range n).map fun (u : Nat) => smW s (u : Int) (w : Int)
theorem smL_succ (s : List Int) (w n : Nat) : smL s w (n + 1) = smL s w n ++ [smW s (n : Int) (w : Int)] := by simp [smL, List.range_succ]
theorem smL_len (s : List Int) (w n : Nat) : (smL s w n).length = n := by simp [smL]
def plW0 (s p : List Int) (x : Int) : Int := hor 0 s (ordD (dig8 s x) p p.length)
def RowOK (s : List Int) (b0 gsum P : Nat) (W : World) (i : Nat) (v : Value) : Prop :=
  ∃ (gi ci : Nat) (cs : Array Value), v = .slice (some ⟨gi, 0, none⟩) P ci ∧ P ≤ ci ∧ gi ≠ gsum ∧ b0 ≤ gi ∧ W.heap[gi]? = some (.cells cs 2 (0, 0)) ∧ ∀ u : Nat, u < P → cs[u]? = some (.int .i64 (smW s (u : Int) (i : Int)))
def Sums (s : List Int) (b0 gsum P m : Nat) (W : World) : Prop :=
  ∃ vs : List Value, vs.length = P ∧ W.heap[gsum]? = some (.cells vs.toArray 24 (0, 0)) ∧ (∀ (i : Nat) (v : Value), i < m → vs[i]? = some v → RowOK s b0 gsum P W i v) ∧ (∀ i : Nat, m ≤ i → i < P → vs[i]? = some (.slice none 0 0))
theorem RowOK_step {s : List Int} {b0 gsum P : Nat} {W W' : World} {i : Nat} {v : Value} (h : RowOK s b0 gsum P W i v) (hW : ∀ k, b0 ≤ k → k < W.heap.size → k ≠ gsum → W'.heap[k]? = W.heap[k]?) : RowOK s b0 gsum P W' i v := by
  obtain ⟨gi, ci, cs, e, h1, h2, h3, h4, h5⟩ := h
  exact ⟨gi, ci, cs, e, h1, h2, h3, (hW gi h3 (blk_lt h4) h2).trans h4, h5⟩
theorem Sums_step {s : List Int} {b0 gsum P m : Nat} {W W' : World} (h : Sums s b0 gsum P m W) (hg : b0 ≤ gsum) (hW : ∀ k, b0 ≤ k → k < W.heap.size → W'.heap[k]? = W.heap[k]?) : Sums s b0 gsum P m W' := by
  obtain ⟨vs, h1, h2, h3, h4⟩ := h
  exact ⟨vs, h1, (hW gsum hg (blk_lt h2)).trans h2, fun i v hi hv => RowOK_step (h3 i v hi hv) (fun k hk hlt _ => hW k hk hlt), h4⟩
theorem Sums_below {s : List Int} {b0 gsum P m : Nat} {W W' : World} (h : Sums s b0 gsum P m W) (hg : b0 ≤ gsum) (hb : Below W.heap.size W W') : Sums s b0 gsum P m W' := Sums_step h hg (fun k _ hlt => hb.block k hlt)
theorem getE_set {vs : List Value} {i m : Nat} {v : Value} (h : m < vs.length) : (vs.set m v)[i]? = if i = m then some v else vs[i]? := by
  by_cases e : i = m
  · subst e
    simp [h]
  · rw [if_neg e, List.getElem?_set_ne (fun h => e h.symm)]
theorem own_cells9 {w : World} {base n : Nat} {v : Value} {l : List Int} (h : w.ownsRow base 2 1 v n (nums .i64 l)) (hl : l.length = n) (hn : 0 < n) :
    ∃ (g c : Nat) (cs : Array Value), v = .slice (some ⟨g, 0, none⟩) n c ∧ n ≤ c ∧ base ≤ g ∧ w.heap[g]? = some (.cells cs 2 (0, 0)) ∧ ∀ u : Nat, u < n → cs[u]? = some (.int .i64 (rd l (u : Int))) := by
  rcases h.2 with ⟨_, h3⟩ | ⟨g, cap, cur, hv, hb, hg, h4, h5, h6, h7⟩
  · omega
  · refine ⟨g, cap, cur, hv, h4, hb, hg, fun u hu => ?_⟩
    have e1 : cur[u]? = (cur.toList.take (n * 1))[u]? := by
      rw [List.getElem?_take_of_lt (by omega)]
      simp
    rw [e1, h7]
    simp [nums, rd, List.getD_eq_getElem?_getD, hl, hu]
theorem Sums_next {s : List Int} {b0 gsum P m : Nat} {W1 W : World} {vs : List Value} {v : Value} {c : Array Value} (V1 : vs.length = P) (hm : m < P) (V3 : ∀ (i : Nat) (v : Value), i < m → vs[i]? = some v → RowOK s b0 gsum P W1 i v) (V4 : ∀ i : Nat, m ≤ i → i < P → vs[i]? = some (.slice none 0 0)) (S3 : W1.heap[b0]? = some (.cells c 26 (0, 0))) (hgs : b0 < gsum) (hgW : gsum < W1.heap.size) (hb : b0 ≤ W1.heap.size)
    (HL : W.heap[gsum]? = some (.cells (vs.set m v).toArray 24 (0, 0))) (HO : W.ownsRow W1.heap.size 2 1 v P (nums .i64 (smL s m P))) (HG : ∀ k, k < W1.heap.size → k ≠ gsum → W.heap[k]? = W1.heap[k]?) : Sums s b0 gsum P (m + 1) W := by
  refine ⟨vs.set m v, by rw [List.length_set]; exact V1, HL, fun i u hi hu => ?_, fun i hi hp => ?_⟩
  · rw [getE_set (by omega)] at hu
    by_cases e : i = m
    · subst e
      rw [if_pos rfl] at hu
      obtain rfl := Option.some.inj hu
      obtain ⟨g, cc, cs, e1, e2, e3, e4, e5⟩ := own_cells9 HO (smL_len s i P) (by omega)
      refine ⟨g, cc, cs, e1, e2, by omega, by omega, e4, fun u hu => ?_⟩
      rw [e5 u hu]
      simp [smL, rd, List.getD_eq_getElem?_getD, hu]
    · rw [if_neg e] at hu
      exact RowOK_step (V3 i u (by omega) hu) (fun k _ hk hne => HG k hk hne)
  · rw [getE_set (by omega), if_neg (by omega)]
    exact V4 i (by omega) hp
theorem rd_mem9 {l : List Int} {n : Nat} (h : n < l.length) : rd l (n : Int) ∈ l := by
  have : rd l (n : Int) = l[n] := by simp [rd, List.getD_eq_getElem?_getD, h]
  rw [this]
  exact List.getElem_mem h
theorem own_slice9 {w : World} {base n : Nat} {v : Value} {xs : List Value} {t : TypeId} (h : w.ownsRow base t 1 v n xs) : ∃ A c, v = .slice A n c := by
  rcases h.2 with ⟨h1, h2⟩ | ⟨g, cap, _, h1, _⟩
  · subst h2
    exact ⟨none, 0, h1⟩
  · exact ⟨_, _, h1⟩
theorem own_keep9 {w W : World} {base n size : Nat} {v : Value} {xs : List Value} {t : TypeId} (h : w.ownsRow base t size v n xs) (he : ∀ k, v.ownBlock = some k → W.heap[k]? = w.heap[k]?) : W.ownsRow base t size v n xs := by
  refine ⟨h.1, ?_⟩
  rcases h.2 with h1 | ⟨g, cap, cur, hv, hb, hg, hr⟩
  · exact .inl h1
  · exact .inr ⟨g, cap, cur, hv, hb, (he g (by rw [hv]; rfl)).trans hg, hr⟩
theorem own_lt10 {w : World} {base n size : Nat} {v : Value} {xs : List Value} {t : TypeId} (h : w.ownsRow base t size v n xs) : ∀ k, v.ownBlock = some k → k < w.heap.size := fun k hk => by
  rcases h.2 with ⟨h1, _⟩ | ⟨g, cap, cur, hv, hb, hg, hr⟩
  · rw [h1] at hk
    cases hk
  · rw [hv] at hk
    cases hk
    exact blk_lt hg
theorem heap_size_alloc9 (w : World) (o : Obj) : (w.alloc o).heap.size = w.heap.size + 1 := by simp
def fmL (s C : List Int) (P : Nat) (p : List Int) : List (List Int) := (List.range P).map fun (i : Nat) => (C.map (plW0 s p)).map fun u => smW s u (i : Int)
theorem grown_trans {a b c : World} {row : Option Nat} (h : a.grownBy b row) (k : b.grownBy c row) : a.grownBy c row :=
  ⟨k.os.trans h.os, k.tape.trans h.tape, k.output.trans h.output, Nat.le_trans h.size k.size, fun i hi hne => (k.block i (Nat.lt_of_lt_of_le hi h.size) hne).trans (h.block i hi hne)⟩
set_option maxHeartbeats 16000000 in
set_option maxRecDepth 100000 in
theorem forms_calls {St : Type} (KF : Nat) (caps : Array Value) (B : St → Array Value) (bt : Nat) (step : St → List Int → St) (Inv : St → Prop) (x0 : St) (A : Option Addr) (c : Nat) (s : List Int) (A1 : Option Addr) (c1 : Nat) (C : List Int) (gbox : Nat) (w0 w : World)
    (hr0 : Kd.C (Kd.int .i64) w0 A s.length s) (hc : s.length ≤ c) (hs : isSp s = true) (hr10 : Kd.C (Kd.int .i64) w0 A1 C.length C) (hc1 : C.length ≤ c1) (hCl : C.length ≤ 1048576) (hw0 : Below w0.heap.size w0 w) (hgb : w0.heap.size ≤ gbox)
    (hbox : w.heap[gbox]? = some (.cells (B x0) bt (0, 0))) (hI0 : Inv x0)
    (hPO : ∀ p ∈ kO s s.length [], p.length = s.length ∧ (∀ j : Nat, j < p.length → 0 ≤ rd p (j : Int) ∧ rd p (j : Int) < 8) ∧ ∀ x, inR s (ordD (dig8 s x) p p.length) = true)
    (hCW : ∀ x ∈ C, 0 ≤ x ∧ x ≤ 1024) (hpl : ∀ p ∈ kO s s.length [], ∀ x ∈ C, 0 ≤ plW0 s p x ∧ plW0 s p x < prd s) (hsm : ∀ u i : Int, 0 ≤ u → u < prd s → 0 ≤ i → i < prd s → 0 ≤ smW s u i ∧ smW s u i < 128)
    (he : ∀ (args : Array Value) (W : World), (callFunc KF args).run Tryz.prog W = .ok (.enter KF args) W)
    (hdo : ∀ (x : St) (l : List Int) (W : World), Inv x → small l → W.heap[gbox]? = some (.cells (B x) bt (0, 0)) → w.grownBy W (some gbox) → Calls Tryz.prog KF (#[setV l] ++ caps) W fun e w' => e = .returned (.tuple #[]) ∧ w'.heap[gbox]? = some (.cells (B (step x l)) bt (0, 0)) ∧ Inv (step x l) ∧ W.grownBy w' (some gbox)) :
    Calls Tryz.prog 28 #[.agg #[.slice A s.length c], .slice A1 C.length c1, .func (Fn.func KF) #[] caps] w
      fun e w' => e = .returned (.tuple #[]) ∧ w'.heap[gbox]? = some (.cells (B ((kO s s.length []).foldl (fun x p => (fmL s C (prd s).toNat p).foldl step x) x0)) bt (0, 0)) ∧ Inv ((kO s s.length []).foldl (fun x p => (fmL s C (prd s).toNat p).foldl step x) x0) ∧ w.grownBy w' (some gbox) := by
  have hr := Kd.C_below hr0 hw0
  have hr1 := Kd.C_below hr10 hw0
  have HR0 := Aside0.mk hr0
  have HR10 := Aside0.mk hr10
  have HBX := Aside0.mk hbox
  have HW0 := Aside0.mk hw0
  have HI0 := Aside0.mk hI0
  have HPO := Aside0.mk hPO
  have HCW := Aside0.mk hCW
  have HPL := Aside0.mk hpl
  have HSM := Aside0.mk hsm
  have HDO := Aside0.mk hdo
  have HE := Aside0.mk he
  clear hr0 hr10 hw0 hbox hI0 hPO hCW hpl hsm hdo he
  have huS := Tryz.underlying26
  have HR := Aside0.mk hr
  have HR1 := Aside0.mk hr1
  have HS := Aside0.mk hs
  have hsl := isSp_len hs
  obtain ⟨kc, hcount⟩ := (Q.count_sp hs).rounds
  have HK := Aside0.mk hcount
  have p0 := isSp_prd1 hs
  have p1 := isSp_prd hs
  obtain ⟨P, hP⟩ : ∃ P : Nat, prd s = (P : Int) := ⟨(prd s).toNat, by omega⟩
  have pP : P ≤ 1024 := by omega
  have pP0 : 1 ≤ P := by omega
  have hP2 : (prd s).toNat = P := by omega
  rw [hP] at HK HPL HSM
  rw [hP2]
  clear hr hr1 hs hcount hP hP2 p0 p1
  go_enter Tryz.func28, Tryz.ntmps28
  go_wp2_with fail
  have hB : Below w.heap.size w (w.alloc (.cells #[.slice A s.length c] 26)) := (Below.refl _ _).alloc (Nat.le_refl _) _
  refine (impl_count.calls kc A c s P _ (Kd.C_below HR.out hB) hc HK.out).mono ?_
  rintro e w2 ⟨rfl, hb⟩
  have S2 := Aside0.mk (blk_below (blk_new w (.cells #[.slice A s.length c] 26)) hb)
  have B2 := Aside0.mk (below_then hB hB.size hb)
  have hsz : w.heap.size < w2.heap.size := blk_lt S2.out
  have hmk : (Instr.makeSlice 73 (.int .i64 (P : Int)) (.int .i64 (P : Int))).run Tryz.prog w2 = .ok (.slice (some ⟨w2.heap.size, 0, none⟩) P P) (w2.alloc (.cells (Array.replicate P (.slice none 0 0)) 24)) := by
    obtain ⟨i0, hi, hz0, hz1, hz2⟩ := info_parts info24
    have h := run_make (P := Tryz.prog) w2 73 24 i0 (.slice none 0 0) Tryz.underlying73 hi hz0 .i64 .i64 (P : Int) (P : Int) (by omega) (by omega) (by rw [hz2]; omega) (by omega)
    rw [hz1, Int.toNat_natCast, Nat.mul_one, show (Value.slice none 0 0).cells = #[.slice none 0 0] from rfl] at h
    have e : madeCells #[.slice none 0 0] P = Array.replicate P (.slice none 0 0) := by
      apply Array.toList_inj.1
      rw [toList_madeCells_one, Array.toList_replicate]
    rw [h, e]
  clear hB hb
  go_wp2_with fail
  have S3 := Aside0.mk (blk_alloc S2.out (.cells (Array.replicate P (.slice none 0 0)) 24))
  have B3 := Aside0.mk (below_alloc B2.out (.cells (Array.replicate P (.slice none 0 0)) 24))
  have U3 : Aside0 (Sums s w.heap.size w2.heap.size P 0 (w2.alloc (.cells (Array.replicate P (.slice none 0 0)) 24))) := ⟨⟨List.replicate P (.slice none 0 0), by simp, by rw [List.toArray_replicate]; exact blk_new _ _, fun i v hi => by omega, fun i _ hi => by simp [hi]⟩⟩
  have hgs : w.heap.size < w2.heap.size := hsz
  clear hsz hmk S2 B2
  generalize w2.alloc (.cells (Array.replicate P (.slice none 0 0)) 24) = W3 at *
  generalize w2.heap.size = gsum at *
  obtain ⟨i0, hi, hz0, hz1, hz2⟩ := info_parts infoI
  have HI := Aside0.mk (And.intro hi (And.intro hz0 (And.intro hz1 hz2)))
  clear hi hz0 hz1 hz2
  go_loopw [26] (fun i W => ∃ m : Nat, m ≤ P ∧ i = .int .i64 m ∧ Aside0 (W.heap[w.heap.size]? = some (.cells #[.slice A s.length c] 26 (0, 0))) ∧ Aside0 (Sums s w.heap.size gsum P m W) ∧ Aside0 (Below w.heap.size w W)) (fun i _ => P - (intOf i).toNat)
  case atStart => exact ⟨0, by omega, rfl, S3, U3, B3⟩
  case round =>
    clear S3 U3 B3
    obtain ⟨m, hm, rfl, S3, U3, B3⟩ := hrel
    by_cases hmP : m < P
    · obtain ⟨vs, V1, V2, V3, V4⟩ := U3.out
      have V2 := Aside0.mk V2
      have V3 := Aside0.mk V3
      have hvm : vs.set m (.slice none 0 0) = vs := by
        have := V4 m (by omega) hmP
        obtain ⟨h1, h2⟩ := List.getElem?_eq_some_iff.1 this
        rw [← h2, List.set_getElem_self]
      have V4 := Aside0.mk V4
      have HL0 : Aside0 (wr.heap[gsum]? = some (.cells (vs.set m (.slice none 0 0)).toArray 24 (0, 0))) := ⟨by rw [hvm]; exact V2.out⟩
      have HO0 : Aside0 (wr.ownsRow wr.heap.size 2 1 (.slice none 0 0) 0 (nums .i64 (smL s m 0))) := ⟨World.ownsRow_nil _ _ _ _⟩
      have HB0 := B3
      clear hvm
      go_wp2_with fail
      generalize wr = W1 at *
      go_loopw [30] (fun i W => ∃ (n : Nat) (v : Value), n ≤ P ∧ i = .int .i64 n ∧ Aside0 (W.heap[gsum]? = some (.cells (vs.set m v).toArray 24 (0, 0))) ∧ Aside0 (W.ownsRow W1.heap.size 2 1 v n (nums .i64 (smL s m n))) ∧ Aside0 (W1.heap.size ≤ W.heap.size ∧ ∀ k, k < W1.heap.size → k ≠ gsum → W.heap[k]? = W1.heap[k]?) ∧ Aside0 (Below w.heap.size w W)) (fun i _ => P - (intOf i).toNat)
      case atStart => exact ⟨0, .slice none 0 0, by omega, rfl, HL0, HO0, ⟨Nat.le_refl _, fun _ _ _ => rfl⟩, HB0⟩
      case round =>
        clear HL0 HO0 HB0
        obtain ⟨n, v, hn, rfl, HL, HO, HG, HB⟩ := hrel
        by_cases hnP : n < P
        · have hgW : gsum < W1.heap.size := blk_lt V2.out
          have hvs : (vs.set m v).length = P := by rw [List.length_set]; exact V1
          have kv : wr.cell? ⟨gsum, m, none⟩ = some v := by
            rw [blk_cell HL.out m, List.getElem?_toArray, getE_set (by omega), if_pos rfl]
          have KB := Aside0.mk ((HG.out.2 w.heap.size (blk_lt S3.out) (by omega)).trans S3.out)
          have kb : wr.cell? ⟨w.heap.size, 0, none⟩ = some (.slice A s.length c) := blk_cell KB.out 0
          have HX := Aside0.mk (smL_succ s m n)
          have hC : Kd.C (Kd.int .i64) wr.drew A s.length s := Kd.C_below HR.out (below_drew HB.out)
          have hbs := HB.out.size
          have hW1 := HG.out.1
          obtain ⟨hi, hz0, hz1, hz2⟩ := HI.out
          have hlen : (smL s m n).length = n := smL_len s m n
          generalize hy : smW s (n : Int) (m : Int) = y at HX
          go_wp2_with fail
          first
          | go_region_law
              (first
                | (refine goes_ Tryz.func61 (by kernel_rfl) rfl #[.agg #[.slice A s.length c], .int .i64 (n : Int), .int .i64 (m : Int)] (by rfl) rfl rfl (by (try simp only [List.map_toArray, List.map_cons, List.map_nil]); first | done | rfl) ?_; refine (sumWords_calls A c s (n : Int) (m : Int) _ hC hc HS.out (by omega) (by omega) (by omega) (by omega)).mono ?_; rintro e w' ⟨rfl, hb⟩; refine ⟨_, rfl, ?_⟩; rw [show hor 0 s (sum8 s (dig8 s (n : Int)) (dig8 s (m : Int))) = y from hy]; have hL1 := blk_below (blk_drew HL.out) hb; have kv1 : w'.cell? ⟨gsum, m, none⟩ = some v := pw_cell_below hb kv; have kb1 := blk_cell (blk_below (blk_drew KB.out) hb) 0; have kv2 : (w'.alloc (.cells #[.int .i64 y] 2)).cell? ⟨gsum, m, none⟩ = some v := pw_cell_below ((Below.refl _ _).alloc (Nat.le_refl _) _) kv1; have hO1 := pw_own_below (World.ownsRow.drew HO.out) hb; have hB1 := below_then (below_drew HB.out) (below_drew HB.out).size hb; have hnew := cell_one_new9 w' (.int .i64 y) 2; have hb1 := hb.size)
                | (refine step_append_lies _ rfl (.tmp 38) (.tmp 43) 24 rfl W1.heap.size 2 i0 (.int .i64 0) 1 8 Tryz.underlying24 hi hz0 hz1 hz2 rfl (by decide) v n (nums .i64 (smL s m n)) rfl (own_alloc hO1 _) ⟨w'.heap.size, 0, none⟩ 1 1 [.int .i64 y] rfl rfl hnew (by simp [Value.oneCell']) (by decide) (by unfold maxLen; omega) (by omega) (by simp; have : wr.drew.heap.size = wr.heap.size := rfl; omega) (w'.heap.size + 1) (by simp) ?_; intro g cap w3 O3 G3 _ _; have hL3 := (G3.block gsum (by have := blk_lt hL1; simp only [heap_size_alloc9]; omega) (fun e => by have := own_base hO1 gsum e.symm; omega)).trans (blk_alloc hL1 (.cells #[.int .i64 y] 2)); have f3 := blk_frozen hL3 m; have c3 : w3.cell? ⟨gsum, m, none⟩ = some v := (by rw [blk_cell hL3 m, List.getElem?_toArray, getE_set (by omega), if_pos rfl]); have hOld3 : ∀ k, k < W1.heap.size → w3.heap[k]? = wr.heap[k]? := fun k hk => ((G3.block k (by have : wr.drew.heap.size = wr.heap.size := rfl; have := hb1; simp only [heap_size_alloc9]; omega) (fun e => by have := own_base hO1 k e.symm; omega)).trans ((below_alloc (Below.refl _ w') _).block k (by have : wr.drew.heap.size = wr.heap.size := rfl; omega))).trans (hb.block k (by have : wr.drew.heap.size = wr.heap.size := rfl; omega)); have hB3 := pw_below_grown (below_alloc hB1 (.cells #[.int .i64 y] 2)) _ (by have : wr.drew.heap.size = wr.heap.size := rfl; simp only [heap_size_alloc9]; omega) G3 (fun k hk => by have := own_base hO1 k hk; omega); have hg3 := own_base O3 g rfl; have hs3 := G3.size))
          | fail
          all_goals
            go_wp2
            go_roundw
            case rel =>
              refine ⟨n + 1, .slice (some ⟨g, 0, none⟩) (n + 1) cap, by omega, by go_num, ⟨blk_put hL3 m _ (by simp)⟩, ⟨?_⟩, ⟨?_, ?_⟩, ⟨below_set hB3 (by omega)⟩⟩
              · rw [HX.out, nums_append]
                exact own_step O3 (Below.heap_setCell _ _ _ _ (by show g ≠ gsum; omega))
              · have : wr.drew.heap.size = wr.heap.size := rfl
                simp at hs3
                simp [World.setCell]
                omega
              · intro k hk hne
                exact ((Below.heap_setCell _ _ _ _ hne).trans (hOld3 k hk)).trans (HG.out.2 k hk hne)
            case measure => simp [intOf]; omega
        · obtain rfl : n = P := by omega
          have U5 : Aside0 (Sums s w.heap.size gsum n (m + 1) wr) := ⟨Sums_next V1 hmP V3.out V4.out S3.out hgs (blk_lt V2.out) B3.out.size HL.out HO.out HG.out.2⟩
          have S5 := Aside0.mk ((HG.out.2 w.heap.size (blk_lt S3.out) (by omega)).trans S3.out)
          clear HL HO HG V2 V3 V4 V1
          go_wp2
          go_roundw
          case rel => exact ⟨m + 1, by omega, by go_num, S5, U5, HB⟩
          case measure => simp [intOf]; omega
    · obtain rfl : m = P := by omega
      clear HK
      have hCs : Kd.C (Kd.int .i64) wr A s.length s := Kd.C_below HR.out B3.out
      have kb : wr.cell? ⟨w.heap.size, 0, none⟩ = some (.slice A s.length c) := blk_cell S3.out 0
      go_wp2_with fail
      refine (keptOrders_calls A c s wr hCs hc hsl).mono ?_
      rintro e w4 ⟨v4, rfl, hN, hb⟩
      obtain ⟨Av, cv, rfl⟩ := Kd.N_slice hN
      have hgx := blk_lt HBX.out
      have hz := B3.out.size
      have NN := Aside0.mk (Kd.N_mono (Kd.N_lower hN hz) (fun k hk => Nat.le_trans hz hk) : Kd.N (Kd.slice 2 (Kd.int .i64)) 24 w4 w.heap.size (fun k => w.heap.size ≤ k) (.slice Av (kO s s.length []).length cv) (kO s s.length []))
      have hB4 := below_then B3.out hz hb
      have S4 := Aside0.mk (blk_below S3.out hb)
      have U4 := Aside0.mk (Sums_below U3.out (Nat.le_of_lt hgs) hb)
      have X4 := Aside0.mk ((hB4.block gbox hgx).trans HBX.out)
      have G4 := Aside0.mk (grown_of_below hB4 (some gbox))
      clear hN hb hB4 hCs kb S3 U3 B3 HBX
      have hOL := kO_len hsl s.length []
      have h8 : 8 ^ s.length ≤ 16777216 := Nat.le_trans (Nat.pow_le_pow_right (by decide) hsl) (by decide)
      obtain ⟨OR, hOR⟩ : ∃ OR, kO s s.length [] = OR := ⟨_, rfl⟩
      rw [hOR] at NN HPO HPL hOL ⊢
      have HORR := Aside0.mk hOR
      clear hOR
      have hOL2 : OR.length ≤ 16777216 := by omega
      clear hOL h8
      go_wp2_with fail
      go_loopw [51] (fun i W => ∃ j : Nat, j ≤ OR.length ∧ i = .int .i64 j ∧ Aside0 (W.heap[w.heap.size]? = some (.cells #[.slice A s.length c] 26 (0, 0))) ∧ Aside0 (Sums s w.heap.size gsum m m W) ∧ Aside0 (Kd.N (Kd.slice 2 (Kd.int .i64)) 24 W w.heap.size (fun k => w.heap.size ≤ k) (.slice Av OR.length cv) OR) ∧ Aside0 (W.heap[gbox]? = some (.cells (B ((OR.take j).foldl (fun x p => (fmL s C m p).foldl step x) x0)) bt (0, 0)) ∧ Inv ((OR.take j).foldl (fun x p => (fmL s C m p).foldl step x) x0)) ∧ Aside0 (w.grownBy W (some gbox))) (fun i _ => OR.length - (intOf i).toNat)
      case atStart => exact ⟨0, by omega, rfl, S4, U4, NN, ⟨X4.out, HI0.out⟩, G4⟩
      case round =>
        clear S4 U4 NN X4 G4
        obtain ⟨j, hj, rfl, S4, U4, NN, X4, G4⟩ := hrel
        by_cases hjO : j < OR.length
        · obtain ⟨ad, A0, c0, e1, hcell, hcl, hCp⟩ := at_L2 (Kd.N_reads' NN.out).2.2 (j : Int) (by omega) (by omega)
          subst e1
          rw [Int.toNat_natCast] at hcell
          have hmem : rd_L2 OR (j : Int) ∈ OR := by
            have : rd_L2 OR (j : Int) = OR[j] := by simp [rd_L2, List.getD_eq_getElem?_getD, hjO]
            rw [this]
            exact List.getElem_mem hjO
          have HTK : Aside0 (OR.take (j + 1) = OR.take j ++ [rd_L2 OR (j : Int)]) := ⟨by rw [List.take_succ_eq_append_getElem hjO]; simp [rd_L2, List.getD_eq_getElem?_getD, hjO]⟩
          obtain ⟨hp1, hp2, hp3⟩ := HPO.out _ hmem
          have HP2 := Aside0.mk hp2
          have HP3 := Aside0.mk hp3
          have HPLp := Aside0.mk (HPL.out _ hmem)
          generalize rd_L2 OR (j : Int) = p at *
          have HCp := Aside0.mk hCp
          have hpl8 : p.length ≤ 8 := by omega
          clear hmem hp1 hp2 hp3 hCp
          have hO0 : (wr.alloc (.cells #[] 2)).ownsRow wr.heap.size 2 1 (.slice (some ⟨wr.heap.size, 0, none⟩) 0 0) 0 (nums .i64 ((C.take 0).map (plW0 s p))) :=
            ⟨rfl, .inr ⟨wr.heap.size, 0, #[], rfl, Nat.le_refl _, blk_new wr (.cells #[] 2), by omega, by unfold maxLen; omega, rfl, rfl⟩⟩
          have HO := Aside0.mk hO0
          have HB : Aside0 (Below wr.heap.size wr (wr.alloc (.cells #[] 2))) := ⟨(Below.refl _ _).alloc (Nat.le_refl _) _⟩
          clear hO0
          go_wp2_with fail
          generalize hW1 : wr = W1 at *
          clear hW1
          go_loopw [12, 58] (fun v i W => ∃ (n : Nat) (vo : Value), n ≤ C.length ∧ vo = v ∧ i = .int .i64 n ∧ Aside0 (W.ownsRow W1.heap.size 2 1 vo n (nums .i64 ((C.take n).map (plW0 s p)))) ∧ Aside0 (Below W1.heap.size W1 W)) (fun _ i _ => C.length - (intOf i).toNat)
          case atStart => exact ⟨0, _, by omega, rfl, rfl, HO, HB⟩
          case round =>
            clear HO HB
            obtain ⟨n, vo, hn, rfl, rfl, HO, HB⟩ := hrel
            by_cases hlt : n < C.length
            · obtain ⟨ad1, e1, _⟩ := Kd.at_int HR10.out (n : Int) (by omega) (by omega)
              subst e1
              have hBw : Below w0.heap.size w0 wr := below_then (pw_below_grown HW0.out _ HW0.out.size G4.out (fun k hk => by injection hk with hk; omega)) (Nat.le_trans HW0.out.size G4.out.size) HB.out
              have hx := rd_cell HR10.out hBw n hlt
              obtain ⟨hx0, hx1⟩ := HCW.out _ (rd_mem9 hlt)
              have HX : Aside0 ((C.take (n + 1)).map (plW0 s p) = (C.take n).map (plW0 s p) ++ [plW0 s p (rd C (n : Int))]) := ⟨by rw [take_rd C hlt, List.map_append]; rfl⟩
              have HLN : Aside0 (((C.take n).map (plW0 s p)).length = n) := ⟨by rw [List.length_map, List.length_take]; omega⟩
              generalize rd C (n : Int) = x at *
              have kb : wr.cell? ⟨w.heap.size, 0, none⟩ = some (.slice A s.length c) := blk_cell (blk_below S4.out HB.out) 0
              have KB := Aside0.mk (blk_below S4.out HB.out)
              generalize hy : plW0 s p x = y at HX
              have E8 := Aside0.mk (dig8_length s x)
              have HP3x := Aside0.mk (HP3.out x)
              have hdig : dloop s s.length x (List.replicate 8 0) = dig8 s x := rfl
              have hyy : hor 0 s (ordD (dig8 s x) p p.length) = y := hy
              have HOL := Aside0.mk (ordD_length (dig8 s x) p p.length)
              have HORD : Aside0 (∀ W', Kd.C (Kd.int .i64) W' A0 p.length p → Calls Tryz.prog 64 #[arr8 (dig8 s x), .slice A0 p.length c0] W' fun e w' => e = .returned (arr8 (ordD (dig8 s x) p p.length)) ∧ Below W'.heap.size W' w') := ⟨fun W' h => ordered_calls (dig8 s x) p E8.out A0 c0 W' h hcl hpl8 HP2.out⟩
              have HWRD : Aside0 (∀ W', Kd.C (Kd.int .i64) W' A s.length s → Calls Tryz.prog 63 #[.agg #[.slice A s.length c], arr8 (ordD (dig8 s x) p p.length)] W' fun e w' => e = .returned (.int .i64 (hor 0 s (ordD (dig8 s x) p p.length))) ∧ Below W'.heap.size W' w') := ⟨fun W' h => wordOf_calls A c s _ W' h hc HS.out HOL.out HP3x.out⟩
              have HDIG : Aside0 (∀ W', Kd.C (Kd.int .i64) W' A s.length s → Calls Tryz.prog 65 #[.agg #[.slice A s.length c], .int .i64 x] W' fun e w' => e = .returned (arr8 (dig8 s x)) ∧ Below W'.heap.size W' w') := ⟨fun W' h => digitsOf_calls A c s x W' h hc HS.out hx0 hx1⟩
              rw [hyy] at HWRD
              generalize ordD (dig8 s x) p p.length = dO at *
              generalize dig8 s x = dI at *
              obtain ⟨hi, hz0, hz1, hz2⟩ := HI.out
              have hsz := HB.out.size
              have hd0 : wr.drew.heap.size = wr.heap.size := rfl
              have hgs1 := blk_lt S4.out
              go_wp2_with fail
              go_region_held3 (fun w' => w'.cell? ⟨w.heap.size, 0, none⟩ = some (.slice A s.length c))
                (first | exact kb | exact kb3 | exact pw_cell_below hb (by assumption) | exact pw_cell_below ((Below.refl _ _).alloc (Nat.le_refl _) _) (by assumption))
                (first
                  | (go_at_call 65; refine (HDIG.out _ (Kd.C_below HR0.out (below_drew hBw))).mono ?_; rintro e wd ⟨rfl, hb⟩; have hOd := pw_own_below (World.ownsRow.drew HO.out) hb; have hBd := below_then (below_drew HB.out) hsz hb; have hbd := hb.size)
                  | (go_at_call 64; refine (HORD.out _ (Kd.C_below HCp.out hBd)).mono ?_; rintro e wo ⟨rfl, hb⟩; have hOo := pw_own_below hOd hb; have hBo := below_then hBd hBd.size hb)
                  | (go_at_call 63; refine (HWRD.out _ (Kd.C_below HR0.out (below_then (pw_below_grown HW0.out _ HW0.out.size G4.out (fun k hk => by injection hk with hk; omega)) (Nat.le_trans HW0.out.size G4.out.size) hBo))).mono ?_; rintro e ww ⟨rfl, hb⟩; have hOw := pw_own_below hOo hb; have hBb := below_then hBo hBo.size hb; have hnew := cell_one_new9 ww (.int .i64 y) 2; have hbw := hBb.size)
                  | (refine step_append_lies _ rfl (.tmp 62) (.tmp 70) 24 rfl W1.heap.size 2 i0 (.int .i64 0) 1 8 Tryz.underlying24 hi hz0 hz1 hz2 rfl (by decide) vo n (nums .i64 ((C.take n).map (plW0 s p))) rfl (own_alloc hOw _) ⟨ww.heap.size, 0, none⟩ 1 1 [.int .i64 y] rfl rfl hnew (by simp [Value.oneCell']) (by decide) (by unfold maxLen; omega) (by omega) (by rw [heap_size_alloc9]; omega) (ww.heap.size + 1) (heap_size_alloc9 _ _) ?_; intro g cap w3 O3 G3 _ _; have hB3 := pw_below_grown (below_alloc hBb (.cells #[.int .i64 y] 2)) _ (by rw [heap_size_alloc9]; omega) G3 (fun k hk => own_base hOw k hk); have kb3 : w3.cell? ⟨w.heap.size, 0, none⟩ = some (.slice A s.length c) := blk_cell (blk_below S4.out hB3) 0))
              go_wp2
              go_roundw
              case rel => exact ⟨n + 1, _, by omega, rfl, by go_num, ⟨by rw [HX.out, nums_append]; exact O3⟩, ⟨hB3⟩⟩
              case measure => simp [intOf]; omega
            · obtain rfl : n = C.length := by omega
              have HTA : Aside0 ((C.take C.length).map (plW0 s p) = C.map (plW0 s p)) := ⟨by rw [List.take_length]⟩
              rw [HTA.out] at HO
              have hw1s := Nat.le_trans G4.out.size HB.out.size
              have HL := Aside0.mk (own_weaken HO.out G4.out.size)
              have S6 := Aside0.mk (blk_below S4.out HB.out)
              have U6 := Aside0.mk (Sums_below U4.out (Nat.le_of_lt hgs) HB.out)
              have N6 := Aside0.mk (Kd.N_below NN.out HB.out)
              have X6 : Aside0 (wr.heap[gbox]? = some (.cells (B (((fmL s C m p).take 0).foldl step ((OR.take j).foldl (fun x p => (fmL s C m p).foldl step x) x0))) bt (0, 0)) ∧ Inv (((fmL s C m p).take 0).foldl step ((OR.take j).foldl (fun x p => (fmL s C m p).foldl step x) x0))) := ⟨⟨(HB.out.block gbox (Nat.lt_of_lt_of_le hgx G4.out.size)).trans X4.out.1, X4.out.2⟩⟩
              have G6 := Aside0.mk (grown_trans G4.out (grown_of_below HB.out (some gbox)))
              have hLl : (C.map (plW0 s p)).length = C.length := by rw [List.length_map]
              have hfl : (fmL s C m p).length = m := by simp [fmL]
              have HFM : Aside0 (∀ i : Nat, i < m → (fmL s C m p).take (i + 1) = (fmL s C m p).take i ++ [(C.map (plW0 s p)).map fun u => smW s u (i : Int)]) := ⟨fun i hi => by rw [List.take_succ_eq_append_getElem (by omega)]; simp [fmL]⟩
              obtain ⟨Al, cl, rfl⟩ := own_slice9 HL.out
              have HPB : Aside0 (∀ u ∈ C.map (plW0 s p), 0 ≤ u ∧ u < (m : Int)) := ⟨fun u hu => by obtain ⟨x, hx, rfl⟩ := List.mem_map.1 hu; exact HPLp.out x hx⟩
              clear HO HB S4 U4 NN X4 G4 HTA hw1s HP2 HP3 HPLp HCp
              generalize hQ : C.map (plW0 s p) = Q9 at *
              clear hQ
              go_wp2_with fail
              go_loopw [75] (fun i W => ∃ k : Nat, k ≤ m ∧ i = .int .i64 k ∧ Aside0 (W.ownsRow w.heap.size 2 1 (.slice Al C.length cl) C.length (nums .i64 Q9)) ∧ Aside0 (W.heap[w.heap.size]? = some (.cells #[.slice A s.length c] 26 (0, 0))) ∧ Aside0 (Sums s w.heap.size gsum m m W) ∧ Aside0 (Kd.N (Kd.slice 2 (Kd.int .i64)) 24 W w.heap.size (fun k => w.heap.size ≤ k) (.slice (some ad) OR.length cv) OR) ∧ Aside0 (W.heap[gbox]? = some (.cells (B (((fmL s C m p).take k).foldl step ((OR.take j).foldl (fun x p => (fmL s C m p).foldl step x) x0))) bt (0, 0)) ∧ Inv (((fmL s C m p).take k).foldl step ((OR.take j).foldl (fun x p => (fmL s C m p).foldl step x) x0))) ∧ Aside0 (w.grownBy W (some gbox))) (fun i _ => m - (intOf i).toNat)
              case atStart => exact ⟨0, by omega, rfl, HL, S6, U6, N6, X6, G6⟩
              case round =>
                clear HL S6 U6 N6 X6 G6
                obtain ⟨k, hk, rfl, HL, S6, U6, N6, X6, G6⟩ := hrel
                by_cases hkm : k < m
                · obtain ⟨vs, V1, V2, V3, _⟩ := U6.out
                  obtain ⟨v, hv⟩ : ∃ v, vs[k]? = some v := ⟨vs[k]'(by omega), List.getElem?_eq_getElem _⟩
                  obtain ⟨gi, ci, cs, rfl, hci, hne, hgi, hblk, hcells⟩ := V3 k v hkm hv
                  have kv : wr.cell? ⟨gsum, k, none⟩ = some (.slice (some ⟨gi, 0, none⟩) m ci) := by rw [blk_cell V2 k, List.getElem?_toArray]; exact hv
                  have HBK := Aside0.mk hblk
                  have HCE := Aside0.mk hcells
                  have hFMk := Aside0.mk (HFM.out k hkm)
                  have hCQ : Kd.C (Kd.int .i64) wr Al Q9.length Q9 := by
                    have h1 := HL.out
                    rw [← hLl] at h1
                    exact (Kd.R_reads' (Kd.R_of_own h1 (fun _ _ => trivial) : Kd.R (Kd.int .i64) 2 wr w.heap.size (fun _ => True) _ Q9)).2.2
                  have HCQ := Aside0.mk hCQ
                  have hSMk : Aside0 (∀ u ∈ Q9, 0 ≤ smW s u (k : Int) ∧ smW s u (k : Int) < 128) := ⟨fun u hu => by have h1 := HPB.out u hu; exact HSM.out u k h1.1 h1.2 (by omega) (by omega)⟩
                  clear V3 hv hblk hcells hCQ
                  have F0 : Aside0 ((wr.alloc (.cells #[.int .u64 0, .int .u64 0] 42)).heap[wr.heap.size]? = some (.cells #[.int .u64 (lo ((Q9.take 0).map fun u => smW s u (k : Int))), .int .u64 (hi ((Q9.take 0).map fun u => smW s u (k : Int)))] 42 (0, 0))) := ⟨by simpa [lo, hi] using blk_new wr (.cells #[.int .u64 0, .int .u64 0] 42)⟩
                  have HB : Aside0 (Below wr.heap.size wr (wr.alloc (.cells #[.int .u64 0, .int .u64 0] 42))) := ⟨(Below.refl _ _).alloc (Nat.le_refl _) _⟩
                  have hsT := Tryz.underlying42
                  go_wp2_with fail
                  have hcw := G6.out.size
                  generalize wr = W2 at *
                  go_loopw [82] (fun i W => ∃ n : Nat, n ≤ C.length ∧ i = .int .i64 n ∧ Aside0 (W.heap[W2.heap.size]? = some (.cells #[.int .u64 (lo ((Q9.take n).map fun u => smW s u (k : Int))), .int .u64 (hi ((Q9.take n).map fun u => smW s u (k : Int)))] 42 (0, 0))) ∧ Aside0 (Below W2.heap.size W2 W)) (fun i _ => C.length - (intOf i).toNat)
                  case atStart => exact ⟨0, by omega, rfl, F0, HB⟩
                  case round =>
                    clear F0 HB
                    obtain ⟨n, hn, rfl, F0, HB⟩ := hrel
                    by_cases hlt : n < C.length
                    · obtain ⟨ad2, e2, _⟩ := Kd.at_int HCQ.out (n : Int) (by omega) (by omega)
                      subst e2
                      have hx := rd_cell HCQ.out HB.out n (by omega)
                      have HT := Aside0.mk (take_rd Q9 (show n < Q9.length by omega))
                      have hmu : rd Q9 (n : Int) ∈ Q9 := rd_mem9 (by omega)
                      have hu := HPB.out _ hmu
                      have hys := hSMk.out _ hmu
                      clear hmu
                      generalize rd Q9 (n : Int) = u at *
                      obtain ⟨U, rfl⟩ := Int.eq_ofNat_of_zero_le hu.1
                      have hU : U < m := by omega
                      have hrow : wr.cell? ⟨gi, U, none⟩ = some (.int .i64 (smW s (U : Int) (k : Int))) := by rw [blk_cell (blk_below HBK.out HB.out) U]; exact HCE.out U hU
                      have HTS : Aside0 (small ((Q9.take n).map fun u => smW s u (k : Int))) := ⟨fun y hy => by obtain ⟨x, hx, rfl⟩ := List.mem_map.1 hy; exact hSMk.out x (List.mem_of_mem_take hx)⟩
                      have hla := lo_lt HTS.out
                      have hha := hi_lt HTS.out
                      have HLS := Aside0.mk (lo_snoc ((Q9.take n).map fun u => smW s u (k : Int)) (smW s (U : Int) (k : Int)))
                      have HHS := Aside0.mk (hi_snoc ((Q9.take n).map fun u => smW s u (k : Int)) (smW s (U : Int) (k : Int)))
                      have HTM : Aside0 ((Q9.take (n + 1)).map (fun u => smW s u (k : Int)) = (Q9.take n).map (fun u => smW s u (k : Int)) ++ [smW s (U : Int) (k : Int)]) := ⟨by rw [HT.out, List.map_append]; rfl⟩
                      rw [← HTM.out] at HLS HHS
                      generalize smW s (U : Int) (k : Int) = x at *
                      generalize lo ((Q9.take n).map fun u => smW s u (k : Int)) = a at *
                      generalize hi ((Q9.take n).map fun u => smW s u (k : Int)) = b at *
                      have HB0 : Aside0 (Below W2.heap.size W2 wr) := HB
                      by_cases h64 : x < 64
                      · have hq : Int.tdiv x 64 = 0 := by rw [Int.tdiv_eq_ediv_of_nonneg hys.1]; omega
                        have hm' : Int.tmod x 64 = x := by rw [Int.tmod_eq_emod_of_nonneg hys.1]; omega
                        have hc1' : wr.cell? ⟨W2.heap.size, 0, none⟩ = some (.int .u64 a) := blk_cell F0.out 0
                        have hf1 := blk_frozen F0.out 0
                        rw [if_pos h64] at HLS HHS
                        have HEE := Aside0.mk (or_two hla (show x.toNat < 64 by omega))
                        go_wp2
                        go_region
                        rw [HEE.out]
                        go_wp2
                        go_roundw
                        case rel =>
                          refine ⟨n + 1, by omega, by go_num, ⟨?_⟩, ⟨below_drew (below_set HB.out (Nat.le_refl _))⟩⟩
                          rw [HLS.out, HHS.out]
                          exact blk_put F0.out 0 _ rfl
                        case measure => simp [intOf]; omega
                      · have hq : Int.tdiv x 64 = 1 := by rw [Int.tdiv_eq_ediv_of_nonneg hys.1]; omega
                        have hm' : Int.tmod x 64 = x - 64 := by rw [Int.tmod_eq_emod_of_nonneg hys.1]; omega
                        have hc1' : wr.cell? ⟨W2.heap.size, 1, none⟩ = some (.int .u64 b) := blk_cell F0.out 1
                        have hf1 := blk_frozen F0.out 1
                        rw [if_neg h64] at HLS HHS
                        have HEE := Aside0.mk (or_two hha (show (x - 64).toNat < 64 by omega))
                        go_wp2
                        go_region
                        rw [HEE.out]
                        go_wp2
                        go_roundw
                        case rel =>
                          refine ⟨n + 1, by omega, by go_num, ⟨?_⟩, ⟨below_drew (below_set HB.out (Nat.le_refl _))⟩⟩
                          rw [HLS.out, HHS.out]
                          exact blk_put F0.out 1 _ rfl
                        case measure => simp [intOf]; omega
                    · obtain rfl : n = C.length := by omega
                      have hTL : Q9.take C.length = Q9 := by rw [← hLl, List.take_length]
                      rw [hTL] at F0
                      have hsmall : small (Q9.map fun u => smW s u (k : Int)) := fun y hy => by obtain ⟨x, hx, rfl⟩ := List.mem_map.1 hy; exact hSMk.out x hx
                      have HCL := HDO.out _ _ wr X6.out.2 hsmall ((HB.out.block gbox (Nat.lt_of_lt_of_le hgx hcw)).trans X6.out.1) (grown_trans G6.out (grown_of_below HB.out (some gbox)))
                      have HCL := Aside0.mk HCL
                      have hee := HE.out
                      have k0 : wr.cell? ⟨W2.heap.size, 0, none⟩ = some (.int .u64 (lo (Q9.map fun u => smW s u (k : Int)))) := blk_cell F0.out 0
                      have k1 : wr.cell? ⟨W2.heap.size, 1, none⟩ = some (.int .u64 (hi (Q9.map fun u => smW s u (k : Int)))) := blk_cell F0.out 1
                      clear hTL hsmall
                      go_wp2_with fail
                      refine HCL.out.mono ?_
                      rintro e w5 ⟨rfl, hX5, hI5, hG5⟩
                      have hlt2 : ∀ x, w.heap.size ≤ x → x < W2.heap.size → w5.heap[x]? = W2.heap[x]? := fun x h1 h2 => (hG5.block x (Nat.lt_of_lt_of_le h2 HB.out.size) (fun e => by injection e with e; omega)).trans (HB.out.block x h2)
                      have X7 : Aside0 (w5.heap[gbox]? = some (.cells (B (((fmL s C m p).take (k + 1)).foldl step ((OR.take j).foldl (fun x p => (fmL s C m p).foldl step x) x0))) bt (0, 0)) ∧ Inv (((fmL s C m p).take (k + 1)).foldl step ((OR.take j).foldl (fun x p => (fmL s C m p).foldl step x) x0))) := ⟨by rw [hFMk.out, List.foldl_append]; exact ⟨hX5, hI5⟩⟩
                      have L7 := Aside0.mk (own_keep9 HL.out (fun x hx => hlt2 x (own_base HL.out x hx) (own_lt10 HL.out x hx)))
                      have S7 := Aside0.mk ((hlt2 w.heap.size (Nat.le_refl _) (blk_lt S6.out)).trans S6.out)
                      have U7 := Aside0.mk (Sums_step U6.out (Nat.le_of_lt hgs) hlt2)
                      have N7 := Aside0.mk (Kd.N_step N6.out (fun x h1 h2 => hlt2 x h1 h2))
                      have G7 := Aside0.mk (grown_trans (grown_trans G6.out (grown_of_below HB.out (some gbox))) hG5)
                      clear HL S6 U6 N6 X6 G6 HCL hX5 hI5 hG5 F0 HB k0 k1 kv
                      go_wp2
                      go_roundw
                      case rel => exact ⟨k + 1, by omega, by go_num, L7, S7, U7, N7, X7, G7⟩
                      case measure => simp [intOf]; omega
                · obtain rfl : k = m := by omega
                  have HTF : Aside0 ((fmL s C k p).take k = fmL s C k p) := ⟨List.take_of_length_le (by omega)⟩
                  rw [HTF.out] at X6
                  have X8 : Aside0 (wr.heap[gbox]? = some (.cells (B ((OR.take (j + 1)).foldl (fun x p => (fmL s C k p).foldl step x) x0)) bt (0, 0)) ∧ Inv ((OR.take (j + 1)).foldl (fun x p => (fmL s C k p).foldl step x) x0)) := ⟨by rw [HTK.out, List.foldl_append]; exact X6.out⟩
                  clear X6 HL
                  go_wp2
                  go_roundw
                  case rel => exact ⟨j + 1, by omega, by go_num, S6, U6, N6, X8, G6⟩
                  case measure => simp [intOf]; omega
        · obtain rfl : j = OR.length := by omega
          rw [List.take_length] at X4
          go_wp2
          refine bodyPost_end (results_none rfl _ _ _) rfl ?_
          rw [HORR.out]
          exact ⟨rfl, X4.out.1, X4.out.2, G4.out⟩
end Go.Proofs.YtnkndaapamenmaaGreat.P
set_option linter.unusedVariables false
set_option linter.unusedSimpArgs false
namespace Go.Proofs.YtnkndaapamenmaaGreat.Q
open Go.RowKit Go.Proofs.YtnkndaapamenmaaGreat.P Go.Proofs.YtnkndaapamenmaaGreatW.PrintWords CC
def keptP (s q : List Int) : Prop := q.Nodup ∧ (∀ x ∈ q, 0 ≤ x ∧ x < s.length) ∧ ∀ j : Nat, j < q.length → rd s (rd q (j : Int)) = rd s (j : Int)
theorem rd_snoc_lt {q : List Int} {x : Int} {j : Nat} (h : j < q.length) : rd (q ++ [x]) (j : Int) = rd q (j : Int) := by
  simp [rd, List.getD_eq_getElem?_getD, List.getElem?_append_left h]
theorem rd_snoc_eq (q : List Int) (x : Int) : rd (q ++ [x]) (q.length : Int) = x := by
  simp [rd, List.getD_eq_getElem?_getD]
theorem kO_kept {s : List Int} : ∀ (d : Nat) (q p : List Int), keptP s q → q.length + d = s.length → p ∈ kO s d q → keptP s p ∧ p.length = s.length
  | 0, q, p, hq, hd, hp => by
    simp only [kO, List.mem_singleton] at hp
    subst hp
    exact ⟨hq, by omega⟩
  | d + 1, q, p, hq, hd, hp => by
    simp only [kO, List.mem_flatMap, List.mem_range] at hp
    obtain ⟨n, hn, hp⟩ := hp
    split at hp
    · rename_i hc
      refine kO_kept d (q ++ [(n : Int)]) p ⟨?_, ?_, ?_⟩ (by rw [List.length_append, List.length_singleton]; omega) hp
      · rw [List.nodup_append]
        refine ⟨hq.1, by simp, fun a ha b hb => ?_⟩
        rw [List.mem_singleton] at hb
        subst hb
        rintro rfl
        exact hc.2 ha
      · intro x hx
        rcases List.mem_append.1 hx with hx | hx
        · exact hq.2.1 x hx
        · rw [List.mem_singleton] at hx
          subst hx
          omega
      · intro j hj
        rw [List.length_append, List.length_singleton] at hj
        by_cases e : j < q.length
        · rw [rd_snoc_lt e]
          exact hq.2.2 j e
        · obtain rfl : j = q.length := by omega
          rw [rd_snoc_eq]
          exact hc.1
    · cases hp
theorem kO_all {s p : List Int} (h : p ∈ kO s s.length []) : keptP s p ∧ p.length = s.length := kO_kept s.length [] p ⟨by simp, by simp, by simp⟩ (by simp) h
theorem kO_ord {s p : List Int} (h : p ∈ kO s s.length []) : ordQ p s.length = true := by
  obtain ⟨hk, hl⟩ := kO_all h
  unfold ordQ
  rw [ordQ_of (fun x hx => by have := hk.2.1 x hx; omega) hk.1, hl]
  simp
theorem rd_ext {a b : List Int} (hl : a.length = b.length) (h : ∀ j : Nat, j < a.length → rd a (j : Int) = rd b (j : Int)) : a = b := by
  apply List.ext_getElem hl
  intro i h1 h2
  have := h i h1
  rw [rd_getElem h1, rd_getElem h2] at this
  exact this
theorem kO_osp {s p : List Int} (h : p ∈ kO s s.length []) : ospL s p = s := by
  obtain ⟨hk, hl⟩ := kO_all h
  have ho := kO_ord h
  refine rd_ext (by rw [ospL_len, hl]) (fun k hkk => ?_)
  rw [ospL_len] at hkk
  obtain ⟨j, hj, e⟩ := ordQ_onto ho hkk
  have h1 := ospL_rd ho hj
  rw [e] at h1
  have h2 := hk.2.2 j hj
  rw [e] at h2
  rw [h1, h2]
theorem plW0_eq {s p : List Int} (h : p ∈ kO s s.length []) (x : Int) : plW0 s p x = plW s p x := by
  unfold plW0 plW
  rw [kO_osp h, ordD_putN]
theorem kO_inR {s p : List Int} (hs : isSp s = true) (h : p ∈ kO s s.length []) (x : Int) : inR s (ordD (dig8 s x) p p.length) = true := by
  have h1 := putN_inR (N := 8) hs (kO_ord h) (dig8_inR hs x) (by rw [dig8_length]; exact isSp_len hs) (by rw [(kO_all h).2]; exact isSp_len hs)
  rw [kO_osp h] at h1
  rw [ordD_putN]
  exact h1
theorem plW_word {s p : List Int} (hs : isSp s = true) (h : p ∈ kO s s.length []) (x : Int) : isW s (plW s p x) = true := by
  have ho := kO_ord h
  have hl := (kO_all h).2
  rw [plW_wd hs ho, kO_osp h]
  have h1 := putN_inR (N := p.length) hs ho (inR_dg (isSp_all hs) x) (by rw [dg_length]; omega) (Nat.le_refl _)
  rw [kO_osp h] at h1
  exact wd_word (isSp_all hs) (by rw [putN_length, hl]) h1
theorem smW_eq {s : List Int} (hs : isSp s = true) (u w : Int) : smW s u w = sumW s u w := hor_sum8 hs u w
theorem kO_PO {s : List Int} (hs : isSp s = true) : ∀ p ∈ kO s s.length [], p.length = s.length ∧ (∀ j : Nat, j < p.length → 0 ≤ rd p (j : Int) ∧ rd p (j : Int) < 8) ∧ ∀ x, inR s (ordD (dig8 s x) p p.length) = true := fun p hp => by
  obtain ⟨hk, hl⟩ := kO_all hp
  refine ⟨hl, fun j hj => ?_, fun x => kO_inR hs hp x⟩
  have h1 := hk.2.1 (rd p (j : Int)) (rd_mem2 hj)
  have h2 := isSp_len hs
  omega
theorem kO_PL {s C : List Int} (hs : isSp s = true) : ∀ p ∈ kO s s.length [], ∀ x ∈ C, 0 ≤ plW0 s p x ∧ plW0 s p x < prd s := fun p hp x _ => by
  rw [plW0_eq hp]
  exact (isW_iff _ _).1 (plW_word hs hp x)
theorem smW_small {s : List Int} (hs : isSp s = true) (hp : prd s ≤ 128) : ∀ u i : Int, 0 ≤ u → u < prd s → 0 ≤ i → i < prd s → 0 ≤ smW s u i ∧ smW s u i < 128 := fun u i _ _ _ _ => by
  have := (isW_iff _ _).1 (sumW_isW hs u i)
  rw [smW_eq hs]
  omega
theorem dgr_hor : ∀ (r e : List Int), r.all sizeOk = true → e.length = r.length → inR r e = true → dgr r (hor 0 r.reverse e.reverse) = e
  | [], [], _, _, _ => rfl
  | [], x :: e, _, h, _ => by simp at h
  | q :: r, [], _, h, _ => by simp at h
  | q :: r, x :: e, hs, hl, hr => by
    simp only [List.all_cons, Bool.and_eq_true, sizeOk_iff] at hs
    simp only [inR, Bool.and_eq_true, decide_eq_true_eq] at hr
    simp only [List.length_cons] at hl
    have ih := dgr_hor r e hs.2 (by omega) hr.2
    rw [List.reverse_cons, List.reverse_cons, hor_append _ _ _ _ _ (by simp; omega)]
    generalize hor 0 r.reverse e.reverse = y at *
    simp only [hor, dgr]
    have h1 : (y * q + x) % q = x := by rw [Int.add_comm, Int.add_mul_emod_self_right]; exact Int.emod_eq_of_lt hr.1.1 hr.1.2
    have h2 : (y * q + x) / q = y := by
      rw [Int.add_comm, Int.add_mul_ediv_right _ _ (by omega), Int.ediv_eq_zero_of_lt hr.1.1 hr.1.2, Int.zero_add]
    rw [h1, h2, ih]
theorem dg_wd {s d : List Int} (hs : s.all sizeOk = true) (hl : d.length = s.length) (hr : inR s d = true) : dg s (wd s d) = d := by
  have h := dgr_hor s.reverse d.reverse (by rw [List.all_reverse]; exact hs) (by simp [hl]) (by rw [inR_reverse _ _ hl.symm]; exact hr)
  rw [List.reverse_reverse, List.reverse_reverse] at h
  unfold dg wd
  rw [h, List.reverse_reverse]
theorem dg_inj9 {s : List Int} (hs : isSp s = true) {x y : Int} (hx : isW s x = true) (hy : isW s y = true) (h : dg s x = dg s y) : x = y := by
  have h1 := (isW_iff _ _).1 hx
  have h2 := (isW_iff _ _).1 hy
  rw [← wd_dg (isSp_all hs) h1.1 h1.2, ← wd_dg (isSp_all hs) h2.1 h2.2, h]
theorem putN_inj {p : List Int} {n : Int} (ho : ordQ p n = true) {N : Nat} (hN : p.length ≤ N) {a b : List Int} (ha : a.length = p.length) (hb : b.length = p.length) (h : putN N a p p.length = putN N b p p.length) : a = b := by
  obtain ⟨hl, hn, hbd, hp⟩ := ordQ_facts ho
  refine rd_ext (by omega) (fun j hj => ?_)
  have hr := ordQ_rd ho j (by omega)
  have h1 := putN_rd hn (fun x hx => (hbd x hx).1) N a p.length (Nat.le_refl _) j (by omega) (by omega)
  have h2 := putN_rd hn (fun x hx => (hbd x hx).1) N b p.length (Nat.le_refl _) j (by omega) (by omega)
  rw [← h1, ← h2, h]
theorem plW_inj {s p : List Int} (hs : isSp s = true) (h : p ∈ kO s s.length []) {x y : Int} (hx : isW s x = true) (hy : isW s y = true) (e : plW s p x = plW s p y) : x = y := by
  have ho := kO_ord h
  have hl := (kO_all h).2
  have key : ∀ z, dg s (plW s p z) = putN p.length (dg s z) p p.length := fun z => by
    have h1 := putN_inR (N := p.length) hs ho (inR_dg (isSp_all hs) z) (by rw [dg_length]; omega) (Nat.le_refl _)
    rw [kO_osp h] at h1
    rw [plW_wd hs ho, kO_osp h, dg_wd (isSp_all hs) (by rw [putN_length, hl]) h1]
  have h1 := congrArg (dg s) e
  rw [key, key] at h1
  exact dg_inj9 hs hx hy (putN_inj ho (Nat.le_refl _) (by rw [dg_length, hl]) (by rw [dg_length, hl]) h1)
theorem sumW_inj {s : List Int} (hs : isSp s = true) (w : Int) {x y : Int} (hx : isW s x = true) (hy : isW s y = true) (e : sumW s x w = sumW s y w) : x = y := by
  have key : ∀ z, dg s (sumW s z w) = sumL s (dg s z) (dg s w) := fun z => dg_wd (isSp_all hs) (sumL_length _ _ _) (sumL_inR (isSp_all hs) _ _)
  have h1 := congrArg (dg s) e
  rw [key, key] at h1
  refine dg_inj9 hs hx hy (rd_ext (by rw [dg_length, dg_length]) (fun k hk => ?_))
  rw [dg_length] at hk
  have h2 := congrArg (fun l => rd l (k : Int)) h1
  simp only [sumL] at h2
  rw [genL_rd _ hk, genL_rd _ hk] at h2
  have hq := all_rd (isSp_all hs) hk
  have a := inR_rd s (dg s x) k (inR_dg (isSp_all hs) x) hk (by rw [dg_length]; exact hk)
  have b := inR_rd s (dg s y) k (inR_dg (isSp_all hs) y) hk (by rw [dg_length]; exact hk)
  have c := inR_rd s (dg s w) k (inR_dg (isSp_all hs) w) hk (by rw [dg_length]; exact hk)
  generalize rd (dg s x) (k : Int) = p at *
  generalize rd (dg s y) (k : Int) = q at *
  generalize rd (dg s w) (k : Int) = r at *
  generalize rd s (k : Int) = n at *
  rcases hq with rfl | rfl | rfl <;> omega
theorem ordL_len_inj {f : Int → Int} : ∀ {l : List Int}, l.Nodup → (∀ x ∈ l, ∀ y ∈ l, f x = f y → x = y) → (ordL (l.map f)).length = l.length := fun {l} hn hf => by
  have h1 : (l.map f).Nodup := by
    rw [List.nodup_iff_pairwise_ne, List.pairwise_map]
    exact (List.pairwise_iff_getElem.2 fun i j hi hj hij e => by
      have := hf _ (List.getElem_mem hi) _ (List.getElem_mem hj) e
      have := (List.getElem_inj hn).1 this
      omega)
  have h2 : (msort (l.map f)).Nodup := (msort_perm _).nodup_iff.2 h1
  have h3 := ordL_asc (pw_lt_of (msort_pw (l.map f)) h2)
  have h4 : ordL (l.map f) = msort (l.map f) := by
    rw [← h3]
    refine ordL_of (ordL_pw _) (fun y => ?_)
    rw [ordL_mem, msort_mem]
  rw [h4, msort_length, List.length_map]
theorem pw_nodup {l : List Int} (h : l.Pairwise (· < ·)) : l.Nodup := h.imp (fun h e => by omega)
end Go.Proofs.YtnkndaapamenmaaGreat.Q
set_option linter.unusedVariables false
set_option linter.unusedSimpArgs false
namespace Go.Proofs.YtnkndaapamenmaaGreat.P
open Go.RowKit Go.Proofs.YtnkndaapamenmaaGreatW.PrintWords Go.Proofs.YtnkndaapamenmaaGreatW.PrintLast Go.Proofs.YtnkndaapamenmaaGreatW.PrintMore CC
theorem grown_set9 (w : World) (g i : Nat) (v : Value) : w.grownBy (w.setCell ⟨g, i, none⟩ v) (some g) := ⟨rfl, rfl, rfl, by simp [World.setCell], fun k _ hne => Below.heap_setCell _ _ _ _ (fun e => hne (by rw [e]))⟩
def stepL (x l : List Int) : List Int := if cbf (lo l) (hi l) (lo x) (hi x) = true then l else x
def cellsL (x : List Int) : Array Value := #[.int .u64 (lo x), .int .u64 (hi x)]
set_option maxHeartbeats 4000000 in
set_option maxRecDepth 100000 in
theorem least1_calls (gb : Nat) (x l : List Int) (w : World) (hx : small x) (hl : small l) (hb : w.heap[gb]? = some (.cells (cellsL x) 42 (0, 0))) :
    Calls Tryz.prog 59 (#[setV l] ++ #[.pointer (some ⟨gb, 0, none⟩)]) w
      fun e w' => e = .returned (.tuple #[]) ∧ w'.heap[gb]? = some (.cells (cellsL (stepL x l)) 42 (0, 0)) ∧ small (stepL x l) ∧ w.grownBy w' (some gb) := by
  have huT := Tryz.underlying42
  have hlt := blk_lt hb
  have HX := Aside0.mk hx
  have HL := Aside0.mk hl
  have HC := Aside0.mk (comesBefore_calls (lo l) (hi l) (lo x) (hi x) (lo_lt hl) (hi_lt hl) (lo_lt hx) (hi_lt hx))
  obtain ⟨bq, hbq⟩ : ∃ bq, cbf (lo l) (hi l) (lo x) (hi x) = bq := ⟨_, rfl⟩
  have HST : Aside0 (stepL x l = if bq = true then l else x) := ⟨by unfold stepL; rw [hbq]⟩
  rw [hbq] at HC
  have hB0 : (w.alloc (.cells (cellsL l) 42)).heap[gb]? = some (.cells (cellsL x) 42 (0, 0)) := blk_alloc hb _
  have hF0 : (w.alloc (.cells (cellsL l) 42)).heap[w.heap.size]? = some (.cells (cellsL l) 42 (0, 0)) := blk_new _ _
  have hBe : Below w.heap.size w (w.alloc (.cells (cellsL l) 42)) := (Below.refl _ _).alloc (Nat.le_refl _) _
  unfold cellsL at hB0 hF0 hBe
  have k0 := blk_cell hB0 0
  have k1 := blk_cell hB0 1
  have q0 := blk_cell hF0 0
  have q1 := blk_cell hF0 1
  have k0 : (w.alloc (.cells #[.int .u64 (lo l), .int .u64 (hi l)] 42)).cell? ⟨gb, 0, none⟩ = some (.int .u64 (lo x)) := blk_cell hB0 0
  have k1 : (w.alloc (.cells #[.int .u64 (lo l), .int .u64 (hi l)] 42)).cell? ⟨gb, 1, none⟩ = some (.int .u64 (hi x)) := blk_cell hB0 1
  have hB0 := Aside0.mk hB0
  have hF0 := Aside0.mk hF0
  have hBe := Aside0.mk hBe
  show Calls Tryz.prog 59 #[.agg #[.int .u64 (lo l), .int .u64 (hi l)], .pointer (some ⟨gb, 0, none⟩)] w _
  clear hx hl hbq hb
  go_enter Tryz.func59, Tryz.ntmps59
  go_wp2_with fail
  refine (HC.out _).mono ?_
  rintro e w2 ⟨rfl, hb⟩
  have hB2 := blk_below hB0.out hb
  have hF2 := blk_below hF0.out hb
  have hBe2 := below_then hBe.out hBe.out.size hb
  have k0 : w2.cell? ⟨gb, 0, none⟩ = some (.int .u64 (lo x)) := blk_cell hB2 0
  have k1 : w2.cell? ⟨gb, 1, none⟩ = some (.int .u64 (hi x)) := blk_cell hB2 1
  have f0 : w2.frozen? ⟨gb, 0, none⟩ = false := blk_frozen hB2 0
  have f1 : w2.frozen? ⟨gb, 1, none⟩ = false := blk_frozen hB2 1
  have q0 : w2.cell? ⟨w.heap.size, 0, none⟩ = some (.int .u64 (lo l)) := blk_cell hF2 0
  have q1 : w2.cell? ⟨w.heap.size, 1, none⟩ = some (.int .u64 (hi l)) := blk_cell hF2 1
  clear hB0 hF0 hBe hb HC
  cases bq with
  | false =>
    go_wp2
    refine bodyPost_end (results_none rfl _ _ _) rfl ?_
    rw [HST.out, if_neg (by simp)]
    exact ⟨rfl, hB2, HX.out, grown_of_below hBe2 _⟩
  | true =>
    go_wp2
    refine bodyPost_end (results_none rfl _ _ _) rfl ?_
    have HS2 : stepL x l = l := by rw [HST.out]; simp
    rw [HS2]
    refine ⟨rfl, ?_, HL.out, grown_trans (grown_trans (grown_of_below hBe2 _) (grown_set9 _ _ _ _)) (grown_set9 _ _ _ _)⟩
    exact blk_put (blk_put hB2 0 (.int .u64 (lo l)) rfl) 1 (.int .u64 (hi l)) rfl
def stepC (own : List Int) (x : Int) (l : List Int) : Int := if lo l = lo own ∧ hi l = hi own then wrap64 (x + 1) else x
def cellsC (x : Int) : Array Value := #[.int .i64 x]
set_option maxHeartbeats 4000000 in
set_option maxRecDepth 100000 in
theorem count1_calls (go gb : Nat) (own : List Int) (x : Int) (l : List Int) (w : World) (hb : w.heap[gb]? = some (.cells (cellsC x) 2 (0, 0))) (ho : w.heap[go]? = some (.cells (cellsL own) 42 (0, 0))) :
    Calls Tryz.prog 29 (#[setV l] ++ #[.pointer (some ⟨go, 0, none⟩), .pointer (some ⟨gb, 0, none⟩)]) w
      fun e w' => e = .returned (.tuple #[]) ∧ w'.heap[gb]? = some (.cells (cellsC (stepC own x l)) 2 (0, 0)) ∧ True ∧ w.grownBy w' (some gb) := by
  have huT := Tryz.underlying42
  have HST : Aside0 (stepC own x l = if lo l = lo own ∧ hi l = hi own then wrap64 (x + 1) else x) := ⟨rfl⟩
  have hB0 : (w.alloc (.cells (cellsL l) 42)).heap[gb]? = some (.cells (cellsC x) 2 (0, 0)) := blk_alloc hb _
  have hO0 : (w.alloc (.cells (cellsL l) 42)).heap[go]? = some (.cells (cellsL own) 42 (0, 0)) := blk_alloc ho _
  have hF0 : (w.alloc (.cells (cellsL l) 42)).heap[w.heap.size]? = some (.cells (cellsL l) 42 (0, 0)) := blk_new _ _
  have hBe : Below w.heap.size w (w.alloc (.cells (cellsL l) 42)) := (Below.refl _ _).alloc (Nat.le_refl _) _
  unfold cellsL at hB0 hF0 hBe hO0
  unfold cellsC at hB0
  have k0 : (w.alloc (.cells #[.int .u64 (lo l), .int .u64 (hi l)] 42)).cell? ⟨go, 0, none⟩ = some (.int .u64 (lo own)) := blk_cell hO0 0
  have k1 : (w.alloc (.cells #[.int .u64 (lo l), .int .u64 (hi l)] 42)).cell? ⟨go, 1, none⟩ = some (.int .u64 (hi own)) := blk_cell hO0 1
  have k2 : (w.alloc (.cells #[.int .u64 (lo l), .int .u64 (hi l)] 42)).cell? ⟨gb, 0, none⟩ = some (.int .i64 x) := blk_cell hB0 0
  have f2 : (w.alloc (.cells #[.int .u64 (lo l), .int .u64 (hi l)] 42)).frozen? ⟨gb, 0, none⟩ = false := blk_frozen hB0 0
  have hB0 := Aside0.mk hB0
  have hBe := Aside0.mk hBe
  show Calls Tryz.prog 29 #[.agg #[.int .u64 (lo l), .int .u64 (hi l)], .pointer (some ⟨go, 0, none⟩), .pointer (some ⟨gb, 0, none⟩)] w _
  clear hb ho hO0 hF0
  generalize lo l = a at *
  generalize hi l = b at *
  generalize lo own = a2 at *
  generalize hi own = b2 at *
  have hEQ := eq_sets a b a2 b2 (w.alloc (.cells #[.int .u64 a, .int .u64 b] 42))
  obtain ⟨r, hr⟩ : ∃ r, (decide (a = a2) && decide (b = b2)) = r := ⟨_, rfl⟩
  have hC : (a = a2 ∧ b = b2) ↔ r = true := by rw [← hr, Bool.and_eq_true, decide_eq_true_eq, decide_eq_true_eq]
  rw [hr] at hEQ
  have HC := Aside0.mk hC
  clear hr hC
  cases r with
  | true =>
    rw [if_pos (HC.out.2 rfl)] at HST
    go_enter Tryz.func29, Tryz.ntmps29
    go_wp2
    refine bodyPost_end (results_none rfl _ _ _) rfl ?_
    rw [HST.out]
    first
    | exact ⟨rfl, blk_put hB0.out 0 _ rfl, trivial, grown_trans (grown_of_below hBe.out _) (grown_set9 _ _ _ _)⟩
    | exact ⟨rfl, blk_put hB0.out 0 _ rfl, grown_trans (grown_of_below hBe.out _) (grown_set9 _ _ _ _)⟩
  | false =>
    rw [if_neg (fun h => by have := HC.out.1 h; simp at this)] at HST
    go_enter Tryz.func29, Tryz.ntmps29
    go_wp2
    refine bodyPost_end (results_none rfl _ _ _) rfl ?_
    rw [HST.out]
    first
    | exact ⟨rfl, hB0.out, trivial, grown_of_below hBe.out _⟩
    | exact ⟨rfl, hB0.out, grown_of_below hBe.out _⟩
def allF {St : Type} (step : St → List Int → St) (s C : List Int) (x0 : St) : St := (kO s s.length []).foldl (fun x p => (fmL s C (prd s).toNat p).foldl step x) x0
set_option maxHeartbeats 4000000 in
set_option maxRecDepth 100000 in
theorem leastForm_calls (A : Option Addr) (c : Nat) (s : List Int) (A1 : Option Addr) (c1 : Nat) (C : List Int) (w : World)
    (hr : Kd.C (Kd.int .i64) w A s.length s) (hc : s.length ≤ c) (hs : isSp s = true) (hr1 : Kd.C (Kd.int .i64) w A1 C.length C) (hc1 : C.length ≤ c1) (hCl : C.length ≤ 1048576) (hsC : small C) (hCW : ∀ x ∈ C, 0 ≤ x ∧ x ≤ 1024)
    (hPO : ∀ p ∈ kO s s.length [], p.length = s.length ∧ (∀ j : Nat, j < p.length → 0 ≤ rd p (j : Int) ∧ rd p (j : Int) < 8) ∧ ∀ x, inR s (ordD (dig8 s x) p p.length) = true)
    (hpl : ∀ p ∈ kO s s.length [], ∀ x ∈ C, 0 ≤ plW0 s p x ∧ plW0 s p x < prd s) (hsm : ∀ u i : Int, 0 ≤ u → u < prd s → 0 ≤ i → i < prd s → 0 ≤ smW s u i ∧ smW s u i < 128) :
    Calls Tryz.prog 22 #[.agg #[.slice A s.length c], .slice A1 C.length c1] w
      fun e w' => e = .returned (setV (allF stepL s C C)) ∧ small (allF stepL s C C) ∧ Below w.heap.size w w' := by
  have huS := Tryz.underlying26
  have huT := Tryz.underlying42
  have HR := Aside0.mk hr
  have HR1 := Aside0.mk hr1
  have HSC := Aside0.mk hsC
  have HF : Aside0 (∀ (gb : Nat) (w' : World), Below w.heap.size w w' → w.heap.size ≤ gb → w'.heap[gb]? = some (.cells (cellsL C) 42 (0, 0)) → Calls Tryz.prog 28 #[.agg #[.slice A s.length c], .slice A1 C.length c1, .func (Fn.func 59) #[] #[.pointer (some ⟨gb, 0, none⟩)]] w' fun e w2 => e = .returned (.tuple #[]) ∧ w2.heap[gb]? = some (.cells (cellsL (allF stepL s C C)) 42 (0, 0)) ∧ small (allF stepL s C C) ∧ w'.grownBy w2 (some gb)) :=
    ⟨fun gb w' hB hg hb => forms_calls 59 #[.pointer (some ⟨gb, 0, none⟩)] cellsL 42 stepL small C A c s A1 c1 C gb w w' hr hc hs hr1 hc1 hCl hB hg hb hsC hPO hCW hpl hsm (fun args W => enters_ (P := Tryz.prog) Tryz.func59 rfl rfl args W)
      (fun x l W hx hl hbx _ => least1_calls gb x l W hx hl hbx)⟩
  clear hr hr1 hPO hpl hsm hsC hCW
  go_enter Tryz.func22, Tryz.ntmps22
  have hB0 := below_alloc ((Below.refl w.heap.size w).alloc (Nat.le_refl _) (.cells #[.slice A s.length c] 26)) (.cells #[.int .u64 0, .int .u64 0] 42)
  go_wp2_with fail
  refine (setOf_calls A1 c1 C _ (Kd.C_below HR1.out hB0) hc1 HSC.out hCl).mono ?_
  rintro e w2 ⟨rfl, hb⟩
  have K0 := Aside0.mk (blk_below (blk_alloc (blk_new w (.cells #[.slice A s.length c] 26)) (.cells #[.int .u64 0, .int .u64 0] 42)) hb)
  have K1 : Aside0 (w2.heap[w.heap.size + 1]? = some (.cells #[.int .u64 0, .int .u64 0] 42 (0, 0))) := ⟨blk_below (by simpa using blk_new (w.alloc (.cells #[.slice A s.length c] 26)) (.cells #[.int .u64 0, .int .u64 0] 42)) hb⟩
  have B2 := Aside0.mk (below_then hB0 hB0.size hb)
  clear hB0 hb
  unfold setV
  have kb : (w2.alloc (.cells #[.int .u64 (lo C), .int .u64 (hi C)] 42)).cell? ⟨w.heap.size, 0, none⟩ = some (.slice A s.length c) := blk_cell (blk_alloc K0.out _) 0
  go_wp2_with fail
  have hlt0 := blk_lt K0.out
  have hlt1 := blk_lt K1.out
  refine (HF.out w2.heap.size _ (below_alloc B2.out _) B2.out.size (blk_new w2 (.cells (cellsL C) 42))).mono ?_
  rintro e w4 ⟨rfl, hX, hS, hG⟩
  obtain ⟨R, hR⟩ : ∃ R, allF stepL s C C = R := ⟨_, rfl⟩
  rw [hR] at hX hS
  have K4 : w4.heap[w.heap.size + 1]? = some (.cells #[.int .u64 0, .int .u64 0] 42 (0, 0)) := (hG.block _ (by rw [heap_size_alloc9]; omega) (fun e => by injection e with e; omega)).trans (blk_alloc K1.out _)
  have B4 : Below w.heap.size w w4 := pw_below_grown (below_alloc B2.out _) _ (by rw [heap_size_alloc9]; omega) hG (fun k hk => by injection hk with hk; omega)
  have k0 : w4.cell? ⟨w2.heap.size, 0, none⟩ = some (.int .u64 (lo R)) := blk_cell hX 0
  have k1 : w4.cell? ⟨w2.heap.size, 1, none⟩ = some (.int .u64 (hi R)) := blk_cell hX 1
  have q0 : w4.cell? ⟨w.heap.size + 1, 0, none⟩ = some (.int .u64 0) := blk_cell K4 0
  have q1 : w4.cell? ⟨w.heap.size + 1, 1, none⟩ = some (.int .u64 0) := blk_cell K4 1
  have hf := fun i => blk_frozen K4 i
  go_wp2
  refine bodyPost_ret (v := setV R) (by simp [results, Tryz.results22, go_sem, setV, q0, q1]) rfl ⟨by rw [hR], by rw [hR]; exact hS, ?_⟩
  repeat (refine below_set ?_ (by omega))
  exact B4
end Go.Proofs.YtnkndaapamenmaaGreat.P
set_option linter.unusedVariables false
set_option linter.unusedSimpArgs false
namespace Go.Proofs.YtnkndaapamenmaaGreat.Q
open Go.RowKit Go.Proofs.YtnkndaapamenmaaGreat.P Go.Proofs.YtnkndaapamenmaaGreatW.PrintWords CC
theorem l01Has_l {D : List Int} (hD : D.length ≤ 1048576) (x : Int) : ∀ (m n : Nat), n + m = D.length → Ev (fun k => spec_l01Has.l0 k D x (n : Int)) (decide (x ∈ D.drop n))
  | 0, n, hm => by
    refine Ev.step (fun k => by simp only [spec_l01Has.l0]; exact rfl) ?_
    refine Ev.iff_neg (by omega) ?_
    rw [drop_all (by omega)]
    exact Ev.now _
  | m + 1, n, hm => by
    have hn : n < D.length := by omega
    have ih := l01Has_l hD x m (n + 1) (by omega)
    refine Ev.step (fun k => by simp only [spec_l01Has.l0]; exact rfl) ?_
    refine Ev.iff_pos (by omega) ?_
    refine Ev.iff_pos (by omega) ?_
    rw [drop_cons D hn]
    by_cases h : rd D (n : Int) = x
    · refine Ev.iff_pos h ?_
      have e : decide (x ∈ rd D (n : Int) :: D.drop (n + 1)) = true := by simp [h]
      rw [e]
      exact Ev.now _
    · refine Ev.iff_neg h ?_
      have e : decide (x ∈ rd D (n : Int) :: D.drop (n + 1)) = decide (x ∈ D.drop (n + 1)) := by
        have : ¬ x = rd D (n : Int) := fun e => h e.symm
        simp [this]
      rw [e, wrap_nat (by unfold maxLen; omega)]
      exact ih
theorem l01Has_ev {D : List Int} (hD : D.length ≤ 1048576) (x : Int) : Ev (fun k => spec_l01Has.f k D x) (decide (x ∈ D)) := by
  unfold spec_l01Has.f
  have := l01Has_l hD x D.length 0 (by omega)
  rw [List.drop_zero] at this
  exact this
theorem l03Two_ev (s : List Int) {C D : List Int} (hC : C.length ≤ 1048576) (hD : D.length ≤ 1048576) : Ev (fun k => spec_l03Two.f k s C D) (rTwo s C D) := by
  unfold spec_l03Two.f rTwo
  refine Ev.bind (l01Given_ev s hC) ?_
  by_cases h : rCode s C [] = 0
  · simp only [if_pos h]
    exact Ev.bind (l01Given_ev s hD) (Ev.now _)
  · simp only [if_neg h]
    exact Ev.now _
theorem specFew_ev (s : List Int) {C D : List Int} (hC : C.length ≤ 1048576) (hD : D.length ≤ 1048576) : Ev (fun k => spec_l03Few.f k s C D) (rF2 s C D) := by
  unfold spec_l03Few.f
  refine Ev.bind (l03Two_ev s hC hD) ?_
  unfold rTwo rF2
  by_cases h1 : rCode s C [] = 0
  · rw [if_pos h1, if_pos h1]
    by_cases h2 : rCode s D [] = 0
    · refine Ev.iff_pos h2 ?_
      refine Ev.bind (l01N_sp (rCode_zero h2).1) ?_
      unfold rF1
      rw [if_pos h2, h2]
      by_cases h3 : prd s > 81
      · simp only [if_pos h3]
        exact Ev.now _
      · simp only [if_neg h3]
        exact Ev.now _
    · refine Ev.iff_neg h2 ?_
      unfold rF1
      rw [if_neg h2]
      exact Ev.now _
  · rw [if_neg h1, if_neg h1]
    refine Ev.iff_neg h1 (Ev.now _)
theorem rF2_same (s C : List Int) : rF2 s C C = rF1 s C := by
  unfold rF2 rF1
  by_cases h : rCode s C [] = 0
  · rw [if_pos h]
  · rw [if_neg h, if_neg h]
theorem drop_rd {l : List Int} {n : Nat} (h : n < l.length) : l.drop n = rd l (n : Int) :: l.drop (n + 1) := by
  rw [List.drop_eq_getElem_cons h]
  simp [rd, List.getD_eq_getElem?_getD, h]
theorem l03Before_l {a b : List Int} (hl : a.length = b.length) (hs : a.length ≤ 1048576) : ∀ (k n : Nat), n + k = a.length → Ev (fun j => spec_l03Before.l0 j a b (a.length : Int) (n : Int)) (befL (a.drop n) (b.drop n))
  | 0, n, h => by
    refine Ev.step (fun k => by simp only [spec_l03Before.l0]; exact rfl) (Ev.iff_neg (by omega) ?_)
    rw [List.drop_of_length_le (by omega)]
    unfold befL
    exact Ev.now _
  | k + 1, n, h => by
    have ih := l03Before_l hl hs k (n + 1) (by omega)
    refine Ev.step (fun k => by simp only [spec_l03Before.l0]; exact rfl) (Ev.iff_pos (by omega) (Ev.iff_pos (by omega) (Ev.iff_pos (by omega) (Ev.iff_pos (by omega) ?_))))
    rw [drop_rd (show n < a.length by omega), drop_rd (show n < b.length by omega)]
    unfold befL
    by_cases e : rd a (n : Int) = rd b (n : Int)
    · refine Ev.iff_pos e ?_
      rw [if_neg (by simpa using e), wrap_nat (by unfold maxLen; omega)]
      exact ih
    · refine Ev.iff_neg e ?_
      rw [if_pos e]
      exact Ev.now _
theorem l03Before_ev {a b : List Int} (hl : a.length = b.length) (hs : a.length ≤ 1048576) : Ev (fun k => spec_l03Before.f k a b) (befL a b) := by
  unfold spec_l03Before.f
  simpa using l03Before_l hl hs a.length 0 (by omega)
theorem specO_l {s : List Int} (hs : s.length ≤ 8) (d : Nat) {q : List Int} (hq : q.length + (d + 1) = s.length) (ih : ∀ x : Int, Ev (fun k => spec_l03Orders.f k s (q ++ [x])) (kO s d (q ++ [x]))) : ∀ (k m : Nat), m + k = s.length →
    Ev (fun j => spec_l03Orders.l0 j q (kP s d q m) (m : Int) s) (kP s d q s.length)
  | 0, m, h => by
    obtain rfl : m = s.length := by omega
    exact Ev.step (fun k => by simp only [spec_l03Orders.l0]; exact rfl) (Ev.iff_neg (by omega) (Ev.now _))
  | k + 1, m, h => by
    have rc9 := specO_l hs d hq ih k (m + 1) (by omega)
    rw [kP_succ] at rc9
    have hb := kP_len hs d q m
    have hg := kO_len hs d (q ++ [(m : Int)])
    have h8 : 8 ^ (d + 1) ≤ 16777216 := Nat.le_trans (Nat.pow_le_pow_right (by decide) (show d + 1 ≤ 8 by omega)) (by decide)
    have hm8 : m * 8 ^ d ≤ 8 * 8 ^ d := Nat.mul_le_mul_right _ (by omega)
    rw [Nat.pow_succ] at h8
    have skip : ¬ (rd s (m : Int) = rd s (q.length : Int) ∧ ¬ (m : Int) ∈ q) → Ev (fun j => spec_l03Orders.j1 j q (kP s d q m) (m : Int) false s) (kP s d q s.length) := fun hn => by
      have e : kG s d q m = [] := by unfold kG; rw [if_neg hn]
      rw [e, List.append_nil] at rc9
      refine Ev.step (fun k => by simp only [spec_l03Orders.j1]; exact rfl) ?_
      refine Ev.iff_neg (by simp) ?_
      rw [wrap_nat (by unfold maxLen; omega)]
      exact rc9
    refine Ev.step (fun k => by simp only [spec_l03Orders.l0]; exact rfl) (Ev.iff_pos (by omega) ?_)
    refine Ev.bind (l01Has_ev (D := q) (by omega) _) ?_
    by_cases hm : (m : Int) ∈ q
    · refine Ev.iff_pos (decide_eq_true hm) ?_
      exact skip (fun h => h.2 hm)
    · refine Ev.iff_neg (by simpa using hm) (Ev.iff_pos (by omega) (Ev.iff_pos (by omega) (Ev.iff_pos (by omega) ?_)))
      by_cases e : rd s (m : Int) = rd s (q.length : Int)
      · have eb : (rd s (m : Int) == rd s (q.length : Int)) = true := beq_iff_eq.mpr e
        rw [eb]
        have eg : kG s d q m = kO s d (q ++ [(m : Int)]) := by unfold kG; rw [if_pos ⟨e, hm⟩]
        rw [eg] at rc9
        refine Ev.step (fun k => by simp only [spec_l03Orders.j1]; exact rfl) ?_
        refine Ev.iff_pos (by first | rfl | trivial) ?_
        refine Ev.bindc (l01Own_eq q (by omega)) (Ev.bindc rfl (Ev.iff_pos (by simp; omega) ?_))
        refine Ev.bind (ih _) (Ev.iff_pos (by omega) ?_)
        rw [wrap_nat (by unfold maxLen; omega)]
        exact rc9
      · have eb : (rd s (m : Int) == rd s (q.length : Int)) = false := beq_eq_false_iff_ne.mpr e
        rw [eb]
        exact skip (fun h => e h.1)
theorem specO_ev {s : List Int} (hs : s.length ≤ 8) : ∀ (d : Nat) (q : List Int), q.length + d = s.length → Ev (fun k => spec_l03Orders.f k s q) (kO s d q)
  | 0, q, h => by
    refine Ev.step (fun k => by simp only [spec_l03Orders.f]; exact rfl) (Ev.iff_pos (by omega) ?_)
    exact Ev.now _
  | d + 1, q, h => by
    refine Ev.step (fun k => by simp only [spec_l03Orders.f]; exact rfl) (Ev.iff_neg (by omega) ?_)
    exact specO_l hs d h (fun x => specO_ev hs d (q ++ [x]) (by rw [List.length_append, List.length_singleton]; omega)) s.length 0 (by omega)
theorem pw_asc : ∀ {l : List Int}, l.Pairwise (· < ·) → asc l = true
  | [], _ => rfl
  | [a], _ => rfl
  | a :: b :: t, h => by
    rw [List.pairwise_cons] at h
    simp only [asc, Bool.and_eq_true, decide_eq_true_eq]
    exact ⟨h.1 b (by simp), pw_asc h.2⟩
def stepS (b l : List Int) : List Int := if befL (ordL l) b = true then ordL l else b
def stepK (c : List Int) (k : Int) (l : List Int) : Int := if befL (ordL l) c = true then k else if befL c (ordL l) = true then k else wrap64 (k + 1)
def stP (c : List Int) (x : List Int × Int) (l : List Int) : List Int × Int := (stepS x.1 l, stepK c x.2 l)
def formL (s c p : List Int) (i : Int) : List Int := (c.map (plW0 s p)).map fun u => smW s u i
theorem fmL_rd (s c p : List Int) {P i : Nat} (h : i < P) : (fmL s c P p).drop i = formL s c p (i : Int) :: (fmL s c P p).drop (i + 1) := by
  have hl : (fmL s c P p).length = P := by simp [fmL]
  rw [List.drop_eq_getElem_cons (by omega)]
  simp [fmL, formL]
theorem own_isC {s c p : List Int} (hs : isSp s = true) (hp : p ∈ kO s s.length []) : isC s (ordL (c.map (plW s p))) = true := by
  unfold isC
  rw [Bool.and_eq_true, List.all_eq_true]
  refine ⟨fun y hy => ?_, pw_asc (ordL_pw _)⟩
  rw [ordL_mem, List.mem_map] at hy
  obtain ⟨x, _, rfl⟩ := hy
  exact plW_word hs hp x
theorem form_ord {s c p : List Int} (hp : p ∈ kO s s.length []) (i : Int) : ordL ((ordL (c.map (plW s p))).map (shW s i)) = ordL (formL s c p i) := by
  refine ordL_of (ordL_pw _) (fun y => ?_)
  rw [ordL_mem]
  unfold formL
  simp only [List.mem_map, ordL_mem]
  constructor
  · rintro ⟨u, ⟨x, hx, rfl⟩, rfl⟩
    exact ⟨plW s p x, ⟨x, hx, plW0_eq hp x⟩, rfl⟩
  · rintro ⟨u, ⟨x, hx, rfl⟩, rfl⟩
    exact ⟨plW0 s p x, ⟨x, hx, (plW0_eq hp x).symm⟩, rfl⟩
theorem form_len {s c p : List Int} (hs : isSp s = true) (hc : isC s c = true) (hp : p ∈ kO s s.length []) {i : Int} : (ordL (formL s c p i)).length = c.length := by
  unfold formL
  rw [List.map_map]
  refine ordL_len_inj (pw_nodup (asc_pw (isC_asc hc))) (fun x hx y hy e => ?_)
  have hx := isC_words hc x hx
  have hy := isC_words hc y hy
  simp only [Function.comp] at e
  rw [smW_eq hs, smW_eq hs, plW0_eq hp, plW0_eq hp] at e
  exact plW_inj hs hp hx hy (sumW_inj hs i (plW_word hs hp x) (plW_word hs hp y) e)
theorem stepS_len {s c p b : List Int} (hs : isSp s = true) (hc : isC s c = true) (hp : p ∈ kO s s.length []) (i : Int) (hb : b.length = c.length) : (stepS b (formL s c p i)).length = c.length := by
  unfold stepS
  split
  · exact form_len hs hc hp
  · exact hb
theorem specL_l1 {s c p : List Int} (hs : isSp s = true) (hc : isC s c = true) (hp : p ∈ kO s s.length []) {P : Nat} (hP : (P : Int) = prd s) (OR : List (List Int)) (L j0 : Int) {r : List Int × Int} : ∀ (k m : Nat) (b : List Int) (kp : Int), m + k = P → b.length = c.length →
    Ev (fun j => spec_l03Least.l0 j c (((fmL s c P p).drop m).foldl (stP c) (b, kp)).1 (((fmL s c P p).drop m).foldl (stP c) (b, kp)).2 OR L (wrap64 (j0 + 1)) s) r →
    Ev (fun j => spec_l03Least.l1 j c b kp OR (ordL (c.map (plW s p))) (m : Int) L j0 s) r
  | 0, m, b, kp, hm, hb, hnext => by
    have hN := isSp_prd hs
    rw [List.drop_of_length_le (by simp [fmL]; omega)] at hnext
    refine Ev.step (fun k => by simp only [spec_l03Least.l1]; exact rfl) ?_
    refine Ev.bind (l01N_sp hs) ?_
    refine Ev.iff_neg (by omega) ?_
    exact hnext
  | k + 1, m, b, kp, hm, hb, hnext => by
    have hN := isSp_prd hs
    have hcl := isC_len hs hc
    have hlf := form_len hs hc hp (i := (m : Int))
    have hw : isW s (m : Int) = true := (isW_iff s _).2 ⟨by omega, by omega⟩
    have rc9 := specL_l1 hs hc hp hP OR L j0 (r := r) k (m + 1) (stP c (b, kp) (formL s c p (m : Int))).1 (stP c (b, kp) (formL s c p (m : Int))).2 (by omega) (stepS_len hs hc hp _ hb)
      (by rw [fmL_rd s c p (show m < P by omega), List.foldl_cons] at hnext; exact hnext)
    have rest : ∀ b2, b2 = stepS b (formL s c p (m : Int)) → Ev (fun j => spec_l03Least.j2 j c b2 kp OR (ordL (c.map (plW s p))) (m : Int) (ordL (formL s c p (m : Int))) L j0 s) r := by
      rintro b2 rfl
      refine Ev.step (fun k => by simp only [spec_l03Least.j2]; exact rfl) ?_
      refine Ev.bind (l03Before_ev (by omega) (by omega)) ?_
      have hst : (stP c (b, kp) (formL s c p (m : Int))).1 = stepS b (formL s c p (m : Int)) := rfl
      have hsk : (stP c (b, kp) (formL s c p (m : Int))).2 = stepK c kp (formL s c p (m : Int)) := rfl
      rw [hst, hsk] at rc9
      unfold stepK at rc9
      rw [wrap_nat (by unfold maxLen; omega)]
      by_cases h1 : befL (ordL (formL s c p (m : Int))) c = true
      · refine Ev.iff_pos h1 ?_
        rw [if_pos h1] at rc9
        exact rc9
      · refine Ev.iff_neg h1 ?_
        rw [if_neg h1] at rc9
        refine Ev.bind (l03Before_ev (by omega) (by omega)) ?_
        by_cases h2 : befL c (ordL (formL s c p (m : Int))) = true
        · refine Ev.iff_pos h2 ?_
          rw [if_pos h2] at rc9
          exact rc9
        · refine Ev.iff_neg h2 ?_
          rw [if_neg h2] at rc9
          exact rc9
    refine Ev.step (fun k => by simp only [spec_l03Least.l1]; exact rfl) ?_
    refine Ev.bind (l01N_sp hs) ?_
    refine Ev.iff_pos (by omega) ?_
    refine Ev.bind (l01Shifted_ev hs (own_isC hs hp) hw) ?_
    rw [form_ord hp]
    refine Ev.bind (l03Before_ev (by omega) (by omega)) ?_
    by_cases h1 : befL (ordL (formL s c p (m : Int))) b = true
    · refine Ev.iff_pos h1 ?_
      exact rest _ (by unfold stepS; rw [if_pos h1])
    · refine Ev.iff_neg h1 ?_
      exact rest _ (by unfold stepS; rw [if_neg h1])
theorem stP_len {s c p : List Int} (hs : isSp s = true) (hc : isC s c = true) (hp : p ∈ kO s s.length []) (P : Nat) (x : List Int × Int) (hx : x.1.length = c.length) : ((fmL s c P p).foldl (stP c) x).1.length = c.length := by
  unfold fmL
  induction P generalizing x with
  | zero => exact hx
  | succ n ih =>
    rw [List.range_succ, List.map_append, List.foldl_append]
    exact stepS_len hs hc hp _ (ih x hx)
theorem specL_l0 {s c : List Int} (hs : isSp s = true) (hc : isC s c = true) {P : Nat} (hP : (P : Int) = prd s) : ∀ (k m : Nat) (x : List Int × Int), m + k = (kO s s.length []).length → x.1.length = c.length →
    Ev (fun j => spec_l03Least.l0 j c x.1 x.2 (kO s s.length []) ((kO s s.length []).length : Int) (m : Int) s) (((kO s s.length []).drop m).foldl (fun x p => (fmL s c P p).foldl (stP c) x) x)
  | 0, m, x, hm, hx => by
    rw [List.drop_of_length_le (by omega)]
    exact Ev.step (fun k => by simp only [spec_l03Least.l0]; exact rfl) (Ev.iff_neg (by omega) (Ev.now _))
  | k + 1, m, x, hm, hx => by
    have hlt : m < (kO s s.length []).length := by omega
    have hbd := kO_len (isSp_len hs) s.length []
    have h8 : 8 ^ s.length ≤ 16777216 := Nat.le_trans (Nat.pow_le_pow_right (by decide) (isSp_len hs)) (by decide)
    have hmem : (kO s s.length [])[m] ∈ kO s s.length [] := List.getElem_mem hlt
    have hrd : rd_L2 (kO s s.length []) (m : Int) = (kO s s.length [])[m] := by simp [rd_L2, List.getD_eq_getElem?_getD, hlt]
    have rc9 := specL_l0 hs hc hP k (m + 1) ((fmL s c P ((kO s s.length [])[m])).foldl (stP c) x) (by omega) (stP_len hs hc hmem P x hx)
    rw [List.drop_eq_getElem_cons hlt, List.foldl_cons]
    refine Ev.step (fun k => by simp only [spec_l03Least.l0]; exact rfl) (Ev.iff_pos (by omega) (Ev.iff_pos (by omega) (Ev.iff_pos (by omega) ?_)))
    rw [hrd]
    refine Ev.bind (specPl_ev hs (kO_ord hmem) hc) ?_
    refine specL_l1 hs hc hmem hP _ _ _ P 0 x.1 x.2 (by omega) hx ?_
    rw [List.drop_zero, wrap_nat (by unfold maxLen; omega)]
    exact rc9
theorem specLeast_ev {s c : List Int} (hs : isSp s = true) (hc : isC s c = true) : Ev (fun k => spec_l03Least.f k s c) (allF (stP c) s c (c, 0)) := by
  have hcl := isC_len hs hc
  have hp := isSp_prd1 hs
  unfold spec_l03Least.f
  refine Ev.bindc (l01Own_eq c (by omega)) ?_
  refine Ev.bind (specO_ev (isSp_len hs) s.length [] (by simp)) ?_
  have := specL_l0 hs hc (P := (prd s).toNat) (by omega) (kO s s.length []).length 0 (c, 0) (by omega) rfl
  rw [List.drop_zero] at this
  exact this
theorem foldl_rel {α β γ : Type} (R : α → β → Prop) (f : α → γ → α) (g : β → γ → β) : ∀ (l : List γ) (a : α) (b : β), (∀ x y z, z ∈ l → R x y → R (f x z) (g y z)) → R a b → R (l.foldl f a) (l.foldl g b)
  | [], a, b, _, h => h
  | z :: l, a, b, h, hab => foldl_rel R f g l (f a z) (g b z) (fun x y w hw hr => h x y w (List.mem_cons_of_mem _ hw) hr) (h a b z (by simp) hab)
theorem allF_rel {α β : Type} (R : α → β → Prop) {f : α → List Int → α} {g : β → List Int → β} {s c : List Int} (h : ∀ x y p (i : Nat), p ∈ kO s s.length [] → (i : Int) < prd s → R x y → R (f x (formL s c p (i : Int))) (g y (formL s c p (i : Int)))) {a : α} {b : β} (hab : R a b) : R (allF f s c a) (allF g s c b) := by
  unfold allF
  refine foldl_rel R _ _ _ _ _ (fun x y p hp hxy => ?_) hab
  refine foldl_rel R _ _ _ _ _ (fun x y l hl hxy => ?_) hxy
  unfold fmL at hl
  obtain ⟨i, hi, rfl⟩ := List.mem_map.1 hl
  rw [List.mem_range] at hi
  exact h x y p i hp (by omega) hxy
theorem form_small {s c p : List Int} (hs : isSp s = true) (hP : prd s ≤ 81) (i : Int) : small (formL s c p i) := fun y hy => by
  unfold formL at hy
  simp only [List.mem_map] at hy
  obtain ⟨u, _, rfl⟩ := hy
  have := (isW_iff _ _).1 (sumW_isW hs u i)
  rw [smW_eq hs]
  omega
theorem small_ordL {l : List Int} (h : small l) : small (ordL l) := fun x hx => h x ((ordL_mem l x).1 hx)
theorem lo_ordL {l : List Int} (h : small l) : lo l = lo (ordL l) := lo_congr h (fun x => (ordL_mem l x).symm)
theorem hi_ordL {l : List Int} (h : small l) : hi l = hi (ordL l) := hi_congr h (fun x => (ordL_mem l x).symm)
theorem code_small {s c : List Int} (hc : isC s c = true) (hP : prd s ≤ 81) : small c := fun x hx => by
  have := (isW_iff s x).1 (isC_words hc x hx)
  omega
theorem least_rel {s c : List Int} (hs : isSp s = true) (hc : isC s c = true) (hP : prd s ≤ 81) : small (allF stepL s c c) ∧ ordL (allF stepL s c c) = (allF (stP c) s c (c, 0)).1 ∧ (ordL (allF stepL s c c)).length = c.length := by
  refine allF_rel (fun (x : List Int) (y : List Int × Int) => small x ∧ ordL x = y.1 ∧ (ordL x).length = c.length) (fun x y p i hp hip hxy => ?_) ⟨code_small hc hP, ordL_asc (asc_pw (isC_asc hc)), by rw [ordL_asc (asc_pw (isC_asc hc))]⟩
  obtain ⟨h1, h2, h3⟩ := hxy
  have hl := form_len hs hc hp (i := (i : Int))
  have hsm := form_small hs hP (c := c) (p := p) (i : Int)
  have key : cbf (lo (formL s c p (i : Int))) (hi (formL s c p (i : Int))) (lo x) (hi x) = befL (ordL (formL s c p (i : Int))) (ordL x) := by
    rw [lo_ordL hsm, hi_ordL hsm, lo_ordL h1, hi_ordL h1]
    exact cbf_befL (by omega) (ordL_pw _) (ordL_pw _) (small_ordL hsm) (small_ordL h1)
  show small (stepL x _) ∧ ordL (stepL x _) = stepS y.1 _ ∧ (ordL (stepL x _)).length = c.length
  unfold stepL stepS
  rw [key, h2]
  by_cases h : befL (ordL (formL s c p (i : Int))) y.1 = true
  · rw [if_pos h, if_pos h]
    exact ⟨hsm, rfl, hl⟩
  · rw [if_neg h, if_neg h]
    exact ⟨h1, h2, h3⟩
theorem count_rel {s c : List Int} (hs : isSp s = true) (hc : isC s c = true) (hP : prd s ≤ 81) : allF (stepC c) s c 0 = (allF (stP c) s c (c, 0)).2 := by
  refine allF_rel (fun (x : Int) (y : List Int × Int) => x = y.2) (fun x y p i hp hip hxy => ?_) rfl
  subst hxy
  have hl := form_len hs hc hp (i := (i : Int))
  have hsm := form_small hs hP (c := c) (p := p) (i : Int)
  have hcs := code_small hc hP
  have hca := asc_pw (isC_asc hc)
  have key : (lo (formL s c p (i : Int)) = lo c ∧ hi (formL s c p (i : Int)) = hi c) ↔ (befL (ordL (formL s c p (i : Int))) c = false ∧ befL c (ordL (formL s c p (i : Int))) = false) := by
    rw [lo_ordL hsm, hi_ordL hsm, set_eq (ordL_pw _) hca (small_ordL hsm) hcs, befL_eq hl (ordL_pw _) hca]
  show stepC c y.2 _ = stepK c y.2 _
  unfold stepC stepK
  by_cases h : lo (formL s c p (i : Int)) = lo c ∧ hi (formL s c p (i : Int)) = hi c
  · obtain ⟨h1, h2⟩ := key.1 h
    rw [if_pos h, if_neg (by rw [h1]; simp), if_neg (by rw [h2]; simp)]
  · rw [if_neg h]
    by_cases h1 : befL (ordL (formL s c p (i : Int))) c = true
    · rw [if_pos h1]
    · rw [if_neg h1]
      by_cases h2 : befL c (ordL (formL s c p (i : Int))) = true
      · rw [if_pos h2]
      · exact absurd (key.2 ⟨Bool.eq_false_iff.2 h1, Bool.eq_false_iff.2 h2⟩) h
theorem selL_bits {R : List Int} (h : small R) : selL (bitQ (lo R) (hi R)) 128 = ordL R := by
  refine ordL_of ?_ (fun y => ?_)
  · unfold selL
    rw [List.pairwise_map]
    exact (List.pairwise_lt_range.filter _).imp (fun h => by omega)
  · rw [mem_selL]
    constructor
    · rintro ⟨h0, h1, h2⟩
      obtain ⟨n, rfl⟩ := Int.eq_ofNat_of_zero_le h0
      by_cases h3 : n < 64
      · rw [bitQ_lo _ _ h3, lo_bit R h] at h2
        exact (of_decide_eq_true h2).2
      · rw [bitQ_hi _ _ h3, hi_bit R h] at h2
        have := of_decide_eq_true h2
        rw [show n - 64 + 64 = n by omega] at this
        exact this
    · intro hy
      have hb := h y hy
      obtain ⟨n, rfl⟩ := Int.eq_ofNat_of_zero_le hb.1
      refine ⟨hb.1, by omega, ?_⟩
      by_cases h3 : n < 64
      · rw [bitQ_lo _ _ h3, lo_bit R h]
        exact decide_eq_true ⟨h3, hy⟩
      · rw [bitQ_hi _ _ h3, hi_bit R h]
        apply decide_eq_true
        rw [show n - 64 + 64 = n by omega]
        exact hy
end Go.Proofs.YtnkndaapamenmaaGreat.Q
set_option linter.unusedVariables false
set_option linter.unusedSimpArgs false
namespace Go.Proofs.YtnkndaapamenmaaGreat.P
open Go.RowKit Go.Proofs.YtnkndaapamenmaaGreatW.PrintWords Go.Proofs.YtnkndaapamenmaaGreatW.PrintLast Go.Proofs.YtnkndaapamenmaaGreatW.PrintMore CC
theorem rowsC9 {W : World} {g : Nat} {t : TypeId} (cs : Array Value) (ps : List (List Int)) (h : W.heap[g]? = some (.cells cs t (0, 0))) (hl : ps.length ≤ 10)
    (hp : ∀ (j : Nat) (p : List Int), ps[j]? = some p → ∃ A c, cs[j]? = some (.slice A p.length c) ∧ p.length ≤ c ∧ Kd.C (Kd.int .i64) W A p.length p) :
    Kd.C (Kd.slice 2 (Kd.int .i64)) W (some ⟨g, 0, none⟩) ps.length ps := by
  refine ⟨rfl, by omega, fun _ => ⟨⟨g, 0, none⟩, rfl, fun j p hj => ?_⟩⟩
  obtain ⟨A, c, h1, h2, h3⟩ := hp j p hj
  refine ⟨[.slice A p.length c], rfl, ⟨A, c, rfl, h2, h3⟩, fun i u hi => ?_⟩
  match i, hi with
  | 0, hi =>
    have e : u = .slice A p.length c := by simpa using hi.symm
    subst e
    have hb := blk_cell h j
    show W.cell? ((⟨g, 0, none⟩ : Addr).add (j * 1 + 0)) = _
    rw [add_plain, Nat.mul_one, Nat.add_zero, hb]
    exact h1
theorem form_facts {s C : List Int} (h : Q.rF1 s C = 0) : isSp s = true ∧ small C ∧ (∀ x ∈ C, 0 ≤ x ∧ x ≤ 1024) ∧ (∀ u i : Int, 0 ≤ u → u < prd s → 0 ≤ i → i < prd s → 0 ≤ smW s u i ∧ smW s u i < 128) := by
  obtain ⟨h1, h2⟩ := Q.rF1_zero h
  obtain ⟨hs, hc, _⟩ := Q.rCode_zero h1
  have hw : ∀ x ∈ C, 0 ≤ x ∧ x < prd s := fun x hx => (isW_iff s x).1 (Q.isC_words hc x hx)
  exact ⟨hs, fun x hx => by have := hw x hx; omega, fun x hx => by have := hw x hx; omega, Q.smW_small hs (by omega)⟩
theorem leastForm_of (A : Option Addr) (c : Nat) (s : List Int) (A1 : Option Addr) (c1 : Nat) (C : List Int) (w : World)
    (hr : Kd.C (Kd.int .i64) w A s.length s) (hc : s.length ≤ c) (hr1 : Kd.C (Kd.int .i64) w A1 C.length C) (hc1 : C.length ≤ c1) (hCl : C.length ≤ 1048576) (h : Q.rF1 s C = 0) :
    Calls Tryz.prog 22 #[.agg #[.slice A s.length c], .slice A1 C.length c1] w
      fun e w' => e = .returned (setV (allF stepL s C C)) ∧ small (allF stepL s C C) ∧ Below w.heap.size w w' := by
  obtain ⟨hs, hsC, hCW, hsm⟩ := form_facts h
  exact leastForm_calls A c s A1 c1 C w hr hc hs hr1 hc1 hCl hsC hCW (Q.kO_PO hs) (Q.kO_PL hs) hsm
end Go.Proofs.YtnkndaapamenmaaGreat.P
set_option linter.unusedVariables false
set_option linter.unusedSimpArgs false
namespace Go.Proofs.YtnkndaapamenmaaGreat.Q
open Go.RowKit Go.Proofs.YtnkndaapamenmaaGreat.P Go.Proofs.YtnkndaapamenmaaGreatW.PrintWords CC
theorem kO_mem {s : List Int} : ∀ (d : Nat) (q t : List Int), q.length + d = s.length → t.length = d → keptP s (q ++ t) → q ++ t ∈ kO s d q
  | 0, q, t, hq, ht, hk => by
    have : t = [] := List.eq_nil_of_length_eq_zero ht
    subst this
    simp [kO]
  | d + 1, q, [], hq, ht, hk => by simp at ht
  | d + 1, q, x :: t, hq, ht, hk => by
    have e : q ++ x :: t = (q ++ [x]) ++ t := by simp
    have hx := hk.2.1 x (by simp)
    obtain ⟨n, rfl⟩ := Int.eq_ofNat_of_zero_le hx.1
    simp only [kO, List.mem_flatMap, List.mem_range]
    refine ⟨n, by omega, ?_⟩
    have h1 := hk.2.2 q.length (by simp)
    have h2 : rd (q ++ (n : Int) :: t) (q.length : Int) = n := by simp [rd, List.getD_eq_getElem?_getD]
    rw [h2] at h1
    have h3 : ¬ (n : Int) ∈ q := by
      have h4 := hk.1
      rw [List.nodup_append] at h4
      exact fun hm => h4.2.2 (n : Int) hm (n : Int) (by simp) rfl
    rw [if_pos ⟨h1, h3⟩, e]
    exact kO_mem d (q ++ [(n : Int)]) t (by simp; omega) (by simpa using ht) (by rw [← e]; exact hk)
theorem kO_iff {s p : List Int} : p ∈ kO s s.length [] ↔ keptP s p ∧ p.length = s.length :=
  ⟨kO_all, fun h => by have := kO_mem (s := s) s.length [] p (by simp) h.2 (by simpa using h.1); simpa using this⟩
theorem dg_plW {s p : List Int} (hs : isSp s = true) (hp : p ∈ kO s s.length []) (x : Int) : dg s (plW s p x) = putN p.length (dg s x) p p.length := by
  have ho := kO_ord hp
  have hl := (kO_all hp).2
  have h1 := putN_inR (N := p.length) hs ho (inR_dg (isSp_all hs) x) (by rw [dg_length]; omega) (Nat.le_refl _)
  rw [kO_osp hp] at h1
  rw [plW_wd hs ho, kO_osp hp, dg_wd (isSp_all hs) (by rw [putN_length, hl]) h1]
theorem rd_plW {s p : List Int} (hs : isSp s = true) (hp : p ∈ kO s s.length []) (x : Int) {j : Nat} (hj : j < s.length) : rd (dg s (plW s p x)) (rd p (j : Int)) = rd (dg s x) (j : Int) := by
  have ho := kO_ord hp
  have hl := (kO_all hp).2
  obtain ⟨_, hn, hb, _⟩ := ordQ_facts ho
  rw [dg_plW hs hp]
  exact putN_rd hn (fun x hx => (hb x hx).1) p.length (dg s x) p.length (Nat.le_refl _) j (by omega) (ordQ_rd ho j (by omega)).2
theorem rd_place {s p : List Int} (hp : p ∈ kO s s.length []) {j : Nat} (hj : j < s.length) : ∃ k : Nat, k < s.length ∧ rd p (j : Int) = k := by
  have hl := (kO_all hp).2
  have h := ordQ_rd (kO_ord hp) j (by omega)
  exact ⟨(rd p (j : Int)).toNat, by omega, by omega⟩
theorem word_ext {s : List Int} (hs : isSp s = true) {x y : Int} (hx : isW s x = true) (hy : isW s y = true) (h : ∀ k : Nat, k < s.length → rd (dg s x) (k : Int) = rd (dg s y) (k : Int)) : x = y :=
  dg_inj9 hs hx hy (rd_ext (by rw [dg_length, dg_length]) (fun j hj => h j (by rw [dg_length] at hj; exact hj)))
theorem word_ext_p {s p : List Int} (hs : isSp s = true) (hp : p ∈ kO s s.length []) {x y : Int} (hx : isW s x = true) (hy : isW s y = true) (h : ∀ j : Nat, j < s.length → rd (dg s x) (rd p (j : Int)) = rd (dg s y) (rd p (j : Int))) : x = y :=
  word_ext hs hx hy (fun k hk => by
    have hl := (kO_all hp).2
    obtain ⟨j, hj, e⟩ := ordQ_onto (kO_ord hp) (k := k) (by omega)
    rw [← e]
    exact h j (by omega))
theorem dg_sumW {s : List Int} (hs : isSp s = true) (u w : Int) : dg s (sumW s u w) = sumL s (dg s u) (dg s w) := dg_wd (isSp_all hs) (sumL_length _ _ _) (sumL_inR (isSp_all hs) _ _)
theorem rd_sumW {s : List Int} (hs : isSp s = true) (u w : Int) {k : Nat} (hk : k < s.length) : rd (dg s (sumW s u w)) (k : Int) = (rd (dg s u) (k : Int) + rd (dg s w) (k : Int)) % rd s (k : Int) := by
  rw [dg_sumW hs]
  unfold sumL
  exact genL_rd _ hk
theorem plW_sum {s p : List Int} (hs : isSp s = true) (hp : p ∈ kO s s.length []) (x w : Int) : plW s p (sumW s x w) = sumW s (plW s p x) (plW s p w) := by
  refine word_ext_p hs hp (plW_word hs hp _) (sumW_isW hs _ _) (fun j hj => ?_)
  obtain ⟨k, hk, e⟩ := rd_place hp hj
  have h1 := rd_plW hs hp (sumW s x w) hj
  have h2 := rd_plW hs hp x hj
  have h3 := rd_plW hs hp w hj
  have h4 := (kO_all hp).1.2.2 j (by rw [(kO_all hp).2]; exact hj)
  rw [h1, rd_sumW hs _ _ hj]
  rw [e] at h2 h3 h4 ⊢
  rw [rd_sumW hs _ _ hk, h2, h3, h4]
def cmpP (s p q : List Int) : List Int := (upTo s.length).map fun j => rd p (rd q j)
theorem cmpP_rd {s p q : List Int} {j : Nat} (hj : j < s.length) : rd (cmpP s p q) (j : Int) = rd p (rd q (j : Int)) := by
  simp [cmpP, upTo, rd, List.getD_eq_getElem?_getD, hj]
theorem cmpP_len (s p q : List Int) : (cmpP s p q).length = s.length := by simp [cmpP, upTo]
theorem rd_inj {l : List Int} (hn : l.Nodup) {i j : Nat} (hi : i < l.length) (hj : j < l.length) (e : rd l (i : Int) = rd l (j : Int)) : i = j := by
  rw [rd_getElem hi, rd_getElem hj] at e
  exact (List.getElem_inj hn).1 e
theorem nodup_rd {l : List Int} (h : ∀ i j : Nat, i < l.length → j < l.length → rd l (i : Int) = rd l (j : Int) → i = j) : l.Nodup := by
  rw [List.nodup_iff_pairwise_ne, List.pairwise_iff_getElem]
  intro i j hi hj hij e
  have := h i j hi hj (by rw [rd_getElem hi, rd_getElem hj]; exact e)
  omega
theorem cmpP_kO {s p q : List Int} (hp : p ∈ kO s s.length []) (hq : q ∈ kO s s.length []) : cmpP s p q ∈ kO s s.length [] := by
  have hlp := (kO_all hp).2
  have hlq := (kO_all hq).2
  refine kO_iff.2 ⟨⟨?_, ?_, ?_⟩, cmpP_len s p q⟩
  · refine nodup_rd (fun i j hi hj e => ?_)
    rw [cmpP_len] at hi hj
    rw [cmpP_rd hi, cmpP_rd hj] at e
    obtain ⟨a, ha, ea⟩ := rd_place hq hi
    obtain ⟨b, hb, eb⟩ := rd_place hq hj
    rw [ea, eb] at e
    have := rd_inj (kO_all hp).1.1 (by omega) (by omega) e
    subst this
    exact rd_inj (kO_all hq).1.1 (by omega) (by omega) (by rw [ea, eb])
  · intro x hx
    simp only [cmpP, List.mem_map, upTo, List.mem_range] at hx
    obtain ⟨_, ⟨j, hj, rfl⟩, rfl⟩ := hx
    obtain ⟨a, ha, ea⟩ := rd_place hq hj
    obtain ⟨b, hb, eb⟩ := rd_place hp ha
    rw [ea, eb]
    omega
  · intro j hj
    rw [cmpP_len] at hj
    rw [cmpP_rd hj]
    obtain ⟨a, ha, ea⟩ := rd_place hq hj
    have h1 := (kO_all hq).1.2.2 j (by omega)
    have h2 := (kO_all hp).1.2.2 a (by omega)
    rw [ea] at h1 ⊢
    rw [h2, h1]
theorem plW_cmp {s p q : List Int} (hs : isSp s = true) (hp : p ∈ kO s s.length []) (hq : q ∈ kO s s.length []) (x : Int) : plW s (cmpP s p q) x = plW s p (plW s q x) := by
  have hc := cmpP_kO hp hq
  refine word_ext_p hs hc (plW_word hs hc _) (plW_word hs hp _) (fun j hj => ?_)
  obtain ⟨a, ha, ea⟩ := rd_place hq hj
  have h1 := rd_plW hs hc x hj
  have h2 := rd_plW hs hp (plW s q x) ha
  have h3 := rd_plW hs hq x hj
  rw [h1, cmpP_rd hj, ea, h2, ← ea, h3]
theorem upTo_kO (s : List Int) : upTo s.length ∈ kO s s.length [] := by
  refine kO_iff.2 ⟨⟨?_, ?_, ?_⟩, upTo_length _⟩
  · refine nodup_rd (fun i j hi hj e => ?_)
    rw [upTo_length] at hi hj
    rw [upTo_rd hi, upTo_rd hj] at e
    omega
  · intro x hx
    simp only [upTo, List.mem_map, List.mem_range] at hx
    obtain ⟨j, hj, rfl⟩ := hx
    omega
  · intro j hj
    rw [upTo_length] at hj
    rw [upTo_rd hj]
theorem plW_id {s : List Int} (hs : isSp s = true) {x : Int} (hx : isW s x = true) : plW s (upTo s.length) x = x := by
  have hp := upTo_kO s
  refine word_ext_p hs hp (plW_word hs hp _) hx (fun j hj => ?_)
  rw [rd_plW hs hp x hj, upTo_rd hj]
def invP (s p : List Int) : List Int := putN s.length (upTo s.length) p p.length
theorem invP_rd {s p : List Int} (hp : p ∈ kO s s.length []) {j : Nat} (hj : j < s.length) : rd (invP s p) (rd p (j : Int)) = j := by
  have hl := (kO_all hp).2
  obtain ⟨_, hn, hb, _⟩ := ordQ_facts (kO_ord hp)
  have := putN_rd hn (fun x hx => (hb x hx).1) s.length (upTo s.length) p.length (Nat.le_refl _) j (by omega) (by have := (ordQ_rd (kO_ord hp) j (by omega)).2; omega)
  rw [upTo_rd hj] at this
  exact this
theorem invP_len (s p : List Int) : (invP s p).length = s.length := putN_length _ _ _ _
theorem invP_at {s p : List Int} (hp : p ∈ kO s s.length []) {k : Nat} (hk : k < s.length) : ∃ j : Nat, j < s.length ∧ rd p (j : Int) = k ∧ rd (invP s p) (k : Int) = j := by
  have hl := (kO_all hp).2
  obtain ⟨j, hj, e⟩ := ordQ_onto (kO_ord hp) (k := k) (by omega)
  have := invP_rd hp (j := j) (by omega)
  rw [e] at this
  exact ⟨j, by omega, e, this⟩
theorem invP_kO {s p : List Int} (hp : p ∈ kO s s.length []) : invP s p ∈ kO s s.length [] := by
  refine kO_iff.2 ⟨⟨?_, ?_, ?_⟩, invP_len s p⟩
  · refine nodup_rd (fun i j hi hj e => ?_)
    rw [invP_len] at hi hj
    obtain ⟨a, ha, e1, e2⟩ := invP_at hp hi
    obtain ⟨b, hb, e3, e4⟩ := invP_at hp hj
    rw [e2, e4] at e
    have : a = b := by omega
    subst this
    omega
  · intro x hx
    obtain ⟨k, hk, e⟩ := List.getElem_of_mem hx
    rw [invP_len] at hk
    obtain ⟨a, ha, e1, e2⟩ := invP_at hp hk
    have : rd (invP s p) (k : Int) = x := by rw [rd_getElem (by rw [invP_len]; exact hk)]; exact e
    omega
  · intro j hj
    rw [invP_len] at hj
    obtain ⟨a, ha, e1, e2⟩ := invP_at hp hj
    have := (kO_all hp).1.2.2 a (by rw [(kO_all hp).2]; exact ha)
    rw [e1] at this
    rw [e2, this]
theorem plW_inv {s p : List Int} (hs : isSp s = true) (hp : p ∈ kO s s.length []) {x : Int} (hx : isW s x = true) : plW s (invP s p) (plW s p x) = x := by
  have hi := invP_kO hp
  refine word_ext hs (plW_word hs hi _) hx (fun j hj => ?_)
  obtain ⟨k, hk, e⟩ := rd_place hp hj
  have h1 := rd_plW hs hi (plW s p x) hk
  have h2 := rd_plW hs hp x hj
  have h3 := invP_rd hp hj
  rw [e] at h2 h3
  rw [h3] at h1
  rw [h1, h2]
def act (s : List Int) (g : List Int × Int) (x : Int) : Int := sumW s (plW s g.1 x) g.2
def inG (s : List Int) (g : List Int × Int) : Prop := g.1 ∈ kO s s.length [] ∧ isW s g.2 = true
theorem act_word {s : List Int} (hs : isSp s = true) (g : List Int × Int) (x : Int) : isW s (act s g x) = true := sumW_isW hs _ _
theorem sumW_assoc {s : List Int} (hs : isSp s = true) (a b c : Int) : sumW s (sumW s a b) c = sumW s a (sumW s b c) := by
  refine word_ext hs (sumW_isW hs _ _) (sumW_isW hs _ _) (fun k hk => ?_)
  rw [rd_sumW hs _ _ hk, rd_sumW hs _ _ hk, rd_sumW hs _ _ hk, rd_sumW hs _ _ hk, Int.emod_add_emod, Int.add_emod_emod, Int.add_assoc]
theorem sumW_comm {s : List Int} (hs : isSp s = true) (a b : Int) : sumW s a b = sumW s b a := by
  refine word_ext hs (sumW_isW hs _ _) (sumW_isW hs _ _) (fun k hk => ?_)
  rw [rd_sumW hs _ _ hk, rd_sumW hs _ _ hk, Int.add_comm]
theorem zero_word {s : List Int} (hs : isSp s = true) : isW s 0 = true := (isW_iff s 0).2 ⟨by omega, by have := isSp_prd1 hs; omega⟩
theorem dgr_zero9 : ∀ r : List Int, dgr r 0 = List.replicate r.length 0
  | [] => rfl
  | q :: r => by simp [dgr, dgr_zero9 r, List.replicate_succ]
theorem rd_dg0 (s : List Int) (k : Nat) : rd (dg s 0) (k : Int) = 0 := by
  unfold dg
  rw [dgr_zero9, List.length_reverse, List.reverse_replicate]
  simp only [rd, Int.toNat_natCast, List.getD_eq_getElem?_getD, List.getElem?_replicate]
  split <;> rfl
theorem rd_dg_lt {s : List Int} (hs : isSp s = true) (x : Int) {k : Nat} (hk : k < s.length) : 0 ≤ rd (dg s x) (k : Int) ∧ rd (dg s x) (k : Int) < rd s (k : Int) := inR_rd s (dg s x) k (inR_dg (isSp_all hs) x) hk (by rw [dg_length]; exact hk)
theorem sumW_zero {s : List Int} (hs : isSp s = true) {x : Int} (hx : isW s x = true) : sumW s x 0 = x := by
  refine word_ext hs (sumW_isW hs _ _) hx (fun k hk => ?_)
  rw [rd_sumW hs _ _ hk, rd_dg0, Int.add_zero]
  have := rd_dg_lt hs x hk
  exact Int.emod_eq_of_lt this.1 this.2
def oppW9 (s : List Int) (w : Int) : Int := wd s (genL (fun k => (-rd (dg s w) (k : Int)) % rd s (k : Int)) s.length)
theorem opp_inR9 {s : List Int} (hs : isSp s = true) (w : Int) : inR s (genL (fun k => (-rd (dg s w) (k : Int)) % rd s (k : Int)) s.length) = true := by
  refine genL_inR fun k hk => ?_
  have hq := all_rd (isSp_all hs) hk
  exact ⟨Int.emod_nonneg _ (by omega), Int.emod_lt_of_pos _ (by omega)⟩
theorem oppW9_isW {s : List Int} (hs : isSp s = true) (w : Int) : isW s (oppW9 s w) = true := wd_word (isSp_all hs) (genL_length _ _).symm (opp_inR9 hs w)
theorem rd_opp9 {s : List Int} (hs : isSp s = true) (w : Int) {k : Nat} (hk : k < s.length) : rd (dg s (oppW9 s w)) (k : Int) = (-rd (dg s w) (k : Int)) % rd s (k : Int) := by
  unfold oppW9
  rw [dg_wd (isSp_all hs) (genL_length _ _) (opp_inR9 hs w), genL_rd _ hk]
theorem sum_opp9 {s : List Int} (hs : isSp s = true) (w : Int) : sumW s w (oppW9 s w) = 0 := by
  refine word_ext hs (sumW_isW hs _ _) (zero_word hs) (fun k hk => ?_)
  rw [rd_sumW hs _ _ hk, rd_opp9 hs w hk, rd_dg0, Int.add_emod_emod, Int.add_right_neg, Int.zero_emod]
def cmpG (s : List Int) (g h : List Int × Int) : List Int × Int := (cmpP s g.1 h.1, sumW s (plW s g.1 h.2) g.2)
def invG (s : List Int) (g : List Int × Int) : List Int × Int := (invP s g.1, plW s (invP s g.1) (oppW9 s g.2))
def oneG (s : List Int) : List Int × Int := (upTo s.length, 0)
theorem cmpG_in {s : List Int} (hs : isSp s = true) {g h : List Int × Int} (hg : inG s g) (hh : inG s h) : inG s (cmpG s g h) := ⟨cmpP_kO hg.1 hh.1, sumW_isW hs _ _⟩
theorem invG_in {s : List Int} (hs : isSp s = true) {g : List Int × Int} (hg : inG s g) : inG s (invG s g) := ⟨invP_kO hg.1, plW_word hs (invP_kO hg.1) _⟩
theorem oneG_in {s : List Int} (hs : isSp s = true) : inG s (oneG s) := ⟨upTo_kO s, zero_word hs⟩
theorem act_cmp {s : List Int} (hs : isSp s = true) {g h : List Int × Int} (hg : inG s g) (hh : inG s h) (x : Int) : act s (cmpG s g h) x = act s g (act s h x) := by
  unfold act cmpG
  rw [plW_cmp hs hg.1 hh.1, plW_sum hs hg.1, sumW_assoc hs]
theorem act_one {s : List Int} (hs : isSp s = true) {x : Int} (hx : isW s x = true) : act s (oneG s) x = x := by
  unfold act oneG
  rw [plW_id hs hx, sumW_zero hs hx]
theorem act_inv {s : List Int} (hs : isSp s = true) {g : List Int × Int} (hg : inG s g) {x : Int} (hx : isW s x = true) : act s (invG s g) (act s g x) = x := by
  unfold act invG
  rw [plW_sum hs (invP_kO hg.1), plW_inv hs hg.1 hx, sumW_assoc hs, ← plW_sum hs (invP_kO hg.1), sum_opp9 hs]
  have h0 : plW s (invP s g.1) 0 = 0 := by
    refine word_ext_p hs (invP_kO hg.1) (plW_word hs (invP_kO hg.1) _) (zero_word hs) (fun j hj => ?_)
    obtain ⟨k, hk, e⟩ := rd_place (invP_kO hg.1) hj
    rw [rd_plW hs (invP_kO hg.1) 0 hj, rd_dg0, e, rd_dg0]
  rw [h0, sumW_zero hs hx]
theorem act_inj {s : List Int} (hs : isSp s = true) {g : List Int × Int} (hg : inG s g) {x y : Int} (hx : isW s x = true) (hy : isW s y = true) (e : act s g x = act s g y) : x = y := by
  rw [← act_inv hs hg hx, ← act_inv hs hg hy, e]
def img (s c : List Int) (g : List Int × Int) : List Int := ordL (c.map (act s g))
theorem img_form {s c : List Int} (hs : isSp s = true) {g : List Int × Int} (hg : inG s g) : ordL (formL s c g.1 g.2) = img s c g := by
  unfold img formL
  rw [List.map_map]
  congr 1
  apply List.map_congr_left
  intro x _
  simp only [Function.comp, act]
  rw [smW_eq hs, plW0_eq hg.1]
theorem img_mem {s c : List Int} {g : List Int × Int} {y : Int} : y ∈ img s c g ↔ ∃ x ∈ c, act s g x = y := by
  unfold img
  rw [ordL_mem, List.mem_map]
theorem img_img {s c : List Int} (hs : isSp s = true) {g h : List Int × Int} (hg : inG s g) (hh : inG s h) : img s (img s c h) g = img s c (cmpG s g h) := by
  refine asc_ext (ordL_pw _) (ordL_pw _) (fun y => ?_)
  show y ∈ img s (img s c h) g ↔ y ∈ img s c (cmpG s g h)
  rw [img_mem, img_mem]
  constructor
  · rintro ⟨z, hz, rfl⟩
    obtain ⟨x, hx, rfl⟩ := img_mem.1 hz
    exact ⟨x, hx, act_cmp hs hg hh x⟩
  · rintro ⟨x, hx, rfl⟩
    exact ⟨act s h x, img_mem.2 ⟨x, hx, rfl⟩, (act_cmp hs hg hh x).symm⟩
theorem img_congr {s c : List Int} {g h : List Int × Int} (e : ∀ x ∈ c, act s g x = act s h x) : img s c g = img s c h := by
  unfold img
  rw [List.map_congr_left e]
theorem img_one {s c : List Int} (hs : isSp s = true) (hc : isC s c = true) : img s c (oneG s) = c := by
  unfold img
  have e : c.map (act s (oneG s)) = c := by
    conv => rhs; rw [← List.map_id c]
    exact List.map_congr_left (fun x hx => act_one hs (isC_words hc x hx))
  rw [e, ordL_asc (asc_pw (isC_asc hc))]
theorem img_isC {s c : List Int} (hs : isSp s = true) (g : List Int × Int) : isC s (img s c g) = true := by
  unfold isC
  rw [Bool.and_eq_true, List.all_eq_true]
  refine ⟨fun y hy => ?_, pw_asc (ordL_pw _)⟩
  obtain ⟨x, _, rfl⟩ := img_mem.1 hy
  exact act_word hs g x
theorem img_len {s c : List Int} (hs : isSp s = true) (hc : isC s c = true) {g : List Int × Int} (hg : inG s g) : (img s c g).length = c.length :=
  ordL_len_inj (pw_nodup (asc_pw (isC_asc hc))) (fun x hx y hy e => act_inj hs hg (isC_words hc x hx) (isC_words hc y hy) e)
theorem img_back {s c : List Int} (hs : isSp s = true) (hc : isC s c = true) {g : List Int × Int} (hg : inG s g) : img s (img s c g) (invG s g) = c := by
  rw [img_img hs (invG_in hs hg) hg]
  have e : img s c (cmpG s (invG s g) g) = img s c (oneG s) := img_congr (fun x hx => by rw [act_cmp hs (invG_in hs hg) hg, act_inv hs hg (isC_words hc x hx), act_one hs (isC_words hc x hx)])
  rw [e, img_one hs hc]
end Go.Proofs.YtnkndaapamenmaaGreat.Q
set_option linter.unusedVariables false
set_option linter.unusedSimpArgs false
namespace Go.Proofs.YtnkndaapamenmaaGreat.P
open Go.RowKit Go.Proofs.YtnkndaapamenmaaGreatW.PrintWords Go.Proofs.YtnkndaapamenmaaGreatW.PrintLast Go.Proofs.YtnkndaapamenmaaGreatW.PrintMore CC
def alikeR (s C D : List Int) : Bool × Int := if Q.rF2 s C D = 0 then (decide (lo (allF stepL s C C) = lo (allF stepL s D D)) && decide (hi (allF stepL s C C) = hi (allF stepL s D D)), 0) else (false, Q.rF2 s C D)
set_option maxHeartbeats 4000000 in
set_option maxRecDepth 100000 in
theorem alike_calls (A : Option Addr) (c : Nat) (s : List Int) (A1 : Option Addr) (c1 : Nat) (C : List Int) (A2 : Option Addr) (c2 : Nat) (D : List Int) (w : World) (hr : Kd.C (Kd.int .i64) w A s.length s) (hc : s.length ≤ c) (hr1 : Kd.C (Kd.int .i64) w A1 C.length C) (hc1 : C.length ≤ c1) (hCl : C.length ≤ 1048576) (hr2 : Kd.C (Kd.int .i64) w A2 D.length D) (hc2 : D.length ≤ c2) (hDl : D.length ≤ 1048576) :
    Calls Tryz.prog 6 #[.agg #[.slice A s.length c], .slice A1 C.length c1, .slice A2 D.length c2] w
      fun e w' => e = .returned (.tuple #[.bool (alikeR s C D).1, .int .i64 (alikeR s C D).2]) ∧ Below w.heap.size w w' := by
  have huS := Tryz.underlying26
  have HR := Aside0.mk hr
  have HR1 := Aside0.mk hr1
  have HR2 := Aside0.mk hr2
  obtain ⟨kb, hbc⟩ := (Q.formCode2_ev s (C := C) (D := D) hCl hDl).rounds
  have HBC := Aside0.mk hbc
  clear hr hr1 hr2 hbc
  go_enter Tryz.func6, Tryz.ntmps6
  have kz : (w.alloc (.cells #[.slice A s.length c] 26)).cell? ⟨w.heap.size, 0, none⟩ = some (.slice A s.length c) := blk_cell (blk_new w (.cells #[.slice A s.length c] 26)) 0
  have hB : Below w.heap.size w ((w.alloc (.cells #[.slice A s.length c] 26)).alloc (.cells #[.slice A1 C.length c1, .slice A2 D.length c2] 24)) := below_alloc ((Below.refl _ _).alloc (Nat.le_refl _) _) _
  have K0 := blk_alloc (blk_new w (.cells #[.slice A s.length c] 26)) (.cells #[.slice A1 C.length c1, .slice A2 D.length c2] 24)
  have K1 : ((w.alloc (.cells #[.slice A s.length c] 26)).alloc (.cells #[.slice A1 C.length c1, .slice A2 D.length c2] 24)).heap[w.heap.size + 1]? = some (.cells #[.slice A1 C.length c1, .slice A2 D.length c2] 24 (0, 0)) := by simpa using blk_new (w.alloc (.cells #[.slice A s.length c] 26)) (.cells #[.slice A1 C.length c1, .slice A2 D.length c2] 24)
  have hRC := rowsC9 #[.slice A1 C.length c1, .slice A2 D.length c2] [C, D] K1 (by simp) (fun j p hj => by
    match j, hj with
    | 0, hj =>
      have e : p = C := by simpa using hj.symm
      subst e
      exact ⟨A1, c1, rfl, hc1, Kd.C_below HR1.out hB⟩
    | 1, hj =>
      have e : p = D := by simpa using hj.symm
      subst e
      exact ⟨A2, c2, rfl, hc2, Kd.C_below HR2.out hB⟩)
  have hcal := impl_formCode.calls kb A c s (some ⟨w.heap.size + 1, 0, none⟩) 2 [C, D] (Q.rF2 s C D) _ (Kd.C_below HR.out hB) hc hRC (by simp) HBC.out
  have K0 := Aside0.mk K0
  have hB := Aside0.mk hB
  clear K1 hRC
  go_wp2_with fail
  refine hcal.mono ?_
  rintro e w1 ⟨rfl, hb⟩
  have S1 := Aside0.mk (blk_below K0.out hb)
  have B1 := Aside0.mk (below_then hB.out hB.out.size hb)
  clear hcal hb kz K0 hB
  by_cases hz : Q.rF2 s C D = 0
  · have HZ : Aside0 (alikeR s C D = (decide (lo (allF stepL s C C) = lo (allF stepL s D D)) && decide (hi (allF stepL s C C) = hi (allF stepL s D D)), 0)) := ⟨by unfold alikeR; rw [if_pos hz]⟩
    obtain ⟨z1, z2⟩ := Q.rF2_zero hz
    obtain ⟨_, z3⟩ := Q.rF1_zero z2
    have z4 : Q.rF1 s C = 0 := by unfold Q.rF1; rw [if_pos z1, if_neg (by omega)]
    obtain ⟨a1, ha1⟩ : ∃ a, a = lo (allF stepL s C C) := ⟨_, rfl⟩
    obtain ⟨b1, hb1⟩ : ∃ a, a = hi (allF stepL s C C) := ⟨_, rfl⟩
    obtain ⟨a2, ha2⟩ : ∃ a, a = lo (allF stepL s D D) := ⟨_, rfl⟩
    obtain ⟨b2, hb2⟩ : ∃ a, a = hi (allF stepL s D D) := ⟨_, rfl⟩
    obtain ⟨V1, hV1⟩ : ∃ V, Value.slice A1 C.length c1 = V := ⟨_, rfl⟩
    obtain ⟨V2, hV2⟩ : ∃ V, Value.slice A2 D.length c2 = V := ⟨_, rfl⟩
    have HL1 : Aside0 (∀ W, Below w1.heap.size w1 W → Calls Tryz.prog 22 #[.agg #[.slice A s.length c], V1] W fun e w' => e = .returned (.agg #[.int .u64 (a1 : Int), .int .u64 (b1 : Int)]) ∧ Below W.heap.size W w') := ⟨fun W hW => by
      rw [← hV1, ha1, hb1]
      refine (leastForm_of A c s A1 c1 C W (Kd.C_below HR.out (below_then B1.out B1.out.size hW)) hc (Kd.C_below HR1.out (below_then B1.out B1.out.size hW)) hc1 hCl z4).mono ?_
      rintro e w' ⟨h1, _, h3⟩
      exact ⟨h1, h3⟩⟩
    have HL2 : Aside0 (∀ W, Below w1.heap.size w1 W → Calls Tryz.prog 22 #[.agg #[.slice A s.length c], V2] W fun e w' => e = .returned (.agg #[.int .u64 (a2 : Int), .int .u64 (b2 : Int)]) ∧ Below W.heap.size W w') := ⟨fun W hW => by
      rw [← hV2, ha2, hb2]
      refine (leastForm_of A c s A2 c2 D W (Kd.C_below HR.out (below_then B1.out B1.out.size hW)) hc (Kd.C_below HR2.out (below_then B1.out B1.out.size hW)) hc2 hDl z2).mono ?_
      rintro e w' ⟨h1, _, h3⟩
      exact ⟨h1, h3⟩⟩
    obtain ⟨q, hq⟩ : ∃ q, q = (decide (a1 = a2) && decide (b1 = b2)) := ⟨_, rfl⟩
    have hEQ : ∀ W, (Op.equalIn 10000 42 (.agg #[.int .u64 (a1 : Int), .int .u64 (b1 : Int)]) (.agg #[.int .u64 (a2 : Int), .int .u64 (b2 : Int)])).run Tryz.prog W = .ok q W := fun W => by rw [hq]; exact eq_sets _ _ _ _ W
    have HZ1 : Aside0 (alikeR s C D = (q, 0)) := ⟨by rw [HZ.out, hq, ha1, hb1, ha2, hb2]⟩
    have huT := Tryz.underlying42
    rw [hz]
    clear hz HBC z1 z2 z3 z4 HZ ha1 hb1 ha2 hb2 hq
    have k1 : w1.cell? ⟨w.heap.size, 0, none⟩ = some (.slice A s.length c) := blk_cell S1.out 0
    go_wp2_with fail
    have hB1 : Below w1.heap.size w1 w1 := Below.refl _ _
    (try rw [hV1])
    (try rw [hV2])
    clear hV1 hV2
    have hBd : Below w1.heap.size w1 w1.drew := below_drew (Below.refl _ _)
    have k1d : w1.drew.cell? ⟨w.heap.size, 0, none⟩ = some (.slice A s.length c) := k1
    refine start_ (n := 9) (S := fun w' => w'.cell? ⟨w.heap.size, 0, none⟩ = some (.slice A s.length c)) (ds := []) #[false, false, false, false, false, false, false, false, false] (by kernel_rfl) rfl rfl k1d (fun hHeld => ?_)
    refine pure_ (i := 1) (N := some 18) (v := ?_) (a' := ?_) #[false, true, false, false, false, false, false, false, false] rfl rfl (by kernel_rfl) (fun _ _ _ h => h) (Or.inl ⟨by rfl, ?_⟩) ?_ ?_
    rotate_left
    · intro w'
      go_simp
      try with_reducible rfl
    rotate_left
    · simp only [Act.put, List.setIfInBounds_toArray, List.set_cons_zero, List.set_cons_succ]
      rfl
    refine pure_ (i := 4) (N := some 21) (v := ?_) (a' := ?_) #[false, true, false, false, true, false, false, false, false] rfl rfl (by kernel_rfl) (fun _ _ _ h => h) (Or.inl ⟨by rfl, ?_⟩) ?_ ?_
    rotate_left
    · intro w'
      go_simp
      try with_reducible rfl
    rotate_left
    · simp only [Act.put, List.setIfInBounds_toArray, List.set_cons_zero, List.set_cons_succ]
      rfl
    refine take_ (i := 0) (N := some 17) (v := ?_) (a' := ?_) #[true, true, false, false, true, false, false, false, false] rfl rfl (by kernel_rfl) (fun _ _ _ h => h) (Or.inl ⟨by rfl, ?_⟩) hHeld ?_ ?_
    rotate_left
    · intro w' s0
      go_simp
      with_reducible rfl
    rotate_left
    · simp only [Act.put, List.setIfInBounds_toArray, List.set_cons_zero, List.set_cons_succ]
      rfl
    refine take_ (i := 3) (N := some 20) (v := ?_) (a' := ?_) #[true, true, false, true, true, false, false, false, false] rfl rfl (by kernel_rfl) (fun _ _ _ h => h) (Or.inl ⟨by rfl, ?_⟩) hHeld ?_ ?_
    rotate_left
    · intro w' s0
      go_simp
      with_reducible rfl
    rotate_left
    · simp only [Act.put, List.setIfInBounds_toArray, List.set_cons_zero, List.set_cons_succ]
      rfl
    refine one_ (i := 2) (N := some 19) #[true, true, true, true, true, false, false, false, false] rfl rfl (by kernel_rfl) (by decide) (fun K hK => ?_)
    refine goes_ Tryz.func22 (by kernel_rfl) rfl #[.agg #[.slice A s.length c], V1] (by rfl) rfl rfl (by (try simp only [List.map_toArray, List.map_cons, List.map_nil]); first | done | rfl) ?_
    refine (HL1.out _ hBd).mono ?_
    rintro e w' ⟨rfl, hb1⟩
    refine ⟨_, rfl, ?_⟩
    refine hK.out _ _ (pw_cell_below hb1 hHeld) (fun hHeld => ?_)
    clear hK K
    refine norm_ (a' := ?_) ?_ ?_
    rotate_left
    · show Act.put _ (some 19) _ = _
      simp only [Act.put, List.setIfInBounds_toArray, List.set_cons_zero, List.set_cons_succ]
      rfl
    refine one_ (i := 5) (N := some 22) #[true, true, true, true, true, true, false, false, false] rfl rfl (by kernel_rfl) (by decide) (fun K hK => ?_)
    refine goes_ Tryz.func22 (by kernel_rfl) rfl #[.agg #[.slice A s.length c], V2] (by rfl) rfl rfl (by (try simp only [List.map_toArray, List.map_cons, List.map_nil]); first | done | rfl) ?_
    refine (HL2.out _ (below_then hBd hBd.size hb1)).mono ?_
    rintro e w' ⟨rfl, hb2⟩
    refine ⟨_, rfl, ?_⟩
    refine hK.out _ _ (pw_cell_below hb2 hHeld) (fun hHeld => ?_)
    clear hK K
    refine norm_ (a' := ?_) ?_ ?_
    rotate_left
    · show Act.put _ (some 22) _ = _
      simp only [Act.put, List.setIfInBounds_toArray, List.set_cons_zero, List.set_cons_succ]
      rfl
    refine pure_ (i := 6) (N := some 23) (v := .bool q) (a' := ?a6) #[true, true, true, true, true, true, true, false, false] rfl rfl (by kernel_rfl) (fun _ _ _ h => h) (Or.inl ⟨by rfl, ?hrun⟩) ?hact ?hrest
    case hrun =>
      intro w'
      go_simp
    case hact =>
      simp only [Act.put, List.setIfInBounds_toArray, List.set_cons_zero, List.set_cons_succ]
      rfl
    refine pure_ (i := 7) (N := some 6) (v := ?_) (a' := ?_) #[true, true, true, true, true, true, true, true, false] rfl rfl (by kernel_rfl) (fun _ _ _ h => h) (Or.inl ⟨by rfl, ?_⟩) ?_ ?_
    rotate_left
    · intro w'
      go_simp
      try with_reducible rfl
    rotate_left
    · simp only [Act.put, List.setIfInBounds_toArray, List.set_cons_zero, List.set_cons_succ]
      rfl
    refine pure_ (i := 8) (N := some 7) (v := ?_) (a' := ?_) #[true, true, true, true, true, true, true, true, true] rfl rfl (by kernel_rfl) (fun _ _ _ h => h) (Or.inl ⟨by rfl, ?_⟩) ?_ ?_
    rotate_left
    · intro w'
      go_simp
      try with_reducible rfl
    rotate_left
    · simp only [Act.put, List.setIfInBounds_toArray, List.set_cons_zero, List.set_cons_succ]
      rfl
    refine done_ (by kernel_rfl) ?_
    have hBb := below_then B1.out B1.out.size (below_then (below_then hBd hBd.size hb1) (below_then hBd hBd.size hb1).size hb2)
    go_wp2
    go_ret2
    rw [HZ1.out]
    exact ⟨rfl, hBb⟩
  · have HZ : Aside0 (alikeR s C D = (false, Q.rF2 s C D)) := ⟨by unfold alikeR; rw [if_neg hz]⟩
    clear HBC
    generalize Q.rF2 s C D = z at *
    go_wp2
    go_ret2
    rw [HZ.out]
    exact ⟨rfl, B1.out⟩
def impl_AreAlike.f (l0_0 l1 l2 : List Int) : Option (Bool × Int) := if l1.length ≤ 1048576 ∧ l2.length ≤ 1048576 then some (alikeR l0_0 l1 l2) else none
theorem impl_AreAlike.calls (A0_0 : Option Addr) (c0_0 : Nat) (l0_0 : List Int) (A1 : Option Addr) (c1 : Nat) (l1 : List Int) (A2 : Option Addr) (c2 : Nat) (l2 : List Int) (r1 : Bool) (r2 : Int) (w : World) (hr0_0 : Kd.C (Kd.int .i64) w A0_0 l0_0.length l0_0) (hc0_0 : l0_0.length ≤ c0_0) (hr1 : Kd.C (Kd.int .i64) w A1 l1.length l1) (hc1 : l1.length ≤ c1) (hr2 : Kd.C (Kd.int .i64) w A2 l2.length l2) (hc2 : l2.length ≤ c2) (h : impl_AreAlike.f l0_0 l1 l2 = some (r1, r2)) :
    Calls Tryz.prog 6 #[.agg #[.slice A0_0 l0_0.length c0_0], .slice A1 l1.length c1, .slice A2 l2.length c2] w fun e w' => e = .returned (.tuple #[.bool r1, .int .i64 r2]) ∧ Below w.heap.size w w' := by
  unfold impl_AreAlike.f at h
  split at h
  · rename_i hl
    have h2 := Option.some.inj h
    have e1 : (alikeR l0_0 l1 l2).1 = r1 := by rw [h2]
    have e2 : (alikeR l0_0 l1 l2).2 = r2 := by rw [h2]
    subst e1 e2
    exact alike_calls A0_0 c0_0 l0_0 A1 c1 l1 A2 c2 l2 w hr0_0 hc0_0 hr1 hc1 hl.1 hr2 hc2 hl.2
  · cases h
def leastFR (s C : List Int) : List Int × Int := if Q.rF1 s C = 0 then (Q.selL (bitQ (lo (allF stepL s C C)) (hi (allF stepL s C C))) 128, 0) else ([], Q.rF1 s C)
set_option maxHeartbeats 4000000 in
set_option maxRecDepth 100000 in
theorem leastF_calls (A : Option Addr) (c : Nat) (s : List Int) (A1 : Option Addr) (c1 : Nat) (C : List Int) (w : World) (hr : Kd.C (Kd.int .i64) w A s.length s) (hc : s.length ≤ c) (hr1 : Kd.C (Kd.int .i64) w A1 C.length C) (hc1 : C.length ≤ c1) (hCl : C.length ≤ 1048576) :
    Calls Tryz.prog 8 #[.agg #[.slice A s.length c], .slice A1 C.length c1] w
      fun e w' => ∃ v, e = .returned (.tuple #[v, .int .i64 (leastFR s C).2]) ∧ Kd.R (Kd.int .i64) 2 w' w.heap.size (fun _ => True) v (leastFR s C).1 ∧ Below w.heap.size w w' := by
  have huS := Tryz.underlying26
  have HR := Aside0.mk hr
  have HR1 := Aside0.mk hr1
  obtain ⟨kb, hbc⟩ := (Q.formCode1_ev s (C := C) hCl).rounds
  have HBC := Aside0.mk hbc
  clear hr hr1 hbc
  go_enter Tryz.func8, Tryz.ntmps8
  have kz : (w.alloc (.cells #[.slice A s.length c] 26)).cell? ⟨w.heap.size, 0, none⟩ = some (.slice A s.length c) := blk_cell (blk_new w (.cells #[.slice A s.length c] 26)) 0
  have hB : Below w.heap.size w ((w.alloc (.cells #[.slice A s.length c] 26)).alloc (.cells #[.slice A1 C.length c1] 24)) := below_alloc ((Below.refl _ _).alloc (Nat.le_refl _) _) _
  have K0 := blk_alloc (blk_new w (.cells #[.slice A s.length c] 26)) (.cells #[.slice A1 C.length c1] 24)
  have K1 : ((w.alloc (.cells #[.slice A s.length c] 26)).alloc (.cells #[.slice A1 C.length c1] 24)).heap[w.heap.size + 1]? = some (.cells #[.slice A1 C.length c1] 24 (0, 0)) := by simpa using blk_new (w.alloc (.cells #[.slice A s.length c] 26)) (.cells #[.slice A1 C.length c1] 24)
  have hRC := rowsC9 #[.slice A1 C.length c1] [C] K1 (by simp) (fun j p hj => by
    match j, hj with
    | 0, hj =>
      have e : p = C := by simpa using hj.symm
      subst e
      exact ⟨A1, c1, rfl, hc1, Kd.C_below HR1.out hB⟩)
  have hcal := impl_formCode.calls kb A c s (some ⟨w.heap.size + 1, 0, none⟩) 1 [C] (Q.rF1 s C) _ (Kd.C_below HR.out hB) hc hRC (by simp) HBC.out
  have K0 := Aside0.mk K0
  have hB := Aside0.mk hB
  clear K1 hRC
  go_wp2_with fail
  refine hcal.mono ?_
  rintro e w1 ⟨rfl, hb⟩
  have S1 := Aside0.mk (blk_below K0.out hb)
  have B1 := Aside0.mk (below_then hB.out hB.out.size hb)
  clear hcal hb kz K0 hB
  by_cases hz : Q.rF1 s C = 0
  · have HZ : Aside0 (leastFR s C = (Q.selL (bitQ (lo (allF stepL s C C)) (hi (allF stepL s C C))) 128, 0)) := ⟨by unfold leastFR; rw [if_pos hz]⟩
    have HL := Aside0.mk (leastForm_of A c s A1 c1 C w1 (Kd.C_below HR.out B1.out) hc (Kd.C_below HR1.out B1.out) hc1 hCl hz)
    rw [hz]
    clear hz HBC
    have k1 : w1.cell? ⟨w.heap.size, 0, none⟩ = some (.slice A s.length c) := blk_cell S1.out 0
    go_wp2_with fail
    refine HL.out.mono ?_
    rintro e w2 ⟨rfl, hsm, hb⟩
    have B2 := Aside0.mk (below_then B1.out B1.out.size hb)
    clear hb HL
    unfold setV
    go_wp2_with fail
    refine (list_calls _ _ (lo_lt hsm) (hi_lt hsm) w2).mono ?_
    rintro e w3 ⟨v, rfl, hR, hb⟩
    have B3 := below_then B2.out B2.out.size hb
    have hR := Kd.R_lower hR B2.out.size
    go_wp2
    go_ret2
    rw [HZ.out]
    exact ⟨_, rfl, hR, B3⟩
  · have HZ : Aside0 (leastFR s C = ([], Q.rF1 s C)) := ⟨by unfold leastFR; rw [if_neg hz]⟩
    clear HBC
    generalize Q.rF1 s C = z at *
    go_wp2
    go_ret2
    rw [HZ.out]
    exact ⟨_, rfl, Kd.R_nil _ _ _ _ _, B1.out⟩
def impl_LeastForm.f (l0_0 l1 : List Int) : Option (List Int × Int) := if l1.length ≤ 1048576 then some (leastFR l0_0 l1) else none
theorem impl_LeastForm.calls (A0_0 : Option Addr) (c0_0 : Nat) (l0_0 : List Int) (A1 : Option Addr) (c1 : Nat) (l1 : List Int) (r1 : List Int) (r2 : Int) (w : World) (hr0_0 : Kd.C (Kd.int .i64) w A0_0 l0_0.length l0_0) (hc0_0 : l0_0.length ≤ c0_0) (hr1 : Kd.C (Kd.int .i64) w A1 l1.length l1) (hc1 : l1.length ≤ c1) (h : impl_LeastForm.f l0_0 l1 = some (r1, r2)) :
    Calls Tryz.prog 8 #[.agg #[.slice A0_0 l0_0.length c0_0], .slice A1 l1.length c1] w fun e w' => ∃ v0_ : Value, e = .returned (.tuple #[v0_, .int .i64 r2]) ∧ Kd.R (Kd.int .i64) 2 w' w.heap.size (fun _ => True) v0_ r1 ∧ Below w.heap.size w w' := by
  unfold impl_LeastForm.f at h
  split at h
  · rename_i hl
    have h2 := Option.some.inj h
    have e1 : (leastFR l0_0 l1).1 = r1 := by rw [h2]
    have e2 : (leastFR l0_0 l1).2 = r2 := by rw [h2]
    subst e1 e2
    exact leastF_calls A0_0 c0_0 l0_0 A1 c1 l1 w hr0_0 hc0_0 hr1 hc1 hl
  · cases h
def countKR (s C : List Int) : Int × Int := if Q.rF1 s C = 0 then (allF (stepC C) s C 0, 0) else (0, Q.rF1 s C)
set_option maxHeartbeats 4000000 in
set_option maxRecDepth 100000 in
theorem countK_calls (A : Option Addr) (c : Nat) (s : List Int) (A1 : Option Addr) (c1 : Nat) (C : List Int) (w : World) (hr : Kd.C (Kd.int .i64) w A s.length s) (hc : s.length ≤ c) (hr1 : Kd.C (Kd.int .i64) w A1 C.length C) (hc1 : C.length ≤ c1) (hCl : C.length ≤ 1048576) :
    Calls Tryz.prog 10 #[.agg #[.slice A s.length c], .slice A1 C.length c1] w
      fun e w' => e = .returned (.tuple #[.int .i64 (countKR s C).1, .int .i64 (countKR s C).2]) ∧ Below w.heap.size w w' := by
  have huS := Tryz.underlying26
  have HR := Aside0.mk hr
  have HR1 := Aside0.mk hr1
  obtain ⟨kb, hbc⟩ := (Q.formCode1_ev s (C := C) hCl).rounds
  have HBC := Aside0.mk hbc
  clear hr hr1 hbc
  go_enter Tryz.func10, Tryz.ntmps10
  have kz : (w.alloc (.cells #[.slice A s.length c] 26)).cell? ⟨w.heap.size, 0, none⟩ = some (.slice A s.length c) := blk_cell (blk_new w (.cells #[.slice A s.length c] 26)) 0
  have hB : Below w.heap.size w ((w.alloc (.cells #[.slice A s.length c] 26)).alloc (.cells #[.slice A1 C.length c1] 24)) := below_alloc ((Below.refl _ _).alloc (Nat.le_refl _) _) _
  have K0 := blk_alloc (blk_new w (.cells #[.slice A s.length c] 26)) (.cells #[.slice A1 C.length c1] 24)
  have K1 : ((w.alloc (.cells #[.slice A s.length c] 26)).alloc (.cells #[.slice A1 C.length c1] 24)).heap[w.heap.size + 1]? = some (.cells #[.slice A1 C.length c1] 24 (0, 0)) := by simpa using blk_new (w.alloc (.cells #[.slice A s.length c] 26)) (.cells #[.slice A1 C.length c1] 24)
  have hRC := rowsC9 #[.slice A1 C.length c1] [C] K1 (by simp) (fun j p hj => by
    match j, hj with
    | 0, hj =>
      have e : p = C := by simpa using hj.symm
      subst e
      exact ⟨A1, c1, rfl, hc1, Kd.C_below HR1.out hB⟩)
  have hcal := impl_formCode.calls kb A c s (some ⟨w.heap.size + 1, 0, none⟩) 1 [C] (Q.rF1 s C) _ (Kd.C_below HR.out hB) hc hRC (by simp) HBC.out
  have K0 := Aside0.mk K0
  have hB := Aside0.mk hB
  clear K1 hRC
  go_wp2_with fail
  refine hcal.mono ?_
  rintro e w1 ⟨rfl, hb⟩
  have S1 := Aside0.mk (blk_below K0.out hb)
  have B1 := Aside0.mk (below_then hB.out hB.out.size hb)
  clear hcal hb kz K0 hB
  by_cases hz : Q.rF1 s C = 0
  · have HZ : Aside0 (countKR s C = (allF (stepC C) s C 0, 0)) := ⟨by unfold countKR; rw [if_pos hz]⟩
    obtain ⟨hs, hsC, hCW, hsm⟩ := form_facts hz
    have HST := Aside0.mk (setOf_calls A1 c1 C w1 (Kd.C_below HR1.out B1.out) hc1 hsC hCl)
    have HF : Aside0 (∀ (go gb : Nat) (w' : World), Below w.heap.size w w' → w.heap.size ≤ gb → go ≠ gb → w'.heap[gb]? = some (.cells (cellsC 0) 2 (0, 0)) → w'.heap[go]? = some (.cells (cellsL C) 42 (0, 0)) → Calls Tryz.prog 28 #[.agg #[.slice A s.length c], .slice A1 C.length c1, .func (Fn.func 29) #[] #[.pointer (some ⟨go, 0, none⟩), .pointer (some ⟨gb, 0, none⟩)]] w' fun e w2 => e = .returned (.tuple #[]) ∧ w2.heap[gb]? = some (.cells (cellsC (allF (stepC C) s C 0)) 2 (0, 0)) ∧ True ∧ w'.grownBy w2 (some gb)) :=
      ⟨fun go gb w' hB hg hne hb ho => forms_calls 29 #[.pointer (some ⟨go, 0, none⟩), .pointer (some ⟨gb, 0, none⟩)] cellsC 2 (stepC C) (fun _ => True) 0 A c s A1 c1 C gb w w' HR.out hc hs HR1.out hc1 hCl hB hg hb trivial (Q.kO_PO hs) hCW (Q.kO_PL hs) hsm (fun args W => enters_ (P := Tryz.prog) Tryz.func29 rfl rfl args W)
        (fun x l W _ hl hbx hG => count1_calls go gb C x l W hbx ((hG.block go (blk_lt ho) (fun e => hne (Option.some.inj e))).trans ho))⟩
    rw [hz]
    clear hz HBC hs hsC hCW hsm
    have k1 : w1.cell? ⟨w.heap.size, 0, none⟩ = some (.slice A s.length c) := blk_cell S1.out 0
    go_wp2_with fail
    refine HST.out.mono ?_
    rintro e w2 ⟨rfl, hb⟩
    have S2 := Aside0.mk (blk_below S1.out hb)
    have B2 := Aside0.mk (below_then B1.out B1.out.size hb)
    clear hb HST S1 B1 k1
    unfold setV
    have k2 : ((w2.alloc (.cells #[.int .u64 (lo C), .int .u64 (hi C)] 42)).alloc (.cells #[.int .i64 0] 2)).cell? ⟨w.heap.size, 0, none⟩ = some (.slice A s.length c) := blk_cell (blk_alloc (blk_alloc S2.out _) _) 0
    have kw : Below w.heap.size w ((w2.alloc (.cells #[.int .u64 (lo C), .int .u64 (hi C)] 42)).alloc (.cells #[.int .i64 0] 2)) := below_alloc (below_alloc B2.out _) _
    have kO : ((w2.alloc (.cells #[.int .u64 (lo C), .int .u64 (hi C)] 42)).alloc (.cells #[.int .i64 0] 2)).heap[w2.heap.size]? = some (.cells (cellsL C) 42 (0, 0)) := blk_alloc (blk_new w2 (.cells (cellsL C) 42)) _
    have kM : ((w2.alloc (.cells #[.int .u64 (lo C), .int .u64 (hi C)] 42)).alloc (.cells #[.int .i64 0] 2)).heap[w2.heap.size + 1]? = some (.cells (cellsC 0) 2 (0, 0)) := by
      have h := blk_new (w2.alloc (.cells #[.int .u64 (lo C), .int .u64 (hi C)] 42)) (.cells #[.int .i64 0] 2)
      rw [heap_size_alloc9] at h
      exact h
    have hcal := HF.out w2.heap.size (w2.heap.size + 1) _ kw (by have := B2.out.size; omega) (by omega) kM kO
    have KW := Aside0.mk kw
    have hb2 := B2.out.size
    clear kO kM kw
    go_wp2_with fail
    refine hcal.mono ?_
    rintro e w4 ⟨rfl, hX, _, hG⟩
    have B4 : Below w.heap.size w w4 := pw_below_grown KW.out _ KW.out.size hG (fun k hk => by injection hk with hk; omega)
    have k4 : w4.cell? ⟨w2.heap.size + 1, 0, none⟩ = some (.int .i64 (allF (stepC C) s C 0)) := blk_cell hX 0
    go_wp2
    go_ret2
    rw [HZ.out]
    exact ⟨rfl, B4⟩
  · have HZ : Aside0 (countKR s C = (0, Q.rF1 s C)) := ⟨by unfold countKR; rw [if_neg hz]⟩
    clear HBC
    generalize Q.rF1 s C = z at *
    go_wp2
    go_ret2
    rw [HZ.out]
    exact ⟨rfl, B1.out⟩
def impl_CountKeeping.f (l0_0 l1 : List Int) : Option (Int × Int) := if l1.length ≤ 1048576 then some (countKR l0_0 l1) else none
theorem impl_CountKeeping.calls (A0_0 : Option Addr) (c0_0 : Nat) (l0_0 : List Int) (A1 : Option Addr) (c1 : Nat) (l1 : List Int) (r1 : Int) (r2 : Int) (w : World) (hr0_0 : Kd.C (Kd.int .i64) w A0_0 l0_0.length l0_0) (hc0_0 : l0_0.length ≤ c0_0) (hr1 : Kd.C (Kd.int .i64) w A1 l1.length l1) (hc1 : l1.length ≤ c1) (h : impl_CountKeeping.f l0_0 l1 = some (r1, r2)) :
    Calls Tryz.prog 10 #[.agg #[.slice A0_0 l0_0.length c0_0], .slice A1 l1.length c1] w fun e w' => e = .returned (.tuple #[.int .i64 r1, .int .i64 r2]) ∧ Below w.heap.size w w' := by
  unfold impl_CountKeeping.f at h
  split at h
  · rename_i hl
    have h2 := Option.some.inj h
    have e1 : (countKR l0_0 l1).1 = r1 := by rw [h2]
    have e2 : (countKR l0_0 l1).2 = r2 := by rw [h2]
    subst e1 e2
    exact countK_calls A0_0 c0_0 l0_0 A1 c1 l1 w hr0_0 hc0_0 hr1 hc1 hl
  · cases h
end Go.Proofs.YtnkndaapamenmaaGreat.P
set_option linter.unusedVariables false
set_option linter.unusedSimpArgs false
namespace Go.Proofs.YtnkndaapamenmaaGreat.Q
open Go.RowKit Go.Proofs.YtnkndaapamenmaaGreat.P Go.Proofs.YtnkndaapamenmaaGreatW.PrintWords CC
theorem befL_irr : ∀ A : List Int, befL A A = false
  | [] => rfl
  | a :: A => by unfold befL; rw [if_neg (by simp)]; exact befL_irr A
theorem befL_trans : ∀ {A B C : List Int}, A.length = B.length → B.length = C.length → befL A B = true → befL B C = true → befL A C = true
  | [], [], [], _, _, h, _ => by cases h
  | a :: A, b :: B, c :: C, h1, h2, hab, hbc => by
    unfold befL at hab hbc ⊢
    by_cases e1 : a = b
    · subst e1
      rw [if_neg (by simp)] at hab
      by_cases e2 : a = c
      · subst e2
        rw [if_neg (by simp)] at hbc ⊢
        exact befL_trans (by simpa using h1) (by simpa using h2) hab hbc
      · rw [if_pos e2] at hbc ⊢
        exact hbc
    · rw [if_pos e1, decide_eq_true_eq] at hab
      by_cases e2 : b = c
      · subst e2
        rw [if_pos e1, decide_eq_true_eq]
        exact hab
      · rw [if_pos e2, decide_eq_true_eq] at hbc
        rw [if_pos (by omega), decide_eq_true_eq]
        omega
theorem img_pw (s c : List Int) (g : List Int × Int) : (img s c g).Pairwise (· < ·) := ordL_pw _
def GL (s : List Int) : List (List Int × Int) := (kO s s.length []).flatMap fun p => (List.range (prd s).toNat).map fun (i : Nat) => (p, (i : Int))
theorem mem_GL {s : List Int} (hs : isSp s = true) {g : List Int × Int} : g ∈ GL s ↔ inG s g := by
  unfold GL inG
  simp only [List.mem_flatMap, List.mem_map, List.mem_range]
  constructor
  · rintro ⟨p, hp, i, hi, rfl⟩
    exact ⟨hp, (isW_iff _ _).2 ⟨by omega, by show (i : Int) < _; omega⟩⟩
  · rintro ⟨h1, h2⟩
    have h2 := (isW_iff _ _).1 h2
    exact ⟨g.1, h1, g.2.toNat, by omega, by rw [Int.toNat_of_nonneg h2.1]⟩
theorem allF_GL {α : Type} (f : α → List Int → α) (s c : List Int) (x0 : α) : allF f s c x0 = (GL s).foldl (fun x g => f x (formL s c g.1 g.2)) x0 := by
  unfold allF GL
  generalize kO s s.length [] = OR
  induction OR generalizing x0 with
  | nil => rfl
  | cons p l ih =>
    rw [List.foldl_cons, List.flatMap_cons, List.foldl_append, ih]
    congr 1
    unfold fmL
    rw [List.foldl_map, List.foldl_map]
    rfl
theorem best_fold {s c : List Int} (hs : isSp s = true) (hc : isC s c = true) : ∀ (l : List (List Int × Int)) (x : List Int × Int), (∀ g ∈ l, inG s g) → (∃ g, inG s g ∧ x.1 = img s c g) →
    (∃ g, inG s g ∧ (l.foldl (fun x g => stP c x (formL s c g.1 g.2)) x).1 = img s c g) ∧ befL x.1 (l.foldl (fun x g => stP c x (formL s c g.1 g.2)) x).1 = false ∧ ∀ g ∈ l, befL (img s c g) (l.foldl (fun x g => stP c x (formL s c g.1 g.2)) x).1 = false
  | [], x, _, hx => ⟨hx, befL_irr _, by simp⟩
  | g :: l, x, hl, hx => by
    have hg := hl g (by simp)
    have e : (stP c x (formL s c g.1 g.2)).1 = if befL (img s c g) x.1 = true then img s c g else x.1 := by
      show stepS x.1 _ = _
      unfold stepS
      rw [img_form hs hg]
    obtain ⟨gx, hgx, ex⟩ := hx
    have hlx : x.1.length = c.length := by rw [ex, img_len hs hc hgx]
    have hlg := img_len hs hc hg
    have hy : ∃ h, inG s h ∧ (stP c x (formL s c g.1 g.2)).1 = img s c h := by
      rw [e]
      split
      · exact ⟨g, hg, rfl⟩
      · exact ⟨gx, hgx, ex⟩
    obtain ⟨h1, h2, h3⟩ := best_fold hs hc l (stP c x (formL s c g.1 g.2)) (fun h hh => hl h (by simp [hh])) hy
    rw [List.foldl_cons]
    generalize l.foldl (fun x g => stP c x (formL s c g.1 g.2)) (stP c x (formL s c g.1 g.2)) = r at *
    obtain ⟨gr, hgr, er⟩ := h1
    have hlr : r.1.length = c.length := by rw [er, img_len hs hc hgr]
    rw [e] at h2
    refine ⟨⟨gr, hgr, er⟩, ?_, fun h hh => ?_⟩
    · by_cases hb : befL (img s c g) x.1 = true
      · rw [if_pos hb] at h2
        refine Bool.eq_false_iff.2 (fun hx => ?_)
        have := befL_trans (by omega) (by omega) hb hx
        rw [h2] at this
        cases this
      · rw [if_neg hb] at h2
        exact h2
    · rcases List.mem_cons.1 hh with rfl | hh
      · by_cases hb : befL (img s c h) x.1 = true
        · rw [if_pos hb] at h2
          exact h2
        · rw [if_neg hb] at h2
          refine Bool.eq_false_iff.2 (fun hx => ?_)
          -- the form comes before r; x does not; the form does not come before x
          by_cases hxr : img s c h = x.1
          · rw [hxr, h2] at hx
            cases hx
          · have hlt : befL x.1 (img s c h) = true := by
              by_cases q : befL x.1 (img s c h) = true
              · exact q
              · have : img s c h = x.1 := (befL_eq (by omega) (img_pw s c h) (by rw [ex]; exact img_pw _ _ _)).1 ⟨Bool.eq_false_iff.2 hb, Bool.eq_false_iff.2 q⟩
                exact absurd this hxr
            have := befL_trans (by omega) (by omega) hlt hx
            rw [h2] at this
            cases this
      · exact h3 h hh
def bestL (s c : List Int) : List Int := (allF (stP c) s c (c, 0)).1
theorem bestL_spec {s c : List Int} (hs : isSp s = true) (hc : isC s c = true) : (∃ g, inG s g ∧ bestL s c = img s c g) ∧ ∀ g, inG s g → befL (img s c g) (bestL s c) = false := by
  unfold bestL
  rw [allF_GL]
  obtain ⟨h1, _, h3⟩ := best_fold hs hc (GL s) (c, 0) (fun g hg => (mem_GL hs).1 hg) ⟨oneG s, oneG_in hs, (img_one hs hc).symm⟩
  exact ⟨h1, fun g hg => h3 g ((mem_GL hs).2 hg)⟩
theorem img_of_img {s c : List Int} (hs : isSp s = true) (hc : isC s c = true) {g h : List Int × Int} (hg : inG s g) (hh : inG s h) : img s c g = img s (img s c h) (cmpG s g (invG s h)) := by
  have hi := invG_in hs hh
  rw [img_img hs (cmpG_in hs hg hi) hh]
  refine img_congr (fun x hx => ?_)
  rw [act_cmp hs (cmpG_in hs hg hi) hh, act_cmp hs hg hi, act_inv hs hh (isC_words hc x hx)]
theorem bestL_img {s c : List Int} (hs : isSp s = true) (hc : isC s c = true) {h : List Int × Int} (hh : inG s h) : bestL s (img s c h) = bestL s c := by
  have hc2 := img_isC (c := c) hs h
  obtain ⟨⟨g1, hg1, e1⟩, m1⟩ := bestL_spec hs hc
  obtain ⟨⟨g2, hg2, e2⟩, m2⟩ := bestL_spec hs hc2
  have l1 : (bestL s c).length = c.length := by rw [e1, img_len hs hc hg1]
  have l2 : (bestL s (img s c h)).length = c.length := by rw [e2, img_len hs hc2 hg2, img_len hs hc hh]
  refine (befL_eq (by omega) (by rw [e2]; exact img_pw _ _ _) (by rw [e1]; exact img_pw _ _ _)).1 ⟨?_, ?_⟩
  · rw [e2, img_img hs hg2 hh]
    exact m1 _ (cmpG_in hs hg2 hh)
  · have e3 := img_of_img hs hc hg1 hh
    rw [e1, e3]
    exact m2 _ (cmpG_in hs hg1 (invG_in hs hh))
theorem alike_img {s a b : List Int} (hs : isSp s = true) (ha : isC s a = true) (hb : isC s b = true) (e : bestL s a = bestL s b) : ∃ g, inG s g ∧ b = img s a g := by
  obtain ⟨⟨g1, hg1, e1⟩, _⟩ := bestL_spec hs ha
  obtain ⟨⟨g2, hg2, e2⟩, _⟩ := bestL_spec hs hb
  refine ⟨cmpG s (invG s g2) g1, cmpG_in hs (invG_in hs hg2) hg1, ?_⟩
  rw [← img_img hs (invG_in hs hg2) hg1, ← e1, e, e2, img_back hs hb hg2]
theorem length_le_of {α : Type} [DecidableEq α] : ∀ {l m : List α}, l.Nodup → (∀ x ∈ l, x ∈ m) → l.length ≤ m.length
  | [], m, _, _ => by simp
  | x :: l, m, hn, hs => by
    have hx := hs x (by simp)
    rw [List.nodup_cons] at hn
    have h1 := length_le_of (l := l) (m := m.erase x) hn.2 (fun y hy => by
      have hne : y ≠ x := fun e => hn.1 (e ▸ hy)
      exact (List.mem_erase_of_ne hne).2 (hs y (by simp [hy])))
    rw [List.length_erase_of_mem hx] at h1
    have : 0 < m.length := List.length_pos_of_mem hx
    simp only [List.length_cons]
    omega
def keeps (s c : List Int) : List (List Int × Int) := (GL s).filter fun g => decide (img s c g = c)
theorem map_nodup {α β : Type} {f : α → β} {l : List α} (hn : l.Nodup) (hf : ∀ x ∈ l, ∀ y ∈ l, f x = f y → x = y) : (l.map f).Nodup := by
  rw [List.nodup_iff_pairwise_ne, List.pairwise_map]
  exact (List.pairwise_iff_getElem.2 fun i j hi hj hij e => by
    have := hf _ (List.getElem_mem hi) _ (List.getElem_mem hj) e
    have := (List.getElem_inj hn).1 this
    omega)
theorem kO_prefix {s : List Int} : ∀ (d : Nat) (q p : List Int), p ∈ kO s d q → ∃ t, p = q ++ t
  | 0, q, p, h => by
    simp only [kO, List.mem_singleton] at h
    exact ⟨[], by simp [h]⟩
  | d + 1, q, p, h => by
    simp only [kO, List.mem_flatMap] at h
    obtain ⟨n, _, h⟩ := h
    split at h
    · obtain ⟨t, rfl⟩ := kO_prefix d _ p h
      exact ⟨(n : Int) :: t, by simp⟩
    · cases h
theorem kO_nodup {s : List Int} : ∀ (d : Nat) (q : List Int), (kO s d q).Nodup
  | 0, q => by simp [kO]
  | d + 1, q => by
    rw [kO_succ]
    have hg : ∀ n, (kG s d q n).Nodup := fun n => by
      unfold kG
      split
      · exact kO_nodup d _
      · simp
    have hat : ∀ (n : Nat) p, p ∈ kG s d q n → rd p (q.length : Int) = n := fun n p hp => by
      unfold kG at hp
      split at hp
      · obtain ⟨t, rfl⟩ := kO_prefix d _ p hp
        simp [rd, List.getD_eq_getElem?_getD]
      · cases hp
    have key : ∀ m, (kP s d q m).Nodup ∧ ∀ p ∈ kP s d q m, rd p (q.length : Int) < m := by
      intro m
      induction m with
      | zero => simp [kP]
      | succ m ih =>
        rw [kP_succ]
        refine ⟨?_, fun p hp => ?_⟩
        · rw [List.nodup_append]
          refine ⟨ih.1, hg m, fun a ha b hb => ?_⟩
          rintro rfl
          have h1 := ih.2 a ha
          have h2 := hat m a hb
          omega
        · rcases List.mem_append.1 hp with hp | hp
          · have := ih.2 p hp
            omega
          · have := hat m p hp
            omega
    exact (key _).1
theorem GL_nodup (s : List Int) : (GL s).Nodup := by
  unfold GL
  have h := kO_nodup (s := s) s.length []
  generalize kO s s.length [] = OR at *
  induction OR with
  | nil => simp
  | cons p l ih =>
    rw [List.nodup_cons] at h
    rw [List.flatMap_cons, List.nodup_append]
    refine ⟨map_nodup List.nodup_range (fun x _ y _ e => by injection e with _ e2; omega), ih h.2, fun a ha b hb => ?_⟩
    rintro rfl
    obtain ⟨i, _, rfl⟩ := List.mem_map.1 ha
    obtain ⟨q, hq, hb⟩ := List.mem_flatMap.1 hb
    obtain ⟨k, _, e⟩ := List.mem_map.1 hb
    injection e with e1 _
    subst e1
    exact h.1 hq
theorem cmpG_inj {s : List Int} (hs : isSp s = true) {h k g g' : List Int × Int} (hh : inG s h) (hk : inG s k) (hg : inG s g) (hg' : inG s g') (e : cmpG s h (cmpG s g k) = cmpG s h (cmpG s g' k)) : g = g' := by
  have e1 : cmpP s h.1 (cmpP s g.1 k.1) = cmpP s h.1 (cmpP s g'.1 k.1) := congrArg Prod.fst e
  have e2 : sumW s (plW s h.1 (sumW s (plW s g.1 k.2) g.2)) h.2 = sumW s (plW s h.1 (sumW s (plW s g'.1 k.2) g'.2)) h.2 := congrArg Prod.snd e
  have hl := (kO_all hg.1).2
  have hl' := (kO_all hg'.1).2
  have p1 : g.1 = g'.1 := by
    refine rd_ext (by omega) (fun i hi => ?_)
    obtain ⟨j, hj, ej, _⟩ := invP_at hk.1 (k := i) (by omega)
    have h1 : rd (cmpP s h.1 (cmpP s g.1 k.1)) (j : Int) = rd (cmpP s h.1 (cmpP s g'.1 k.1)) (j : Int) := by rw [e1]
    rw [cmpP_rd hj, cmpP_rd hj, cmpP_rd hj, cmpP_rd hj, ej] at h1
    obtain ⟨a, ha, ea⟩ := rd_place hg.1 (j := i) (by omega)
    obtain ⟨b, hb, eb⟩ := rd_place hg'.1 (j := i) (by omega)
    rw [ea, eb] at h1 ⊢
    have := rd_inj (kO_all hh.1).1.1 (by rw [(kO_all hh.1).2]; exact ha) (by rw [(kO_all hh.1).2]; exact hb) h1
    rw [this]
  rw [p1] at e2
  have e3 := sumW_inj hs h.2 (plW_word hs hh.1 _) (plW_word hs hh.1 _) e2
  have e4 := plW_inj hs hh.1 (sumW_isW hs _ _) (sumW_isW hs _ _) e3
  rw [sumW_comm hs, sumW_comm hs _ g'.2] at e4
  have e5 := sumW_inj hs _ hg.2 hg'.2 e4
  exact Prod.ext p1 e5
theorem keeps_le {s c : List Int} (hs : isSp s = true) (hc : isC s c = true) {h : List Int × Int} (hh : inG s h) : (keeps s c).length ≤ (keeps s (img s c h)).length := by
  have hi := invG_in hs hh
  have hn : (keeps s c).Nodup := (GL_nodup s).filter _
  have h1 : ∀ g ∈ keeps s c, inG s g ∧ img s c g = c := fun g hg => by
    rw [keeps, List.mem_filter, decide_eq_true_eq] at hg
    exact ⟨(mem_GL hs).1 hg.1, hg.2⟩
  have hlen : (keeps s c).length = ((keeps s c).map fun g => cmpG s h (cmpG s g (invG s h))).length := by rw [List.length_map]
  rw [hlen]
  refine length_le_of (map_nodup hn (fun x hx y hy e => cmpG_inj hs hh hi (h1 x hx).1 (h1 y hy).1 e)) (fun y hy => ?_)
  obtain ⟨g, hg, rfl⟩ := List.mem_map.1 hy
  obtain ⟨hg1, hg2⟩ := h1 g hg
  have hin := cmpG_in hs hh (cmpG_in hs hg1 hi)
  rw [keeps, List.mem_filter, decide_eq_true_eq]
  refine ⟨(mem_GL hs).2 hin, ?_⟩
  rw [img_img hs hin hh]
  have e : img s c (cmpG s (cmpG s h (cmpG s g (invG s h))) h) = img s c (cmpG s h g) := img_congr (fun x hx => by
    rw [act_cmp hs hin hh, act_cmp hs hh (cmpG_in hs hg1 hi), act_cmp hs hg1 hi, act_inv hs hh (isC_words hc x hx), act_cmp hs hh hg1])
  rw [e, ← img_img hs hh hg1, hg2]
theorem keeps_img {s c : List Int} (hs : isSp s = true) (hc : isC s c = true) {h : List Int × Int} (hh : inG s h) : (keeps s (img s c h)).length = (keeps s c).length := by
  have h1 := keeps_le hs hc hh
  have h2 := keeps_le hs (img_isC (c := c) hs h) (invG_in hs hh)
  rw [img_back hs hc hh] at h2
  omega
theorem keeps_pos {s c : List Int} (hs : isSp s = true) (hc : isC s c = true) : 1 ≤ (keeps s c).length := by
  have : oneG s ∈ keeps s c := by
    rw [keeps, List.mem_filter, decide_eq_true_eq]
    exact ⟨(mem_GL hs).2 (oneG_in hs), img_one hs hc⟩
  exact List.length_pos_of_mem this
theorem d3_tail {cd : List Int} {a h : Int} (hs : Src cd a h) {x A B : List Int} (h0 : 1 ≤ x.length) (h1 : x.length ≤ 8) (hA : A.length ≤ 1025) (hB : B.length ≤ 1025) :
    ∃ s C D, Ev (fun k => spec_l03Draw.j1 k A B cd a h x) (s, C, D) ∧ s.length ≤ 8 ∧ C.length ≤ 1048576 ∧ D.length ≤ 1048576 := by
  obtain ⟨s, a1, h2, e1, c1, hs1⟩ := bad_tot hs h0 h1
  obtain ⟨C, a2, h3, e2, c2, hC⟩ := badCode_tot2 c1 h1 (L := A) (by omega)
  obtain ⟨D, a3, h4, e3, c3, hD⟩ := badCode_tot2 c2 h1 (L := B) (by omega)
  refine ⟨s, C, D, ?_, hs1, by omega, by omega⟩
  refine Ev.step (fun k => by simp only [spec_l03Draw.j1]; exact rfl) ?_
  exact Ev.bind e1 (Ev.bind e2 (Ev.bind e3 (Ev.now _)))
theorem put_isC {s A : List Int} (hA : isC s A = true) {v : Int} (hv : isW s v = true) : isC s (ordL (A ++ [v])) = true := by
  unfold isC
  rw [Bool.and_eq_true, List.all_eq_true]
  refine ⟨fun y hy => ?_, pw_asc (ordL_pw _)⟩
  rcases List.mem_append.1 ((ordL_mem _ y).1 hy) with hy | hy
  · exact isC_words hA y hy
  · rw [List.mem_singleton.1 hy]
    exact hv
theorem shift_isC {s A : List Int} (hs : isSp s = true) (w : Int) : isC s (ordL (A.map (shW s w))) = true := by
  unfold isC
  rw [Bool.and_eq_true, List.all_eq_true]
  refine ⟨fun y hy => ?_, pw_asc (ordL_pw _)⟩
  obtain ⟨x, _, rfl⟩ := List.mem_map.1 ((ordL_mem _ y).1 hy)
  rw [shW_eq hs]
  exact sumW_isW hs _ _
theorem d3_l {cd x : List Int} (hx : isSp x = true) : ∀ (m : Nat) (A : List Int) (a h : Int), m ≤ 8 → isC x A = true → Src cd a h →
    ∃ s C D, Ev (fun k => spec_l03Draw.l0 k A (m : Int) cd a h x) (s, C, D) ∧ s.length ≤ 8 ∧ C.length ≤ 1048576 ∧ D.length ≤ 1048576
  | m + 1, A, a, h, hm, hA, hs => by
    obtain ⟨q0, q1, q2, q3⟩ := (isSp_iff x).1 hx
    have hp := isSp_prd1 hx
    obtain ⟨v, a1, h1, e1, c1, _, hv⟩ := next_tot hs (prd x)
    have hv := hv (by omega)
    obtain ⟨s, C, D, e, hh⟩ := d3_l hx m (ordL (A ++ [v])) a1 h1 (by omega) (put_isC hA ((isW_iff x v).2 hv)) c1
    refine ⟨s, C, D, ?_, hh⟩
    refine Ev.step (fun k => by simp only [spec_l03Draw.l0]; exact rfl) ?_
    refine Ev.iff_pos (by omega) ?_
    have hN := l01N_ev x (by unfold maxLen; omega)
    rw [prw_one q1 q2] at hN
    refine Ev.bind hN (Ev.bindc e1 ?_)
    refine Ev.bind (l01Put_ev (asc_pw (isC_asc hA)) (by have := isC_len hx hA; omega) v) ?_
    rw [show wrap64 (((m + 1 : Nat) : Int) - 1) = (m : Int) from by rw [wrap_id (by omega) (by omega)]; omega]
    exact e
  | 0, A, a, h, hm, hA, hs => by
    obtain ⟨q0, q1, q2, q3⟩ := (isSp_iff x).1 hx
    have hp := isSp_prd1 hx
    have hAl := isC_len hx hA
    obtain ⟨w, a1, h1, e1, c1, _, hw⟩ := next_tot hs (prd x)
    have hw := (isW_iff x w).2 (hw (by omega))
    obtain ⟨v, a2, h2, e2, c2, _, hv⟩ := next_tot c1 3
    have hN := l01N_ev x (by unfold maxLen; omega)
    rw [prw_one q1 q2] at hN
    have hB := shift_isC (A := A) hx w
    have hBl := isC_len hx hB
    suffices hk : ∃ s C D, Ev (fun k => if v = 0 then ((spec_l03Orders.f k x (([] : List Int))).bind fun t144 => ((spec_l01Next.f cd a2 h2 (t144.length : Int)).bind fun bt147 => (if 0 ≤ bt147.1 then (if bt147.1 < (t144.length : Int) then ((spec_l03Places.f k x (ordL (A.map (shW x w))) (rd_L2 t144 bt147.1)).bind fun bt151 => (spec_l03Draw.j1 k A bt151.2 cd bt147.2.1 bt147.2.2 x)) else (none)) else (none)))) else (if v = 1 then (if ((ordL (A.map (shW x w))).length : Int) > 0 then (if 1 ≤ ((ordL (A.map (shW x w))).length : Int) then ((spec_l01N.f k x).bind fun t160 => ((spec_l01Next.f cd a2 h2 t160).bind fun bt161 => ((spec_l01Put.f k ((ordL (A.map (shW x w))).drop (1 : Int).toNat) bt161.1).bind fun t164 => (spec_l03Draw.j1 k A t164 cd bt161.2.1 bt161.2.2 x)))) else (none)) else (spec_l03Draw.j1 k A (ordL (A.map (shW x w))) cd a2 h2 x)) else (spec_l03Draw.j1 k A (ordL (A.map (shW x w))) cd a2 h2 x))) (s, C, D) ∧ s.length ≤ 8 ∧ C.length ≤ 1048576 ∧ D.length ≤ 1048576 by
      obtain ⟨s, C, D, e, hh⟩ := hk
      refine ⟨s, C, D, ?_, hh⟩
      refine Ev.step (fun k => by simp only [spec_l03Draw.l0]; exact rfl) ?_
      refine Ev.iff_neg (by omega) ?_
      exact Ev.bind hN (Ev.bindc e1 (Ev.bind (l01Shifted_ev hx hA hw) (Ev.bindc e2 e)))
    have hfin : ∀ {a3 h3 : Int} (c3 : Src cd a3 h3) {B : List Int}, B.length ≤ 1025 → ∃ s C D, Ev (fun k => spec_l03Draw.j1 k A B cd a3 h3 x) (s, C, D) ∧ s.length ≤ 8 ∧ C.length ≤ 1048576 ∧ D.length ≤ 1048576 := by
      intro a3 h3 c3 B hB
      exact d3_tail c3 (by omega) (by omega) (by omega) hB
    by_cases v0 : v = 0
    · have hO := upTo_kO x
      obtain ⟨j, a3, h3, e3, c3, _, hj⟩ := next_tot c2 ((kO x x.length []).length : Int)
      have hj := hj (by have := List.length_pos_of_mem hO; omega)
      have hmem : rd_L2 (kO x x.length []) j ∈ kO x x.length [] := by
        obtain ⟨n, rfl⟩ : ∃ n : Nat, j = (n : Int) := ⟨j.toNat, by omega⟩
        have e : rd_L2 (kO x x.length []) (n : Int) = (kO x x.length [])[n]'(by omega) := by
          simp [rd_L2, rdOf, List.getD_eq_getElem?_getD, show n < (kO x x.length []).length by omega]
        rw [e]
        exact List.getElem_mem _
      have hP := own_isC (c := ordL (A.map (shW x w))) hx hmem
      obtain ⟨s, C, D, e, hh⟩ := hfin c3 (B := ordL ((ordL (A.map (shW x w))).map (plW x (rd_L2 (kO x x.length []) j)))) (by have := isC_len hx hP; omega)
      refine ⟨s, C, D, Ev.iff_pos v0 ?_, hh⟩
      refine Ev.bind (specO_ev (by omega) x.length [] (by simp)) (Ev.bindc e3 (Ev.iff_pos (by omega) (Ev.iff_pos (by omega) ?_)))
      exact Ev.bind (specPl_ev hx (kO_ord hmem) hB) e
    · by_cases v1 : v = 1
      · by_cases hl : 0 < (ordL (A.map (shW x w))).length
        · obtain ⟨j, a3, h3, e3, c3, _, hj⟩ := next_tot c2 (prd x)
          have hd : ((ordL (A.map (shW x w))).drop 1).Pairwise (· < ·) := (ordL_pw _).sublist (List.drop_sublist _ _)
          have hdl : (ordL ((ordL (A.map (shW x w))).drop 1 ++ [j])).length ≤ 1025 := by
            have := ordL_len ((ordL (A.map (shW x w))).drop 1 ++ [j])
            simp only [List.length_append, List.length_drop, List.length_singleton] at this
            omega
          obtain ⟨s, C, D, e, hh⟩ := hfin c3 hdl
          refine ⟨s, C, D, Ev.iff_neg v0 (Ev.iff_pos v1 (Ev.iff_pos (by omega) (Ev.iff_pos (by omega) ?_))), hh⟩
          refine Ev.bind hN (Ev.bindc e3 (Ev.bind (l01Put_ev hd (by simp only [List.length_drop]; omega) j) ?_))
          exact e
        · obtain ⟨s, C, D, e, hh⟩ := hfin c2 (B := ordL (A.map (shW x w))) (by omega)
          exact ⟨s, C, D, Ev.iff_neg v0 (Ev.iff_pos v1 (Ev.iff_neg (by omega) e)), hh⟩
      · obtain ⟨s, C, D, e, hh⟩ := hfin c2 (B := ordL (A.map (shW x w))) (by omega)
        exact ⟨s, C, D, Ev.iff_neg v0 (Ev.iff_neg v1 e), hh⟩
theorem draw3_tot {l : List Int} (hl : l.length ≤ maxLen) (hb : ∀ x ∈ l, 0 ≤ x ∧ x ≤ 255) : ∃ s C D, Ev (fun k => spec_l03Draw.f k l) (s, C, D) ∧ s.length ≤ 8 ∧ C.length ≤ 1048576 ∧ D.length ≤ 1048576 := by
  obtain ⟨h0, e0, c0⟩ := from_tot hl hb
  obtain ⟨v, a1, h1, e1, c1, hv⟩ := pick_tot c0 (l := [8, 9, 16, 27, 81]) (by simp)
  simp only [List.mem_cons, List.not_mem_nil, or_false] at hv
  obtain ⟨x, a2, h2, e2, c2, hx⟩ := drawOf_tot c1 (most := v) (by omega) (by omega)
  have hs := drawn_sp hx (by omega)
  obtain ⟨n, a3, h3, e3, c3, _, hn⟩ := next_tot c2 7
  have hn := hn (by omega)
  obtain ⟨m, rfl⟩ : ∃ m : Nat, n = (m : Int) := ⟨n.toNat, by omega⟩
  obtain ⟨s, C, D, e, hh⟩ := d3_l hs m [] a3 h3 (by omega) (by simp [isC, asc]) c3
  refine ⟨s, C, D, ?_, hh⟩
  unfold spec_l03Draw.f
  exact Ev.bind e0 (Ev.bindc e1 (Ev.bind e2 (Ev.bindc e3 e)))
theorem stepK_img {s c : List Int} (hs : isSp s = true) (hc : isC s c = true) {g : List Int × Int} (hg : inG s g) (k : Int) : stepK c k (formL s c g.1 g.2) = if img s c g = c then wrap64 (k + 1) else k := by
  have hl := img_len hs hc hg
  have hb := befL_eq (A := img s c g) (B := c) hl (img_pw s c g) (asc_pw (isC_asc hc))
  unfold stepK
  rw [img_form hs hg]
  by_cases e : img s c g = c
  · obtain ⟨h1, h2⟩ := hb.2 e
    rw [if_pos e, if_neg (by rw [h1]; simp), if_neg (by rw [h2]; simp)]
  · rw [if_neg e]
    by_cases h1 : befL (img s c g) c = true
    · rw [if_pos h1]
    · rw [if_neg h1]
      by_cases h2 : befL c (img s c g) = true
      · rw [if_pos h2]
      · exact absurd (hb.1 ⟨Bool.eq_false_iff.2 h1, Bool.eq_false_iff.2 h2⟩) e
theorem count_fold {s c : List Int} (hs : isSp s = true) (hc : isC s c = true) : ∀ (l : List (List Int × Int)) (x : List Int × Int) (n : Nat), (∀ g ∈ l, inG s g) → x.2 = n → n + l.length ≤ 1000000000000 →
    (l.foldl (fun x g => stP c x (formL s c g.1 g.2)) x).2 = ((n + (l.filter fun g => decide (img s c g = c)).length : Nat) : Int)
  | [], x, n, _, hx, _ => by simpa using hx
  | g :: l, x, n, hl, hx, hb => by
    rw [List.foldl_cons]
    simp only [List.length_cons] at hb
    have e : (stP c x (formL s c g.1 g.2)).2 = if img s c g = c then wrap64 (x.2 + 1) else x.2 := stepK_img hs hc (hl g (by simp)) x.2
    by_cases h : img s c g = c
    · rw [if_pos h, hx, wrap_id (by omega) (by omega)] at e
      have := count_fold hs hc l (stP c x (formL s c g.1 g.2)) (n + 1) (fun h hh => hl h (by simp [hh])) (by rw [e]; omega) (by omega)
      rw [this, List.filter_cons_of_pos (by simpa using h), List.length_cons]
      omega
    · rw [if_neg h] at e
      have := count_fold hs hc l (stP c x (formL s c g.1 g.2)) n (fun h hh => hl h (by simp [hh])) (by rw [e]; exact hx) (by omega)
      rw [this, List.filter_cons_of_neg (by simpa using h)]
theorem GL_length (s : List Int) : (GL s).length = (kO s s.length []).length * (prd s).toNat := by
  unfold GL
  generalize kO s s.length [] = OR
  induction OR with
  | nil => simp
  | cons p l ih => rw [List.flatMap_cons, List.length_append, ih, List.length_map, List.length_range, List.length_cons, Nat.succ_mul, Nat.add_comm]
def fct : Nat → Nat
  | 0 => 1
  | n + 1 => (n + 1) * fct n
theorem out_count {q : List Int} {N : Nat} (hn : q.Nodup) (hq : ∀ x ∈ q, 0 ≤ x ∧ x < N) : ((List.range N).filter fun (n : Nat) => decide (¬ (n : Int) ∈ q)).length + q.length ≤ N := by
  have h1 : (((List.range N).filter fun (n : Nat) => decide (¬ (n : Int) ∈ q)) ++ q.map Int.toNat).Nodup := by
    rw [List.nodup_append]
    refine ⟨List.nodup_range.filter _, map_nodup hn (fun x hx y hy e => by have := hq x hx; have := hq y hy; omega), fun a ha b hb => ?_⟩
    rintro rfl
    rw [List.mem_filter, decide_eq_true_eq] at ha
    obtain ⟨x, hx, e⟩ := List.mem_map.1 hb
    have := hq x hx
    exact ha.2 (by rw [← e, Int.toNat_of_nonneg this.1]; exact hx)
  have h2 := length_le_of (m := List.range N) h1 (fun x hx => by
    rw [List.mem_range]
    rcases List.mem_append.1 hx with hx | hx
    · exact List.mem_range.1 (List.mem_filter.1 hx).1
    · obtain ⟨y, hy, rfl⟩ := List.mem_map.1 hx
      have := hq y hy
      omega)
  rw [List.length_append, List.length_map, List.length_range] at h2
  exact h2
theorem kO_fct {s : List Int} : ∀ (d : Nat) (q : List Int), q.Nodup → (∀ x ∈ q, 0 ≤ x ∧ x < s.length) → q.length + d = s.length → (kO s d q).length ≤ fct d
  | 0, q, _, _, _ => by simp [kO, fct]
  | d + 1, q, hn, hq, hd => by
    rw [kO_succ]
    have hg : ∀ n : Nat, n < s.length → (kG s d q n).length ≤ if ¬ (n : Int) ∈ q then fct d else 0 := fun n hns => by
      unfold kG
      by_cases h : (n : Int) ∈ q
      · rw [if_neg (fun hh => hh.2 h)]
        simp
      · rw [if_pos h]
        split
        · refine kO_fct d (q ++ [(n : Int)]) ?_ ?_ (by rw [List.length_append, List.length_singleton]; omega)
          · rw [List.nodup_append]
            refine ⟨hn, by simp, fun a ha b hb => ?_⟩
            rw [List.mem_singleton] at hb
            subst hb
            rintro rfl
            exact h ha
          · intro x hx
            rcases List.mem_append.1 hx with hx | hx
            · exact hq x hx
            · rw [List.mem_singleton] at hx
              subst hx
              omega
        · simp
    have key : ∀ m, m ≤ s.length → (kP s d q m).length ≤ ((List.range m).filter fun (n : Nat) => decide (¬ (n : Int) ∈ q)).length * fct d := by
      intro m
      induction m with
      | zero => simp [kP]
      | succ m ih =>
        intro hm
        have h1 := hg m (by omega)
        have h2 := ih (by omega)
        rw [kP_succ, List.length_append, List.range_succ, List.filter_append, List.length_append, Nat.add_mul]
        by_cases h : (m : Int) ∈ q
        · rw [if_neg (by simpa using h)] at h1
          omega
        · rw [if_pos h] at h1
          have : ((List.filter (fun (n : Nat) => decide (¬ (n : Int) ∈ q)) [m]).length) = 1 := by simp [h]
          rw [this]
          omega
    have h1 := key s.length (Nat.le_refl _)
    have h2 := out_count hn (N := s.length) hq
    have h3 : ((List.range s.length).filter fun (n : Nat) => decide (¬ (n : Int) ∈ q)).length * fct d ≤ (d + 1) * fct d := Nat.mul_le_mul_right _ (by omega)
    show _ ≤ (d + 1) * fct d
    omega
theorem fct_mono : ∀ {a b : Nat}, a ≤ b → fct a ≤ fct b := fun {a b} h => by
  induction h with
  | refl => exact Nat.le_refl _
  | step _ ih =>
    refine Nat.le_trans ih ?_
    show _ ≤ (_ + 1) * fct _
    exact Nat.le_mul_of_pos_left _ (by omega)
theorem kO_40320 {s : List Int} (hs : isSp s = true) : (kO s s.length []).length ≤ 40320 :=
  Nat.le_trans (kO_fct s.length [] (by simp) (by simp) (by simp)) (Nat.le_trans (fct_mono (isSp_len hs)) (by decide))
theorem keeps_bound {s : List Int} (hs : isSp s = true) (c : List Int) : ((keeps s c).length : Int) ≤ prd s * 40320 := by
  have h1 : (keeps s c).length ≤ (GL s).length := List.length_filter_le _ _
  rw [GL_length] at h1
  have h2 := kO_40320 hs
  have h3 : (kO s s.length []).length * (prd s).toNat ≤ 40320 * (prd s).toNat := Nat.mul_le_mul_right _ h2
  have h4 := isSp_prd1 hs
  obtain ⟨P, hP⟩ := Int.eq_ofNat_of_zero_le (show 0 ≤ prd s by omega)
  rw [hP] at h1 h3 ⊢
  rw [Int.toNat_natCast] at h1 h3
  omega
theorem count_keeps {s c : List Int} (hs : isSp s = true) (hc : isC s c = true) : (allF (stP c) s c (c, 0)).2 = ((keeps s c).length : Int) := by
  rw [allF_GL]
  have h1 := GL_length s
  have h2 := kO_40320 hs
  have h3 := isSp_prd hs
  have h4 : (kO s s.length []).length * (prd s).toNat ≤ 40320 * 1024 := Nat.mul_le_mul h2 (by omega)
  have := count_fold hs hc (GL s) (c, 0) 0 (fun g hg => (mem_GL hs).1 hg) rfl (by omega)
  rw [Nat.zero_add] at this
  exact this
theorem zero_img {s c : List Int} (hs : isSp s = true) (hc : isC s c = true) {x : Int} (hx : x ∈ c) : ∃ g, inG s g ∧ (0 : Int) ∈ img s c g := by
  refine ⟨(upTo s.length, oppW9 s x), ⟨upTo_kO s, oppW9_isW hs x⟩, img_mem.2 ⟨x, hx, ?_⟩⟩
  unfold act
  simp only []
  rw [plW_id hs (isC_words hc x hx), sum_opp9 hs]
theorem best_zero {s c : List Int} (hs : isSp s = true) (hc : isC s c = true) (hn : 0 < c.length) : rd (bestL s c) 0 = 0 := by
  obtain ⟨⟨g, hg, e⟩, hm⟩ := bestL_spec hs hc
  obtain ⟨x, hx⟩ : ∃ x, x ∈ c := ⟨c[0], List.getElem_mem hn⟩
  obtain ⟨h, hh, h0⟩ := zero_img hs hc hx
  have l1 : (bestL s c).length = c.length := by rw [e, img_len hs hc hg]
  have l2 := img_len hs hc hh
  have hb := hm h hh
  have w1 : isC s (bestL s c) = true := by rw [e]; exact img_isC hs g
  have w2 := img_isC (c := c) hs h
  have p2 := img_pw s c h
  generalize bestL s c = b at *
  generalize img s c h = f at *
  match b, l1 with
  | [], l1 => simp at l1; omega
  | y :: b, l1 =>
    match f, l2 with
    | [], l2 => simp at l2; omega
    | z :: f, l2 =>
      have hz : z = 0 := by
        have hz0 := ((isW_iff s z).1 (isC_words w2 z (by simp))).1
        rcases List.mem_cons.1 h0 with h0 | h0
        · exact h0.symm
        · have := (List.pairwise_cons.1 p2).1 0 h0
          omega
      subst hz
      have hy := ((isW_iff s y).1 (isC_words w1 y (by simp))).1
      have : rd (y :: b) 0 = y := rfl
      rw [this]
      by_cases e0 : (0 : Int) = y
      · exact e0.symm
      · unfold befL at hb
        rw [if_pos e0] at hb
        have := of_decide_eq_false hb
        omega
def diffs (a b : List Int) (n : Nat) : List Nat := (List.range n).filter fun k => decide (rd a (k : Int) ≠ rd b (k : Int))
theorem ham_diffs : ∀ (a b : List Int), a.length = b.length → ham a b = ((diffs a b a.length).length : Int) := by
  have key : ∀ (a b : List Int) (n : Nat), n ≤ a.length → a.length = b.length → ham (a.take n) (b.take n) = ((diffs a b n).length : Int) := by
    intro a b n
    induction n with
    | zero => intro _ _; simp [diffs, ham]
    | succ n ih =>
      intro hn hl
      have h1 := ih (by omega) hl
      rw [take_rd a (show n < a.length by omega), take_rd b (show n < b.length by omega), ham_snoc _ _ _ _ (by simp; omega), h1]
      unfold diffs
      rw [List.range_succ, List.filter_append, List.length_append]
      by_cases e : rd a (n : Int) = rd b (n : Int)
      · rw [if_pos e]
        simp [e]
      · rw [if_neg e]
        simp [e]
  intro a b hl
  have := key a b a.length (Nat.le_refl _) hl
  rw [List.take_length, hl, List.take_length] at this
  rw [this, hl]
theorem act_digit {s : List Int} (hs : isSp s = true) {g : List Int × Int} (hg : inG s g) (x y : Int) {j : Nat} (hj : j < s.length) : (rd (dg s (act s g x)) (rd g.1 (j : Int)) = rd (dg s (act s g y)) (rd g.1 (j : Int))) ↔ rd (dg s x) (j : Int) = rd (dg s y) (j : Int) := by
  obtain ⟨k, hk, e⟩ := rd_place hg.1 hj
  have h1 := rd_plW hs hg.1 x hj
  have h2 := rd_plW hs hg.1 y hj
  have h4 := (kO_all hg.1).1.2.2 j (by rw [(kO_all hg.1).2]; exact hj)
  rw [e] at h1 h2 h4 ⊢
  unfold act
  rw [rd_sumW hs _ _ hk, rd_sumW hs _ _ hk, h1, h2, h4]
  have hx := rd_dg_lt hs x hj
  have hy := rd_dg_lt hs y hj
  have hq := all_rd (isSp_all hs) hj
  constructor
  · intro h
    generalize rd (dg s x) (j : Int) = p at *
    generalize rd (dg s y) (j : Int) = q at *
    generalize rd (dg s g.2) (k : Int) = r at *
    generalize rd s (j : Int) = n at *
    rcases hq with rfl | rfl | rfl <;> omega
  · intro h
    rw [h]
theorem diffs_le {s : List Int} (hs : isSp s = true) {g : List Int × Int} (hg : inG s g) (x y : Int) : (diffs (dg s x) (dg s y) s.length).length ≤ (diffs (dg s (act s g x)) (dg s (act s g y)) s.length).length := by
  have hl : (diffs (dg s x) (dg s y) s.length).length = ((diffs (dg s x) (dg s y) s.length).map fun (j : Nat) => (rd g.1 (j : Int)).toNat).length := by rw [List.length_map]
  have hm : ∀ j ∈ diffs (dg s x) (dg s y) s.length, j < s.length ∧ rd (dg s x) (j : Int) ≠ rd (dg s y) (j : Int) := fun j hj => by
    unfold diffs at hj
    rw [List.mem_filter, decide_eq_true_eq, List.mem_range] at hj
    exact hj
  rw [hl]
  refine length_le_of (map_nodup (List.nodup_range.filter _) (fun a ha b hb e => ?_)) (fun z hz => ?_)
  · obtain ⟨k1, hk1, e1⟩ := rd_place hg.1 (hm a ha).1
    obtain ⟨k2, hk2, e2⟩ := rd_place hg.1 (hm b hb).1
    have hla := (kO_all hg.1).2
    have := (hm a ha).1
    have := (hm b hb).1
    exact rd_inj (kO_all hg.1).1.1 (by omega) (by omega) (by rw [e1, e2] at e ⊢; omega)
  · obtain ⟨j, hj, rfl⟩ := List.mem_map.1 hz
    obtain ⟨h1, h2⟩ := hm j hj
    obtain ⟨k, hk, e⟩ := rd_place hg.1 h1
    have h3 := mt (act_digit hs hg x y h1).1 h2
    rw [e] at h3 ⊢
    unfold diffs
    rw [List.mem_filter, decide_eq_true_eq, List.mem_range, Int.toNat_natCast]
    exact ⟨hk, h3⟩
theorem dist_act {s : List Int} (hs : isSp s = true) {g : List Int × Int} (hg : inG s g) {x y : Int} (hx : isW s x = true) (hy : isW s y = true) : dist s (act s g x) (act s g y) = dist s x y := by
  have h1 := diffs_le hs hg x y
  have h2 := diffs_le hs (invG_in hs hg) (act s g x) (act s g y)
  rw [act_inv hs hg hx, act_inv hs hg hy] at h2
  unfold dist
  rw [ham_diffs _ _ (by rw [dg_length, dg_length]), ham_diffs _ _ (by rw [dg_length, dg_length]), dg_length, dg_length]
  omega
def pairsD (s c : List Int) (n : Nat) (d : Int) : List (Int × Int) := (c.take n).flatMap fun x => (c.filter fun y => decide (dist s x y = d)).map fun y => (x, y)
theorem incP_rd {L : List Int} {x : Int} (h0 : 0 ≤ x) (hx : x < L.length) (d : Nat) : rd (incP L x) (d : Int) = rd L (d : Int) + if x = (d : Int) then 1 else 0 := by
  obtain ⟨n, rfl⟩ := Int.eq_ofNat_of_zero_le h0
  unfold incP
  rw [Int.toNat_natCast]
  by_cases e : n = d
  · subst e
    have : n < L.length := by omega
    simp [rd, List.getD_eq_getElem?_getD, this]
  · have e2 : ¬ ((n : Int) = (d : Int)) := by omega
    rw [if_neg e2]
    simp [rd, List.getD_eq_getElem?_getD, List.getElem?_set_ne e]
theorem cin_rd {s c : List Int} (hs : isSp s = true) (u : Int) : ∀ (l L : List Int), L.length = s.length + 1 → ∀ d : Nat,
    rd (l.foldl (fun L x => incP L (ham (dig8 s u) (dig8 s x))) L) (d : Int) = rd L (d : Int) + ((l.filter fun y => decide (dist s u y = (d : Int))).length : Int)
  | [], L, _, d => by simp
  | x :: l, L, hL, d => by
    have h0 := dist_nonneg s u x
    have h1 := dist_le s u x
    rw [List.foldl_cons, cin_rd (c := c) hs u l _ (by rw [incP_length]; exact hL) d, ham_dig8 (isSp_len hs), incP_rd h0 (by omega)]
    by_cases e : dist s u x = (d : Int)
    · rw [if_pos e, List.filter_cons_of_pos (by simpa using e), List.length_cons]
      omega
    · rw [if_neg e, List.filter_cons_of_neg (by simpa using e)]
      omega
theorem cout_rd {s c : List Int} (hs : isSp s = true) (d : Nat) : ∀ n, n ≤ c.length → rd (cout s c n) (d : Int) = ((pairsD s c n (d : Int)).length : Int)
  | 0, _ => by
    simp only [cout, pairsD, List.take_zero, List.flatMap_nil, List.length_nil]
    simp only [rd, Int.toNat_natCast, List.getD_eq_getElem?_getD, List.getElem?_replicate]
    split <;> rfl
  | n + 1, hn => by
    have ih := cout_rd (c := c) hs d n (by omega)
    rw [cout]
    unfold cin
    rw [List.take_length, cin_rd (c := c) hs _ c _ (cout_length s c n) d, ih]
    unfold pairsD
    rw [take_rd c (show n < c.length by omega), List.flatMap_append, List.length_append]
    simp
theorem pairsD_mem {s c : List Int} {d : Int} {z : Int × Int} : z ∈ pairsD s c c.length d ↔ z.1 ∈ c ∧ z.2 ∈ c ∧ dist s z.1 z.2 = d := by
  unfold pairsD
  rw [List.take_length]
  simp only [List.mem_flatMap, List.mem_map, List.mem_filter, decide_eq_true_eq]
  constructor
  · rintro ⟨x, hx, y, ⟨hy, hd⟩, rfl⟩
    exact ⟨hx, hy, hd⟩
  · rintro ⟨hx, hy, hd⟩
    exact ⟨z.1, hx, z.2, ⟨hy, hd⟩, rfl⟩
theorem pairsD_nodup {s c : List Int} (hn : c.Nodup) (d : Int) : (pairsD s c c.length d).Nodup := by
  unfold pairsD
  rw [List.take_length]
  have key : ∀ l : List Int, l.Nodup → (l.flatMap fun x => (c.filter fun y => decide (dist s x y = d)).map fun y => (x, y)).Nodup := by
    intro l hl
    induction l with
    | nil => simp
    | cons x l ih =>
      rw [List.nodup_cons] at hl
      rw [List.flatMap_cons, List.nodup_append]
      refine ⟨map_nodup (hn.filter _) (fun a _ b _ e => by injection e), ih hl.2, fun a ha b hb => ?_⟩
      rintro rfl
      obtain ⟨y, _, rfl⟩ := List.mem_map.1 ha
      obtain ⟨x2, hx2, hb⟩ := List.mem_flatMap.1 hb
      obtain ⟨y2, _, e⟩ := List.mem_map.1 hb
      injection e with e1 _
      subst e1
      exact hl.1 hx2
  exact key c hn
theorem pairsD_le {s c : List Int} (hs : isSp s = true) (hc : isC s c = true) {g : List Int × Int} (hg : inG s g) (d : Int) : (pairsD s c c.length d).length ≤ (pairsD s (img s c g) (img s c g).length d).length := by
  have hn := pairsD_nodup (s := s) (pw_nodup (asc_pw (isC_asc hc))) d
  have hlen : (pairsD s c c.length d).length = ((pairsD s c c.length d).map fun z => (act s g z.1, act s g z.2)).length := by rw [List.length_map]
  rw [hlen]
  refine length_le_of (map_nodup hn (fun a ha b hb e => ?_)) (fun z hz => ?_)
  · obtain ⟨a1, a2, _⟩ := pairsD_mem.1 ha
    obtain ⟨b1, b2, _⟩ := pairsD_mem.1 hb
    injection e with e1 e2
    exact Prod.ext (act_inj hs hg (isC_words hc _ a1) (isC_words hc _ b1) e1) (act_inj hs hg (isC_words hc _ a2) (isC_words hc _ b2) e2)
  · obtain ⟨a, ha, rfl⟩ := List.mem_map.1 hz
    obtain ⟨a1, a2, hd⟩ := pairsD_mem.1 ha
    exact pairsD_mem.2 ⟨img_mem.2 ⟨_, a1, rfl⟩, img_mem.2 ⟨_, a2, rfl⟩, by
      show dist s (act s g a.1) (act s g a.2) = d
      rw [dist_act hs hg (isC_words hc _ a1) (isC_words hc _ a2)]
      exact hd⟩
theorem cout_img {s c : List Int} (hs : isSp s = true) (hc : isC s c = true) {g : List Int × Int} (hg : inG s g) : cout s (img s c g) (img s c g).length = cout s c c.length := by
  refine rd_ext (by rw [cout_length, cout_length]) (fun d _ => ?_)
  rw [cout_rd hs d _ (Nat.le_refl _), cout_rd hs d _ (Nat.le_refl _)]
  have h1 := pairsD_le hs hc hg (d : Int)
  have h2 := pairsD_le hs (img_isC (c := c) hs g) (invG_in hs hg) (d : Int)
  rw [img_back hs hc hg] at h2
  omega
theorem together_common {a b : List Int} (ha : a.Nodup) (hb : b.Nodup) : (ordL (a ++ b)).length + (a.filter fun x => decide (x ∈ b)).length = a.length + b.length := by
  have h1 : (a ++ b.filter fun y => decide (¬ y ∈ a)).Nodup := by
    rw [List.nodup_append]
    refine ⟨ha, hb.filter _, fun x hx y hy => ?_⟩
    rintro rfl
    rw [List.mem_filter, decide_eq_true_eq] at hy
    exact hy.2 hx
  have h2 : (ordL (a ++ b)).length = (a ++ b.filter fun y => decide (¬ y ∈ a)).length := by
    refine Nat.le_antisymm (length_le_of (pw_nodup (ordL_pw _)) (fun x hx => ?_)) (length_le_of h1 (fun x hx => ?_))
    · rw [ordL_mem, List.mem_append] at hx
      rw [List.mem_append, List.mem_filter, decide_eq_true_eq]
      by_cases h : x ∈ a
      · exact .inl h
      · exact .inr ⟨hx.resolve_left h, h⟩
    · rw [List.mem_append, List.mem_filter] at hx
      rw [ordL_mem, List.mem_append]
      exact hx.imp id (fun h => h.1)
  have h3 : (b.filter fun y => decide (¬ y ∈ a)).length + (b.filter fun y => decide (y ∈ a)).length = b.length := by
    clear h1 h2 hb
    induction b with
    | nil => rfl
    | cons y b ih =>
      by_cases h : y ∈ a
      · rw [List.filter_cons_of_neg (by simpa using h), List.filter_cons_of_pos (by simpa using h), List.length_cons, List.length_cons]
        omega
      · rw [List.filter_cons_of_pos (by simpa using h), List.filter_cons_of_neg (by simpa using h), List.length_cons, List.length_cons]
        omega
  have h4 : (a.filter fun x => decide (x ∈ b)).length = (b.filter fun y => decide (y ∈ a)).length := by
    refine Nat.le_antisymm (length_le_of (ha.filter _) (fun x hx => ?_)) (length_le_of (hb.filter _) (fun x hx => ?_)) <;>
    · rw [List.mem_filter, decide_eq_true_eq] at hx ⊢
      exact ⟨hx.2, hx.1⟩
  rw [h2, List.length_append]
  omega
end Go.Proofs.YtnkndaapamenmaaGreat.Q
