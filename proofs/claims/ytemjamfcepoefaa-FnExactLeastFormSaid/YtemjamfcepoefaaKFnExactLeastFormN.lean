/- What the law FnExactLeastForm needs, part 14: words, walks of functions (each says that a call returns what the plain Lean function beside it says), plain lemmas. -/
import Derived.Test.YtemjamfcepoefaaKFnExactLeastFormM
import Derived.Deep.DeepAppendRoom
import Derived.Deep.RegionLaw
import Derived.Laws.EntriesVeiled
set_option linter.unusedVariables false
set_option linter.unusedSimpArgs false
namespace Go.Proofs.Ytemjamfcepoefaa.P
open Go.RowKit Go.Proofs.YtemjamfcepoefaaW.PrintWords Go.Proofs.YtemjamfcepoefaaW.PrintLast Go.Proofs.YtemjamfcepoefaaW.PrintMore CC
def kO (s : List Int) : Nat → List Int → List (List Int)
  | 0, p => [p]
  | d + 1, p => (List.range s.length).flatMap fun (n : Nat) => if rd s (n : Int) = rd s (p.length : Int) ∧ ¬ (n : Int) ∈ p then kO s d (p ++ [(n : Int)]) else []
def kG (s : List Int) (d : Nat) (p : List Int) (n : Nat) : List (List Int) := if rd s (n : Int) = rd s (p.length : Int) ∧ ¬ (n : Int) ∈ p then kO s d (p ++ [(n : Int)]) else []
def kP (s : List Int) (d : Nat) (p : List Int) (m : Nat) : List (List Int) := (List.range m).flatMap (kG s d p)
theorem kP_zero (s : List Int) (d : Nat) (p : List Int) : kP s d p 0 = [] := rfl
theorem kP_succ (s : List Int) (d : Nat) (p : List Int) (m : Nat) : kP s d p (m + 1) = kP s d p m ++ kG s d p m := by simp [kP, List.range_succ]
theorem kO_succ (s : List Int) (d : Nat) (p : List Int) : kO s (d + 1) p = kP s d p s.length := rfl
theorem kO_len {s : List Int} (hs : s.length ≤ 8) : ∀ (d : Nat) (p : List Int), (kO s d p).length ≤ 8 ^ d
  | 0, p => by simp [kO]
  | d + 1, p => by
    have hg : ∀ n, (kG s d p n).length ≤ 8 ^ d := fun n => by
      unfold kG
      split
      · exact kO_len hs d _
      · simp
    have hp : ∀ m, (kP s d p m).length ≤ m * 8 ^ d := by
      intro m
      induction m with
      | zero => simp [kP]
      | succ m ih => rw [kP_succ, List.length_append, Nat.succ_mul]; have := hg m; omega
    rw [kO_succ, Nat.pow_succ]
    have h1 := hp s.length
    have h2 : s.length * 8 ^ d ≤ 8 * 8 ^ d := Nat.mul_le_mul_right _ hs
    omega
theorem kG_len {s : List Int} (hs : s.length ≤ 8) (d : Nat) (p : List Int) (n : Nat) : (kG s d p n).length ≤ 8 ^ d := by
  unfold kG
  split
  · exact kO_len hs d _
  · simp
theorem kP_len {s : List Int} (hs : s.length ≤ 8) (d : Nat) (p : List Int) : ∀ m, (kP s d p m).length ≤ m * 8 ^ d
  | 0 => by simp [kP]
  | m + 1 => by rw [kP_succ, List.length_append, Nat.succ_mul]; have := kG_len hs d p m; have := kP_len hs d p m; omega
theorem index_ev (p : List Int) (hp : p.length ≤ 1048576) (x : Int) : ∀ (k n : Nat), n + k = p.length →
    ∃ r : Int, Ev (fun j => slices_Index_int64_int64.l0 j p x (p.length : Int) (n : Int)) r ∧ (decide (r ≥ 0) = decide (x ∈ p.drop n))
  | 0, n, h => by
    refine ⟨-1, Ev.step (fun k => by simp only [slices_Index_int64_int64.l0]; exact rfl) (Q.Ev.iff_neg (by omega) (Ev.now _)), ?_⟩
    rw [List.drop_of_length_le (by omega)]
    simp
  | k + 1, n, h => by
    obtain ⟨r, h1, h2⟩ := index_ev p hp x k (n + 1) (by omega)
    have hlt : n < p.length := by omega
    have hd : p.drop n = rd p (n : Int) :: p.drop (n + 1) := by
      rw [List.drop_eq_getElem_cons hlt]
      simp [rd, List.getD_eq_getElem?_getD, hlt]
    by_cases hx : x = rd p (n : Int)
    · refine ⟨(n : Int), Ev.step (fun k => by simp only [slices_Index_int64_int64.l0]; exact rfl) (Q.Ev.iff_pos (by omega) (Q.Ev.iff_pos (by omega) (Q.Ev.iff_pos (by omega) (Q.Ev.iff_pos hx (Ev.now _))))), ?_⟩
      rw [hd, ← hx]
      simp
    · refine ⟨r, Ev.step (fun k => by simp only [slices_Index_int64_int64.l0]; exact rfl) (Q.Ev.iff_pos (by omega) (Q.Ev.iff_pos (by omega) (Q.Ev.iff_pos (by omega) (Q.Ev.iff_neg hx ?_)))), ?_⟩
      · rw [Q.wrap_nat (by unfold maxLen; omega)]
        exact h1
      · rw [h2, hd]
        simp [hx]
theorem contains_ev (p : List Int) (hp : p.length ≤ 1048576) (x : Int) : Ev (fun k => slices_Contains_int64_int64.f k p x) (decide (x ∈ p)) := by
  obtain ⟨r, h1, h2⟩ := index_ev p hp x p.length 0 (by omega)
  unfold slices_Contains_int64_int64.f slices_Index_int64_int64.f
  refine Ev.bind h1 ?_
  rw [h2, List.drop_zero]
  exact Ev.now _
theorem own_prefix {w : World} {base g n m cap : Nat} {xs ys : List Value} {t : TypeId} (h : w.ownsRow base t 1 (.slice (some ⟨g, 0, none⟩) (n + m) cap) (n + m) (xs ++ ys)) (hl : xs.length = n) : w.ownsRow base t 1 (.slice (some ⟨g, 0, none⟩) n cap) n xs := by
  obtain ⟨h1, h2⟩ := h
  refine ⟨by omega, ?_⟩
  rcases h2 with ⟨h3, _⟩ | ⟨g', cap', cur, hv, hb, hg, hn, hm, hcs, ht⟩
  · cases h3
  · cases hv
    refine .inr ⟨g, cap, cur, rfl, hb, hg, by omega, hm, hcs, ?_⟩
    have := congrArg (List.take n) ht
    rw [List.take_take, Nat.mul_one, show min n (n + m) = n by omega, ← hl, List.take_left] at this
    rw [Nat.mul_one, ← hl]
    exact this
theorem hlt_of {W : World} {g : Nat} {o : Obj} (h : W.heap[g]? = some o) : g < W.heap.size := by
  rcases Nat.lt_or_ge g W.heap.size with h2 | h2
  · exact h2
  · rw [Array.getElem?_eq_none h2] at h
    cases h
theorem own_lt9 {w : World} {base g n cap size : Nat} {xs : List Value} {t : TypeId} (h : w.ownsRow base t size (.slice (some ⟨g, 0, none⟩) n cap) n xs) : g < w.heap.size := by
  rcases h.2 with ⟨h3, _⟩ | ⟨g', cap', cur, hv, _, hg, _⟩
  · cases h3
  · cases hv
    exact hlt_of hg
theorem own_step {w W : World} {base g n cap size : Nat} {xs : List Value} {t : TypeId} (h : w.ownsRow base t size (.slice (some ⟨g, 0, none⟩) n cap) n xs) (he : W.heap[g]? = w.heap[g]?) : W.ownsRow base t size (.slice (some ⟨g, 0, none⟩) n cap) n xs := by
  refine ⟨h.1, ?_⟩
  rcases h.2 with ⟨h3, _⟩ | ⟨g', cap', cur, hv, hb, hg, hr⟩
  · cases h3
  · cases hv
    exact .inr ⟨g, cap, cur, rfl, hb, he.trans hg, hr⟩
theorem step_append_spare9 {P : Program} {w : World} {ops : Array Oper} {o : Oper} {a : Act} {K : Act → World → Prop} {Q : Exit → Act → World → Prop} {E : Prop} (hgd : o.guard = none) (s x : Operand) (t : TypeId)
    (ho : o.op = .call { callee := .builtin .append, args := #[s, x], argTypes := #[t, t] })
    (base : Nat) (e : TypeId) (i : TypeInfo) (size : Nat) (ht : P.underlying t = some (.slice e)) (hi : P.info? e = some i) (hsize : i.size = size)
    (g n cap : Nat) (xs : List Value) (hs : a.eval s = .slice (some ⟨g, 0, none⟩) n cap) (hown : w.ownsRow base e size (.slice (some ⟨g, 0, none⟩) n cap) n xs)
    (ad : Addr) (m c : Nat) (news : List Value) (hx : a.eval x = .slice (some ad) m c) (hl : news.length = m * size) (hnews : ∀ j u, news[j]? = some u → w.cell? (ad.add j) = some u) (h1 : ∀ u ∈ news, u.oneCell' = true)
    (hroom : n + m ≤ cap)
    (h : ∀ w', w'.ownsRow base e size (.slice (some ⟨g, 0, none⟩) (n + m) cap) (n + m) (xs ++ news) → w.grownBy w' (some g) → K (a.put o.dst (.slice (some ⟨g, 0, none⟩) (n + m) cap)) w') : if Region.wanted o (yielded ops a.tmps) = true then Oper.wp P o a w K Q else E := by
  have hw : Region.wanted o (yielded ops a.tmps) = true := by simp [Region.wanted, hgd]
  rw [if_pos hw]
  exact wp_append_own_spare w s x t ho base e i size ht hi hsize g n cap xs hs hown ad m c news hx hl hnews h1 hroom h
def KOs (A : Option Addr) (c : Nat) (s : List Int) (w0 : World) (gs go gf gb : Nat) (p : List Int) (out : List (List Int)) (W : World) : Prop :=
  W.heap[gs]? = some (.cells #[.slice A s.length c] 28 (0, 0)) ∧
  W.heap[gf]? = some (.cells #[.func (Fn.func 54) #[] #[.pointer (some ⟨gs, 0, none⟩), .pointer (some ⟨go, 0, none⟩), .pointer (some ⟨gf, 0, none⟩)]] 73 (0, 0)) ∧
  (∃ vo, W.heap[go]? = some (.cells #[vo] 52 (0, 0)) ∧ Kd.N (Kd.slice 2 (Kd.int .i64)) 22 W w0.heap.size (fun k => w0.heap.size ≤ k ∧ k ≠ gs ∧ k ≠ go ∧ k ≠ gf ∧ k ≠ gb) vo out) ∧
  W.ownsRow gb 2 1 (.slice (some ⟨gb, 0, none⟩) p.length s.length) p.length (nums .i64 p) ∧
  Below w0.heap.size w0 W
theorem KOs_drewN {A : Option Addr} {c : Nat} {s : List Int} {w0 : World} {gs go gf gb : Nat} {p : List Int} {out : List (List Int)} {W : World} (h : KOs A c s w0 gs go gf gb p out W) (n : Nat) : KOs A c s w0 gs go gf gb p out (W.drewN n) := by
  obtain ⟨K1, K2, ⟨vo, K3, K4⟩, K5, K6⟩ := h
  exact ⟨blk_drewN K1 n, blk_drewN K2 n, ⟨vo, blk_drewN K3 n, Kd.N_drewN K4 n⟩, pw_own_drewN K5 n, pw_below_drewN K6 n⟩
theorem cell_one_new9 (w : World) (x : Value) (t : TypeId) : ∀ j u, [x][j]? = some u → (w.alloc (.cells #[x] t)).cell? ((⟨w.heap.size, 0, none⟩ : Addr).add j) = some u := by
  intro j u hj
  have hb := blk_cell (blk_new w (.cells #[x] t)) j
  rw [add_plain, hb]
  simpa using hj
theorem KOs_step {A : Option Addr} {c : Nat} {s : List Int} {w0 : World} {gs go gf gb : Nat} {p : List Int} {out : List (List Int)} {W w2 : World} {x : Int} {o : Obj} (h : KOs A c s w0 gs go gf gb p out W) (hne : gs ≠ go ∧ gs ≠ gf ∧ gs ≠ gb ∧ go ≠ gf ∧ go ≠ gb ∧ gf ≠ gb)
    (O2 : w2.ownsRow gb 2 1 (.slice (some ⟨gb, 0, none⟩) (p.length + 1) s.length) (p.length + 1) (nums .i64 p ++ [.int .i64 x])) (G2 : (W.alloc o).drew.grownBy w2 (some gb)) (hb : w0.heap.size ≤ gb) :
    KOs A c s w0 gs go gf gb (p ++ [x]) out w2 := by
  obtain ⟨K1, K2, ⟨vo, K3, K4⟩, K5, K6⟩ := h
  have hB := below_drew (below_alloc K6 o)
  refine ⟨(G2.block gs (hlt_of (blk_drew (blk_alloc K1 o))) (fun e => hne.2.2.1 (Option.some.inj e))).trans (blk_drew (blk_alloc K1 o)), (G2.block gf (hlt_of (blk_drew (blk_alloc K2 o))) (fun e => hne.2.2.2.2.2 (Option.some.inj e))).trans (blk_drew (blk_alloc K2 o)), ⟨vo, (G2.block go (hlt_of (blk_drew (blk_alloc K3 o))) (fun e => hne.2.2.2.2.1 (Option.some.inj e))).trans (blk_drew (blk_alloc K3 o)), Kd.N_grown (Kd.N_drew (Kd.N_alloc K4 o)) G2 (fun k hk e => hk.2.2.2.2 (Option.some.inj e))⟩, ?_, pw_below_grown hB _ hB.size G2 (fun k hk => by injection hk with hk; omega)⟩
  rw [nums_append, List.length_append]
  exact O2
theorem KOs_prefix {A : Option Addr} {c : Nat} {s : List Int} {w0 : World} {gs go gf gb : Nat} {p : List Int} {x : Int} {out : List (List Int)} {W : World} (h : KOs A c s w0 gs go gf gb (p ++ [x]) out W) : KOs A c s w0 gs go gf gb p out W := by
  obtain ⟨K1, K2, K3, K5, K6⟩ := h
  refine ⟨K1, K2, K3, ?_, K6⟩
  rw [nums_append, List.length_append] at K5
  exact own_prefix K5 (by simp [nums])
set_option maxHeartbeats 4000000 in
set_option maxRecDepth 100000 in
theorem search_calls (A : Option Addr) (c : Nat) (s : List Int) (w0 : World) (gs go gf gb : Nat) (hr : Kd.C (Kd.int .i64) w0 A s.length s) (hc : s.length ≤ c) (hs : s.length ≤ 8)
    (hb : w0.heap.size ≤ gs ∧ w0.heap.size ≤ go ∧ w0.heap.size ≤ gf ∧ w0.heap.size ≤ gb) (hne : gs ≠ go ∧ gs ≠ gf ∧ gs ≠ gb ∧ go ≠ gf ∧ go ≠ gb ∧ gf ≠ gb) :
    ∀ (d : Nat) (p : List Int) (out : List (List Int)) (W : World), p.length + d = s.length → out.length + 8 ^ d ≤ 16777216 → KOs A c s w0 gs go gf gb p out W →
    Calls Try.prog 54 #[.slice (some ⟨gb, 0, none⟩) p.length s.length, .pointer (some ⟨gs, 0, none⟩), .pointer (some ⟨go, 0, none⟩), .pointer (some ⟨gf, 0, none⟩)] W
      fun e w' => e = .returned (.tuple #[]) ∧ KOs A c s w0 gs go gf gb p (out ++ kO s d p) w' := by
  intro d
  induction d with
  | zero =>
    intro p out W hd hl hK
    have huS := Try.underlying28
    have HR := Aside0.mk hr
    obtain ⟨K1, K2, ⟨vo, K3, K4⟩, K5, K6⟩ := hK
    have HC : Aside0 (Kd.C (Kd.int .i64) W (some ⟨gb, 0, none⟩) p.length p) := ⟨(Kd.R_reads' (Kd.R_of_own K5 (fun _ _ => trivial) : Kd.R (Kd.int .i64) 2 W gb (fun _ => True) _ p)).2.2⟩
    have k1 : W.cell? ⟨gs, 0, none⟩ = some (.slice A s.length c) := blk_cell K1 0
    have k3 : W.cell? ⟨go, 0, none⟩ = some vo := blk_cell K3 0
    have hps : p.length = s.length := by omega
    have hLT : gs < W.heap.size ∧ go < W.heap.size ∧ gf < W.heap.size ∧ gb < W.heap.size := ⟨hlt_of K1, hlt_of K3, hlt_of K2, own_lt9 K5⟩
    have HLT := Aside0.mk hLT
    have HB0 := Aside0.mk K6.size
    clear hLT
    have K1 := Aside0.mk K1
    have K2 := Aside0.mk K2
    have K3 := Aside0.mk K3
    have K4 := Aside0.mk K4
    have K5 := Aside0.mk K5
    have K6 := Aside0.mk K6
    have c3b0 : ((p.length : Int) == (s.length : Int)) = true := beq_iff_eq.mpr (by omega)
    have c3b2 : (p.length == s.length) = true := beq_iff_eq.mpr (by omega)
    have hpl : p.length ≤ 8 := by omega
    have hpc : p.length ≤ s.length := by omega
    have HPS := Aside0.mk hps
    clear hd hps
    clear hr
    go_enter Try.func54, Try.ntmps54
    go_wp2
    have hN0 : Kd.N (Kd.slice 2 (Kd.int .i64)) 22 W.drew w0.heap.size (fun k => w0.heap.size ≤ k ∧ k ≠ gs ∧ k ≠ go ∧ k ≠ gf ∧ k ≠ gb) vo out := Kd.N_drew K4.out
    have hfr : Aside0 (∀ k, W.heap.size ≤ k → (w0.heap.size ≤ k ∧ k ≠ gs ∧ k ≠ go ∧ k ≠ gf ∧ k ≠ gb) ∧ some k ≠ vo.ownBlock) := ⟨fun k hk => by
      have h1 := HLT.out
      have h2 := HB0.out
      refine ⟨by omega, fun e => ?_⟩
      have := Kd.N_lt K4.out k e.symm
      omega⟩
    have k3d : W.drew.cell? ⟨go, 0, none⟩ = some vo := k3
    first
    | go_region_law
      (first
        | (refine goes_ Try.func55 (by kernel_rfl) rfl #[.slice (some ⟨gb, 0, none⟩) p.length s.length] (by rfl) rfl rfl (by (try simp only [List.map_toArray, List.map_cons, List.map_nil]); first | done | rfl) ?_; refine (clone_calls (some ⟨gb, 0, none⟩) s.length p _ (Kd.C_drew HC.out) hpc (by omega)).mono ?_; rintro e w' ⟨v1, rfl, hR, hb2⟩; refine ⟨_, rfl, ?_⟩; obtain ⟨A1, c1, rfl⟩ := Kd.R_slice hR; have hc1 := (Kd.R_reads' hR).2.1; have hF := Kd.R_F (Kd.R_mono (Kd.R_bound hR) (fun k hk => hk.2.1)); have hN1 := Kd.N_below hN0 hb2; have hB1 := below_then (below_drew K6.out) (below_drew K6.out).size hb2; have hs1 := hb2.size; have hgo1 := blk_below (blk_drew K3.out) hb2; have hgs1 := blk_below (blk_drew K1.out) hb2; have hgf1 := blk_below (blk_drew K2.out) hb2; have hgb1 := own_step K5.out (hb2.block gb HLT.out.2.2.2); have hgc1 := blk_cell hgo1 0; have hgc1a := blk_cell (blk_alloc hgo1 (.cells #[.slice A1 p.length c1] 22)) 0)
        | (refine Kd.N_append_step (Kd.slice 2 (Kd.int .i64)) (w0 := w0) w0.heap.size (by rfl) (.tmp 13) (.tmp 16) 52 22 (.slice none 0 0) 24 rfl Try.underlying52 info22 rfl (by decide) (by omega) vo out p [.slice A1 p.length c1] (fun k => w0.heap.size ≤ k ∧ k ≠ gs ∧ k ≠ go ∧ k ≠ gf ∧ k ≠ gb) (fun k => W.drew.heap.size ≤ k) rfl rfl (Kd.FK_slice_mk hc1 hF) (fun k hk => hfr.out k hk) (fun k hk => (hfr.out k (Nat.le_trans hs1 hk)).1) hN1 hB1 (Nat.le_trans HB0.out hs1) (by omega) ?_; intro v2 w2 hN2 hB2 hG2 hAt2; have hgo2 := (hG2.block go (hlt_of hgo1) (fun e => (hN1.1 go e.symm).2.2.1 rfl)).trans hgo1; have hgc := blk_cell hgo2 0; have hgf := blk_frozen hgo2 0; obtain ⟨A2, c2, rfl⟩ := Kd.N_slice hN2; simp only [List.length_append, List.length_singleton] at hN2; have hgs2 := (hG2.block gs (hlt_of hgs1) (fun e => (hN1.1 gs e.symm).2.1 rfl)).trans hgs1; have hgf2 := (hG2.block gf (hlt_of hgf1) (fun e => (hN1.1 gf e.symm).2.2.2.1 rfl)).trans hgf1; have hgb2 := own_step hgb1 (hG2.block gb (own_lt9 hgb1) (fun e => (hN1.1 gb e.symm).2.2.2.2 rfl))))
    | fail
    all_goals
      go_wp2
      refine bodyPost_ret (v := .tuple #[]) (by simp [results, Try.results54, go_sem]) rfl ?_
      refine ⟨rfl, blk_far hgs2 hne.1 _, blk_far hgf2 (fun e => hne.2.2.2.1 e.symm) _, ⟨_, blk_put hgo2 0 _ rfl, Kd.N_far hN2 (fun k hk => hk.2.2.1) _⟩, own_step hgb2 (Below.heap_setCell _ _ _ _ (fun e => hne.2.2.2.2.1 e.symm)), below_set hB2 hb.2.1⟩
  | succ d ih =>
    intro p out W hd hl hK
    have huS := Try.underlying28
    have HR := Aside0.mk hr
    have IH := Aside0.mk ih
    have HK := Aside0.mk hK
    obtain ⟨i0, hi, hz0, hz1, hz2⟩ := info_parts infoI
    have HI := Aside0.mk (And.intro hi (And.intro hz0 (And.intro hz1 hz2)))
    have k1 : W.cell? ⟨gs, 0, none⟩ = some (.slice A s.length c) := blk_cell hK.1 0
    have hlt : p.length < s.length := by omega
    have c3b0 : ((p.length : Int) == (s.length : Int)) = false := beq_eq_false_iff_ne.mpr (by omega)
    have c3b2 : (p.length == s.length) = false := beq_eq_false_iff_ne.mpr (by omega)
    have HPC := Aside0.mk (contains_ev p (by omega))
    clear hr ih hK hi hz0 hz1 hz2
    go_enter Try.func54, Try.ntmps54
    go_wp2
    go_loopw [21] (fun i W' => ∃ (m : Nat), m ≤ s.length ∧ i = .int .i64 m ∧ Aside0 (KOs A c s w0 gs go gf gb p (out ++ kP s d p m) W')) (fun i _ => s.length - (intOf i).toNat)
    case atStart => exact ⟨0, by omega, rfl, ⟨by rw [kP_zero, List.append_nil]; exact HK.out⟩⟩
    case round =>
      clear HK k1 c3b0 c3b2
      obtain ⟨m, hm, rfl, HK⟩ := hrel
      by_cases hms : m < s.length
      · obtain ⟨ad, e, _⟩ := Kd.at_int HR.out (m : Int) (by omega) (by omega)
        subst e
        have hx := rd_cell HR.out HK.out.2.2.2.2 m hms
        have hy := rd_cell HR.out HK.out.2.2.2.2 p.length hlt
        have k1 : wr.cell? ⟨gs, 0, none⟩ = some (.slice (some ad) s.length c) := blk_cell HK.out.1 0
        have HG : Aside0 (kG s d p m = if rd s (m : Int) = rd s (p.length : Int) ∧ ¬ (m : Int) ∈ p then kO s d (p ++ [(m : Int)]) else []) := ⟨rfl⟩
        by_cases hxy : rd s (m : Int) = rd s (p.length : Int)
        · rw [hxy] at hx HG
          generalize rd s (p.length : Int) = y at *
          clear hxy
          obtain ⟨kc, hkc⟩ := (HPC.out (m : Int)).rounds
          have HKC := Aside0.mk hkc
          clear hkc
          have hC : Kd.C (Kd.int .i64) wr (some ⟨gb, 0, none⟩) p.length p := (Kd.R_reads' (Kd.R_of_own HK.out.2.2.2.1 (fun _ _ => trivial) : Kd.R (Kd.int .i64) 2 wr gb (fun _ => True) _ p)).2.2
          go_wp2_with fail
          refine (slices_Contains_int64_int64.calls kc (some ⟨gb, 0, none⟩) s.length p (m : Int) (decide ((m : Int) ∈ p)) _ hC (by omega) HKC.out).mono ?_
          rintro e w' ⟨rfl, ⟨nd, rfl⟩⟩
          have HK1 := Aside0.mk (KOs_drewN HK.out nd)
          clear hC HKC HK hx hy k1
          generalize wr.drewN nd = w1 at *
          by_cases hmp : (m : Int) ∈ p
          · rw [decide_eq_true hmp]
            rw [if_neg (fun h => h.2 hmp)] at HG
            clear hmp
            go_wp2_with (go_quiet (fail))
            refine ⟨⟨m + 1, by omega, by go_num, ⟨by rw [kP_succ, HG.out, List.append_nil]; exact HK1.out⟩⟩, by simp [intOf]; omega⟩
          · rw [decide_eq_false hmp]
            rw [if_pos (by first | exact ⟨rfl, hmp⟩ | exact ⟨trivial, hmp⟩)] at HG
            clear hmp
            obtain ⟨hi, hz0, hz1, hz2⟩ := HI.out
            obtain ⟨K1, K2, ⟨vo, K3, K4⟩, K5, K6⟩ := HK1.out
            have hpm : (p ++ [(m : Int)]).length = p.length + 1 := by simp
            have hol : (out ++ kP s d p m).length + 8 ^ d ≤ 16777216 := by
              have h1 := kP_len hs d p m
              have h2 : (m + 1) * 8 ^ d ≤ 8 * 8 ^ d := Nat.mul_le_mul_right _ (by omega)
              rw [Nat.succ_mul] at h2
              rw [Nat.pow_succ] at hl
              rw [List.length_append]
              omega
            have f0 : w1.drew.cell? ⟨gf, 0, none⟩ = _ := blk_cell K2 0
            have f1 : (w1.alloc (.cells #[.int .i64 (m : Int)] 2)).cell? ⟨gf, 0, none⟩ = _ := blk_cell (blk_alloc K2 _) 0
            have hnew : ∀ j u, [Value.int .i64 (m : Int)][j]? = some u → (w1.alloc (.cells #[.int .i64 (m : Int)] 2)).drew.cell? ((⟨w1.heap.size, 0, none⟩ : Addr).add j) = some u := cell_one_new9 w1 _ _
            have hREC : ∀ w2, KOs (some ad) c s w0 gs go gf gb (p ++ [(m : Int)]) (out ++ kP s d p m) w2 → Calls Try.prog 54 #[.slice (some ⟨gb, 0, none⟩) (p.length + 1) s.length, .pointer (some ⟨gs, 0, none⟩), .pointer (some ⟨go, 0, none⟩), .pointer (some ⟨gf, 0, none⟩)] w2 fun e w' => e = .returned (.tuple #[]) ∧ KOs (some ad) c s w0 gs go gf gb (p ++ [(m : Int)]) ((out ++ kP s d p m) ++ kO s d (p ++ [(m : Int)])) w' := fun w2 h2 => by
              have h3 := IH.out (p ++ [(m : Int)]) (out ++ kP s d p m) w2 (by omega) hol h2
              rw [hpm] at h3
              exact h3
            have HREC := Aside0.mk hREC
            clear hREC
            go_wp2
            first
            | go_region_law
                (first
                  | (refine step_append_spare9 rfl (.tmp 41) (.tmp 43) 22 rfl gb 2 i0 1 Try.underlying22 hi hz1 gb p.length s.length (nums .i64 p) rfl (own_step (own_alloc K5 _) rfl) ⟨w1.heap.size, 0, none⟩ 1 1 [.int .i64 (m : Int)] rfl rfl hnew (by simp [Value.oneCell']) (by omega) ?_; intro w2 O2 G2; have hq := KOs_step HK1.out hne O2 G2 hb.2.2.2; have f2 := blk_cell hq.2.1 0)
                  | (refine call_ 54 #[.slice (some ⟨gb, 0, none⟩) (p.length + 1) s.length, .pointer (some ⟨gs, 0, none⟩), .pointer (some ⟨go, 0, none⟩), .pointer (some ⟨gf, 0, none⟩)] (by rfl) rfl (by have he := enters_ (P := Try.prog) Try.func54 rfl rfl #[.slice (some ⟨gb, 0, none⟩) (p.length + 1) s.length, .pointer (some ⟨gs, 0, none⟩), .pointer (some ⟨go, 0, none⟩), .pointer (some ⟨gf, 0, none⟩)] w2; unfold execOp; simp [resolve, Deferred.ofValue, invoke, Act.eval, he]) ?_; refine (HREC.out w2 hq).mono ?_; rintro e w3 ⟨rfl, hK3⟩; refine ⟨_, rfl, ?_⟩))
            | fail
            all_goals
              go_wp2
              refine ⟨⟨m + 1, by omega, by go_num, ⟨?_⟩⟩, by simp [intOf]; omega⟩
              rw [kP_succ, HG.out, ← List.append_assoc]
              exact KOs_prefix hK3
        · have hxb : (rd s (m : Int) == rd s (p.length : Int)) = false := beq_eq_false_iff_ne.mpr hxy
          rw [if_neg (fun h => hxy h.1)] at HG
          clear hxy
          go_wp2_with (go_quiet (fail))
          refine ⟨⟨m + 1, by omega, by go_num, ⟨by rw [kP_succ, HG.out, List.append_nil]; exact HK.out⟩⟩, by simp [intOf]; omega⟩
      · obtain rfl : m = s.length := by omega
        go_wp2
        refine bodyPost_end (results_none rfl _ _ _) rfl ?_
        exact ⟨rfl, by rw [kO_succ]; exact HK.out⟩
set_option maxHeartbeats 4000000 in
set_option maxRecDepth 100000 in
theorem keptOrders_calls (A : Option Addr) (c : Nat) (s : List Int) (w : World) (hr : Kd.C (Kd.int .i64) w A s.length s) (hc : s.length ≤ c) (hs : s.length ≤ 8) :
    Calls Try.prog 39 #[.agg #[.slice A s.length c]] w
      fun e w' => ∃ v, e = .returned v ∧ Kd.N (Kd.slice 2 (Kd.int .i64)) 22 w' w.heap.size (fun k => w.heap.size ≤ k) v (kO s s.length []) ∧ Below w.heap.size w w' := by
  have huS := Try.underlying28
  have huF := Try.underlying73
  have HR := Aside0.mk hr
  clear hr
  go_enter Try.func39, Try.ntmps39
  have B3' : ((((w.alloc (.cells #[.slice A s.length c] 28)).alloc (.cells #[] 22)).alloc (.cells #[.slice (some ⟨w.heap.size + 1, 0, none⟩) 0 0] 52)).alloc (.cells #[.nilFunc] 73)).heap[w.heap.size + 1 + 1 + 1]? = some (.cells #[.nilFunc] 73 (0, 0)) := by simpa using blk_new (((w.alloc (.cells #[.slice A s.length c] 28)).alloc (.cells #[] 22)).alloc (.cells #[.slice (some ⟨w.heap.size + 1, 0, none⟩) 0 0] 52)) (.cells #[.nilFunc] 73)
  have f3 : ((((w.alloc (.cells #[.slice A s.length c] 28)).alloc (.cells #[] 22)).alloc (.cells #[.slice (some ⟨w.heap.size + 1, 0, none⟩) 0 0] 52)).alloc (.cells #[.nilFunc] 73)).frozen? ⟨w.heap.size + 1 + 1 + 1, 0, none⟩ = false := blk_frozen B3' 0
  have c3 : ((((w.alloc (.cells #[.slice A s.length c] 28)).alloc (.cells #[] 22)).alloc (.cells #[.slice (some ⟨w.heap.size + 1, 0, none⟩) 0 0] 52)).alloc (.cells #[.nilFunc] 73)).cell? ⟨w.heap.size + 1 + 1 + 1, 0, none⟩ = some .nilFunc := blk_cell B3' 0
  go_wp2
  clear B3' f3 c3
  have B3 : ((((w.alloc (.cells #[.slice A s.length c] 28)).alloc (.cells #[] 22)).alloc (.cells #[.slice (some ⟨w.heap.size + 1, 0, none⟩) 0 0] 52)).alloc (.cells #[(.func (Fn.func 54) #[] #[.pointer (some ⟨w.heap.size, 0, none⟩), .pointer (some ⟨w.heap.size + 1 + 1, 0, none⟩), .pointer (some ⟨w.heap.size + 1 + 1 + 1, 0, none⟩)])] 73)).heap[w.heap.size + 1 + 1 + 1]? = some (.cells #[(.func (Fn.func 54) #[] #[.pointer (some ⟨w.heap.size, 0, none⟩), .pointer (some ⟨w.heap.size + 1 + 1, 0, none⟩), .pointer (some ⟨w.heap.size + 1 + 1 + 1, 0, none⟩)])] 73 (0, 0)) := by simpa using blk_new (((w.alloc (.cells #[.slice A s.length c] 28)).alloc (.cells #[] 22)).alloc (.cells #[.slice (some ⟨w.heap.size + 1, 0, none⟩) 0 0] 52)) (.cells #[(.func (Fn.func 54) #[] #[.pointer (some ⟨w.heap.size, 0, none⟩), .pointer (some ⟨w.heap.size + 1 + 1, 0, none⟩), .pointer (some ⟨w.heap.size + 1 + 1 + 1, 0, none⟩)])] 73)
  have B0 : ((((w.alloc (.cells #[.slice A s.length c] 28)).alloc (.cells #[] 22)).alloc (.cells #[.slice (some ⟨w.heap.size + 1, 0, none⟩) 0 0] 52)).alloc (.cells #[(.func (Fn.func 54) #[] #[.pointer (some ⟨w.heap.size, 0, none⟩), .pointer (some ⟨w.heap.size + 1 + 1, 0, none⟩), .pointer (some ⟨w.heap.size + 1 + 1 + 1, 0, none⟩)])] 73)).heap[w.heap.size]? = some (.cells #[.slice A s.length c] 28 (0, 0)) := blk_alloc (blk_alloc (blk_alloc (blk_new _ _) _) _) _
  have B2 : ((((w.alloc (.cells #[.slice A s.length c] 28)).alloc (.cells #[] 22)).alloc (.cells #[.slice (some ⟨w.heap.size + 1, 0, none⟩) 0 0] 52)).alloc (.cells #[(.func (Fn.func 54) #[] #[.pointer (some ⟨w.heap.size, 0, none⟩), .pointer (some ⟨w.heap.size + 1 + 1, 0, none⟩), .pointer (some ⟨w.heap.size + 1 + 1 + 1, 0, none⟩)])] 73)).heap[w.heap.size + 1 + 1]? = some (.cells #[.slice (some ⟨w.heap.size + 1, 0, none⟩) 0 0] 52 (0, 0)) := blk_alloc (by simpa using blk_new ((w.alloc (.cells #[.slice A s.length c] 28)).alloc (.cells #[] 22)) (.cells #[.slice (some ⟨w.heap.size + 1, 0, none⟩) 0 0] 52)) _
  have B1 : ((((w.alloc (.cells #[.slice A s.length c] 28)).alloc (.cells #[] 22)).alloc (.cells #[.slice (some ⟨w.heap.size + 1, 0, none⟩) 0 0] 52)).alloc (.cells #[(.func (Fn.func 54) #[] #[.pointer (some ⟨w.heap.size, 0, none⟩), .pointer (some ⟨w.heap.size + 1 + 1, 0, none⟩), .pointer (some ⟨w.heap.size + 1 + 1 + 1, 0, none⟩)])] 73)).heap[w.heap.size + 1]? = some (.cells #[] 22 (0, 0)) := blk_alloc (blk_alloc (by simpa using blk_new (w.alloc (.cells #[.slice A s.length c] 28)) (.cells #[] 22)) _) _
  have hB : Below w.heap.size w ((((w.alloc (.cells #[.slice A s.length c] 28)).alloc (.cells #[] 22)).alloc (.cells #[.slice (some ⟨w.heap.size + 1, 0, none⟩) 0 0] 52)).alloc (.cells #[(.func (Fn.func 54) #[] #[.pointer (some ⟨w.heap.size, 0, none⟩), .pointer (some ⟨w.heap.size + 1 + 1, 0, none⟩), .pointer (some ⟨w.heap.size + 1 + 1 + 1, 0, none⟩)])] 73)) := below_alloc (below_alloc (below_alloc ((Below.refl _ _).alloc (Nat.le_refl _) _) _) _) _
  have hS : ((((w.alloc (.cells #[.slice A s.length c] 28)).alloc (.cells #[] 22)).alloc (.cells #[.slice (some ⟨w.heap.size + 1, 0, none⟩) 0 0] 52)).alloc (.cells #[(.func (Fn.func 54) #[] #[.pointer (some ⟨w.heap.size, 0, none⟩), .pointer (some ⟨w.heap.size + 1 + 1, 0, none⟩), .pointer (some ⟨w.heap.size + 1 + 1 + 1, 0, none⟩)])] 73)).heap.size = w.heap.size + 4 := by simp
  generalize ((((w.alloc (.cells #[.slice A s.length c] 28)).alloc (.cells #[] 22)).alloc (.cells #[.slice (some ⟨w.heap.size + 1, 0, none⟩) 0 0] 52)).alloc (.cells #[(.func (Fn.func 54) #[] #[.pointer (some ⟨w.heap.size, 0, none⟩), .pointer (some ⟨w.heap.size + 1 + 1, 0, none⟩), .pointer (some ⟨w.heap.size + 1 + 1 + 1, 0, none⟩)])] 73)) = W4 at *
  have k0 : W4.cell? ⟨w.heap.size, 0, none⟩ = some (.slice A s.length c) := blk_cell B0 0
  have k3 : W4.cell? ⟨w.heap.size + 1 + 1 + 1, 0, none⟩ = some (.func (Fn.func 54) #[] #[.pointer (some ⟨w.heap.size, 0, none⟩), .pointer (some ⟨w.heap.size + 1 + 1, 0, none⟩), .pointer (some ⟨w.heap.size + 1 + 1 + 1, 0, none⟩)]) := blk_cell B3 0
  obtain ⟨i0, hi, hz0, hz1, hz2⟩ := info_parts infoI
  obtain ⟨w5, hmk, hown, hg5⟩ := run_make_own (P := Try.prog) (w := W4.drew) (w.heap.size + 1 + 1 + 1 + 1) 22 2 i0 (.int .i64 0) 1 Try.underlying22 hi hz0 hz1 .i64 .i64 s.length (by rw [hz2]; omega) (by unfold maxLen; omega) (by show _ ≤ W4.heap.size; omega)
  have hS4 : W4.drew.heap.size = w.heap.size + 1 + 1 + 1 + 1 := hS
  rw [hS4] at hmk hown
  have D0 := (hg5.block w.heap.size (by show _ < W4.heap.size; omega) (by simp)).trans (blk_drew B0)
  have D1 := (hg5.block (w.heap.size + 1) (by show _ < W4.heap.size; omega) (by simp)).trans (blk_drew B1)
  have D2 := (hg5.block (w.heap.size + 1 + 1) (by show _ < W4.heap.size; omega) (by simp)).trans (blk_drew B2)
  have D3 := (hg5.block (w.heap.size + 1 + 1 + 1) (by show _ < W4.heap.size; omega) (by simp)).trans (blk_drew B3)
  have DB : Below w.heap.size w w5 := pw_below_grown (below_drew hB) _ (by show _ ≤ W4.heap.size; omega) hg5 (fun k hk => by cases hk)
  have hN : Kd.N (Kd.slice 2 (Kd.int .i64)) 22 w5 w.heap.size (fun k => w.heap.size ≤ k ∧ k ≠ w.heap.size ∧ k ≠ w.heap.size + 1 + 1 ∧ k ≠ w.heap.size + 1 + 1 + 1 ∧ k ≠ w.heap.size + 1 + 1 + 1 + 1) (.slice (some ⟨w.heap.size + 1, 0, none⟩) 0 0) ([] : List (List Int)) :=
    Kd.R_N ⟨fun k hk => by simp [Value.ownBlock] at hk; omega, [], ⟨rfl, .inr ⟨w.heap.size + 1, 0, #[], rfl, by omega, D1, by simp, by unfold maxLen; omega, rfl, rfl⟩⟩, Reps.none _ _⟩
  have hK : KOs A c s w w.heap.size (w.heap.size + 1 + 1) (w.heap.size + 1 + 1 + 1) (w.heap.size + 1 + 1 + 1 + 1) [] [] w5 := ⟨D0, D3, ⟨_, D2, hN⟩, hown, DB⟩
  have h8 : 8 ^ s.length ≤ 16777216 := Nat.le_trans (Nat.pow_le_pow_right (by decide) hs) (by decide)
  have hcall := search_calls A c s w w.heap.size (w.heap.size + 1 + 1) (w.heap.size + 1 + 1 + 1) (w.heap.size + 1 + 1 + 1 + 1) HR.out hc hs (by omega) (by omega) s.length [] [] w5 (by simp) (by simpa using h8) hK
  have k5 : w5.cell? ⟨w.heap.size + 1 + 1 + 1, 0, none⟩ = some (.func (Fn.func 54) #[] #[.pointer (some ⟨w.heap.size, 0, none⟩), .pointer (some ⟨w.heap.size + 1 + 1, 0, none⟩), .pointer (some ⟨w.heap.size + 1 + 1 + 1, 0, none⟩)]) := blk_cell D3 0
  clear B0 B1 B2 B3 hB hS hS4 D0 D1 D2 D3 DB hN hK hg5 hown
  first
  | go_region_law
    (first
      | (refine call_ 54 #[.slice (some ⟨w.heap.size + 1 + 1 + 1 + 1, 0, none⟩) 0 s.length, .pointer (some ⟨w.heap.size, 0, none⟩), .pointer (some ⟨w.heap.size + 1 + 1, 0, none⟩), .pointer (some ⟨w.heap.size + 1 + 1 + 1, 0, none⟩)] (by rfl) rfl (by have he := enters_ (P := Try.prog) Try.func54 rfl rfl #[.slice (some ⟨w.heap.size + 1 + 1 + 1 + 1, 0, none⟩) 0 s.length, .pointer (some ⟨w.heap.size, 0, none⟩), .pointer (some ⟨w.heap.size + 1 + 1, 0, none⟩), .pointer (some ⟨w.heap.size + 1 + 1 + 1, 0, none⟩)] w5; unfold execOp; simp [resolve, Deferred.ofValue, invoke, Act.eval, he]) ?_; refine hcall.mono ?_; rintro e w6 ⟨rfl, hK6⟩; refine ⟨_, rfl, ?_⟩))
  | fail
  all_goals
    obtain ⟨_, _, ⟨vo, E3, E4⟩, _, EB⟩ := hK6
    have k6 := blk_cell E3 0
    go_wp2
    go_ret
    rw [List.nil_append] at E4
    exact ⟨_, rfl, Kd.N_mono E4 (fun k hk => hk.1), EB⟩
def smW (s : List Int) (u w : Int) : Int := hor 0 s (sum8 s (dig8 s u) (dig8 s w))
def smL (s : List Int) (w n : Nat) : List Int := (List.range n).map fun (u : Nat) => smW s (u : Int) (w : Int)
theorem smL_succ (s : List Int) (w n : Nat) : smL s w (n + 1) = smL s w n ++ [smW s (n : Int) (w : Int)] := by simp [smL, List.range_succ]
theorem smL_len (s : List Int) (w n : Nat) : (smL s w n).length = n := by simp [smL]
def plW0 (s p : List Int) (x : Int) : Int := hor 0 s (ordD (dig8 s x) p p.length)
def RowOK (s : List Int) (b0 gsum P : Nat) (W : World) (i : Nat) (v : Value) : Prop :=
  ∃ (gi ci : Nat) (cs : Array Value), v = .slice (some ⟨gi, 0, none⟩) P ci ∧ P ≤ ci ∧ gi ≠ gsum ∧ b0 ≤ gi ∧ W.heap[gi]? = some (.cells cs 2 (0, 0)) ∧ ∀ u : Nat, u < P → cs[u]? = some (.int .i64 (smW s (u : Int) (i : Int)))
def Sums (s : List Int) (b0 gsum P m : Nat) (W : World) : Prop :=
  ∃ vs : List Value, vs.length = P ∧ W.heap[gsum]? = some (.cells vs.toArray 22 (0, 0)) ∧ (∀ (i : Nat) (v : Value), i < m → vs[i]? = some v → RowOK s b0 gsum P W i v) ∧ (∀ i : Nat, m ≤ i → i < P → vs[i]? = some (.slice none 0 0))
theorem RowOK_step {s : List Int} {b0 gsum P : Nat} {W W' : World} {i : Nat} {v : Value} (h : RowOK s b0 gsum P W i v) (hW : ∀ k, b0 ≤ k → k < W.heap.size → k ≠ gsum → W'.heap[k]? = W.heap[k]?) : RowOK s b0 gsum P W' i v := by
  obtain ⟨gi, ci, cs, e, h1, h2, h3, h4, h5⟩ := h
  exact ⟨gi, ci, cs, e, h1, h2, h3, (hW gi h3 (blk_lt h4) h2).trans h4, h5⟩
theorem Sums_step {s : List Int} {b0 gsum P m : Nat} {W W' : World} (h : Sums s b0 gsum P m W) (hg : b0 ≤ gsum) (hW : ∀ k, b0 ≤ k → k < W.heap.size → W'.heap[k]? = W.heap[k]?) : Sums s b0 gsum P m W' := by
  obtain ⟨vs, h1, h2, h3, h4⟩ := h
  exact ⟨vs, h1, (hW gsum hg (blk_lt h2)).trans h2, fun i v hi hv => RowOK_step (h3 i v hi hv) (fun k hk hlt _ => hW k hk hlt), h4⟩
theorem Sums_below {s : List Int} {b0 gsum P m : Nat} {W W' : World} (h : Sums s b0 gsum P m W) (hg : b0 ≤ gsum) (hb : Below W.heap.size W W') : Sums s b0 gsum P m W' := Sums_step h hg (fun k _ hlt => hb.block k hlt)
theorem getE_set {vs : List Value} {i m : Nat} {v : Value} (h : m < vs.length) : (vs.set m v)[i]? = if i = m then some v else vs[i]? := by
  by_cases e : i = m
  · subst e
    simp [h]
  · rw [if_neg e, List.getElem?_set_ne (fun h => e h.symm)]
theorem own_cells9 {w : World} {base n : Nat} {v : Value} {l : List Int} (h : w.ownsRow base 2 1 v n (nums .i64 l)) (hl : l.length = n) (hn : 0 < n) :
    ∃ (g c : Nat) (cs : Array Value), v = .slice (some ⟨g, 0, none⟩) n c ∧ n ≤ c ∧ base ≤ g ∧ w.heap[g]? = some (.cells cs 2 (0, 0)) ∧ ∀ u : Nat, u < n → cs[u]? = some (.int .i64 (rd l (u : Int))) := by
  rcases h.2 with ⟨_, h3⟩ | ⟨g, cap, cur, hv, hb, hg, h4, h5, h6, h7⟩
  · omega
  · refine ⟨g, cap, cur, hv, h4, hb, hg, fun u hu => ?_⟩
    have e1 : cur[u]? = (cur.toList.take (n * 1))[u]? := by
      rw [List.getElem?_take_of_lt (by omega)]
      simp
    rw [e1, h7]
    simp [nums, rd, List.getD_eq_getElem?_getD, hl, hu]
theorem Sums_next {s : List Int} {b0 gsum P m : Nat} {W1 W : World} {vs : List Value} {v : Value} {c : Array Value} (V1 : vs.length = P) (hm : m < P) (V3 : ∀ (i : Nat) (v : Value), i < m → vs[i]? = some v → RowOK s b0 gsum P W1 i v) (V4 : ∀ i : Nat, m ≤ i → i < P → vs[i]? = some (.slice none 0 0)) (S3 : W1.heap[b0]? = some (.cells c 28 (0, 0))) (hgs : b0 < gsum) (hgW : gsum < W1.heap.size) (hb : b0 ≤ W1.heap.size)
    (HL : W.heap[gsum]? = some (.cells (vs.set m v).toArray 22 (0, 0))) (HO : W.ownsRow W1.heap.size 2 1 v P (nums .i64 (smL s m P))) (HG : ∀ k, k < W1.heap.size → k ≠ gsum → W.heap[k]? = W1.heap[k]?) : Sums s b0 gsum P (m + 1) W := by
  refine ⟨vs.set m v, by rw [List.length_set]; exact V1, HL, fun i u hi hu => ?_, fun i hi hp => ?_⟩
  · rw [getE_set (by omega)] at hu
    by_cases e : i = m
    · subst e
      rw [if_pos rfl] at hu
      obtain rfl := Option.some.inj hu
      obtain ⟨g, cc, cs, e1, e2, e3, e4, e5⟩ := own_cells9 HO (smL_len s i P) (by omega)
      refine ⟨g, cc, cs, e1, e2, by omega, by omega, e4, fun u hu => ?_⟩
      rw [e5 u hu]
      simp [smL, rd, List.getD_eq_getElem?_getD, hu]
    · rw [if_neg e] at hu
      exact RowOK_step (V3 i u (by omega) hu) (fun k _ hk hne => HG k hk hne)
  · rw [getE_set (by omega), if_neg (by omega)]
    exact V4 i (by omega) hp
theorem rd_mem9 {l : List Int} {n : Nat} (h : n < l.length) : rd l (n : Int) ∈ l := by
  have : rd l (n : Int) = l[n] := by simp [rd, List.getD_eq_getElem?_getD, h]
  rw [this]
  exact List.getElem_mem h
theorem own_slice9 {w : World} {base n : Nat} {v : Value} {xs : List Value} {t : TypeId} (h : w.ownsRow base t 1 v n xs) : ∃ A c, v = .slice A n c := by
  rcases h.2 with ⟨h1, h2⟩ | ⟨g, cap, _, h1, _⟩
  · subst h2
    exact ⟨none, 0, h1⟩
  · exact ⟨_, _, h1⟩
theorem own_keep9 {w W : World} {base n size : Nat} {v : Value} {xs : List Value} {t : TypeId} (h : w.ownsRow base t size v n xs) (he : ∀ k, v.ownBlock = some k → W.heap[k]? = w.heap[k]?) : W.ownsRow base t size v n xs := by
  refine ⟨h.1, ?_⟩
  rcases h.2 with h1 | ⟨g, cap, cur, hv, hb, hg, hr⟩
  · exact .inl h1
  · exact .inr ⟨g, cap, cur, hv, hb, (he g (by rw [hv]; rfl)).trans hg, hr⟩
theorem own_lt10 {w : World} {base n size : Nat} {v : Value} {xs : List Value} {t : TypeId} (h : w.ownsRow base t size v n xs) : ∀ k, v.ownBlock = some k → k < w.heap.size := fun k hk => by
  rcases h.2 with ⟨h1, _⟩ | ⟨g, cap, cur, hv, hb, hg, hr⟩
  · rw [h1] at hk
    cases hk
  · rw [hv] at hk
    cases hk
    exact blk_lt hg
theorem heap_size_alloc9 (w : World) (o : Obj) : (w.alloc o).heap.size = w.heap.size + 1 := by simp
def fmL (s C : List Int) (P : Nat) (p : List Int) : List (List Int) := (List.range P).map fun (i : Nat) => (C.map (plW0 s p)).map fun u => smW s u (i : Int)
theorem grown_trans {a b c : World} {row : Option Nat} (h : a.grownBy b row) (k : b.grownBy c row) : a.grownBy c row :=
  ⟨k.os.trans h.os, k.tape.trans h.tape, k.output.trans h.output, Nat.le_trans h.size k.size, fun i hi hne => (k.block i (Nat.lt_of_lt_of_le hi h.size) hne).trans (h.block i hi hne)⟩
set_option maxHeartbeats 16000000 in
set_option maxRecDepth 100000 in
theorem forms_calls {St : Type} (KF : Nat) (caps : Array Value) (B : St → Array Value) (bt : Nat) (step : St → List Int → St) (Inv : St → Prop) (x0 : St) (A : Option Addr) (c : Nat) (s : List Int) (A1 : Option Addr) (c1 : Nat) (C : List Int) (gbox : Nat) (w0 w : World)
    (hr0 : Kd.C (Kd.int .i64) w0 A s.length s) (hc : s.length ≤ c) (hs : isSp s = true) (hr10 : Kd.C (Kd.int .i64) w0 A1 C.length C) (hc1 : C.length ≤ c1) (hCl : C.length ≤ 1048576) (hw0 : Below w0.heap.size w0 w) (hgb : w0.heap.size ≤ gbox)
    (hbox : w.heap[gbox]? = some (.cells (B x0) bt (0, 0))) (hI0 : Inv x0)
    (hPO : ∀ p ∈ kO s s.length [], p.length = s.length ∧ (∀ j : Nat, j < p.length → 0 ≤ rd p (j : Int) ∧ rd p (j : Int) < 8) ∧ ∀ x, inR s (ordD (dig8 s x) p p.length) = true)
    (hCW : ∀ x ∈ C, 0 ≤ x ∧ x ≤ 1024) (hpl : ∀ p ∈ kO s s.length [], ∀ x ∈ C, 0 ≤ plW0 s p x ∧ plW0 s p x < prd s) (hsm : ∀ u i : Int, 0 ≤ u → u < prd s → 0 ≤ i → i < prd s → 0 ≤ smW s u i ∧ smW s u i < 128)
    (he : ∀ (args : Array Value) (W : World), (callFunc KF args).run Try.prog W = .ok (.enter KF args) W)
    (hdo : ∀ (x : St) (l : List Int) (W : World), Inv x → small l → W.heap[gbox]? = some (.cells (B x) bt (0, 0)) → w.grownBy W (some gbox) → Calls Try.prog KF (#[setV l] ++ caps) W fun e w' => e = .returned (.tuple #[]) ∧ w'.heap[gbox]? = some (.cells (B (step x l)) bt (0, 0)) ∧ Inv (step x l) ∧ W.grownBy w' (some gbox)) :
    Calls Try.prog 25 #[.agg #[.slice A s.length c], .slice A1 C.length c1, .func (Fn.func KF) #[] caps] w
      fun e w' => e = .returned (.tuple #[]) ∧ w'.heap[gbox]? = some (.cells (B ((kO s s.length []).foldl (fun x p => (fmL s C (prd s).toNat p).foldl step x) x0)) bt (0, 0)) ∧ Inv ((kO s s.length []).foldl (fun x p => (fmL s C (prd s).toNat p).foldl step x) x0) ∧ w.grownBy w' (some gbox) := by
  have hr := Kd.C_below hr0 hw0
  have hr1 := Kd.C_below hr10 hw0
  have HR0 := Aside0.mk hr0
  have HR10 := Aside0.mk hr10
  have HBX := Aside0.mk hbox
  have HW0 := Aside0.mk hw0
  have HI0 := Aside0.mk hI0
  have HPO := Aside0.mk hPO
  have HCW := Aside0.mk hCW
  have HPL := Aside0.mk hpl
  have HSM := Aside0.mk hsm
  have HDO := Aside0.mk hdo
  have HE := Aside0.mk he
  clear hr0 hr10 hw0 hbox hI0 hPO hCW hpl hsm hdo he
  have huS := Try.underlying28
  have HR := Aside0.mk hr
  have HR1 := Aside0.mk hr1
  have HS := Aside0.mk hs
  have hsl := isSp_len hs
  obtain ⟨kc, hcount⟩ := (Q.count_sp hs).rounds
  have HK := Aside0.mk hcount
  have p0 := isSp_prd1 hs
  have p1 := isSp_prd hs
  obtain ⟨P, hP⟩ : ∃ P : Nat, prd s = (P : Int) := ⟨(prd s).toNat, by omega⟩
  have pP : P ≤ 1024 := by omega
  have pP0 : 1 ≤ P := by omega
  have hP2 : (prd s).toNat = P := by omega
  rw [hP] at HK HPL HSM
  rw [hP2]
  clear hr hr1 hs hcount hP hP2 p0 p1
  go_enter Try.func25, Try.ntmps25
  go_wp2_with fail
  have hB : Below w.heap.size w (w.alloc (.cells #[.slice A s.length c] 28)) := (Below.refl _ _).alloc (Nat.le_refl _) _
  refine (impl_count.calls kc A c s P _ (Kd.C_below HR.out hB) hc HK.out).mono ?_
  rintro e w2 ⟨rfl, hb⟩
  have S2 := Aside0.mk (blk_below (blk_new w (.cells #[.slice A s.length c] 28)) hb)
  have B2 := Aside0.mk (below_then hB hB.size hb)
  have hsz : w.heap.size < w2.heap.size := blk_lt S2.out
  have hmk : (Instr.makeSlice 52 (.int .i64 (P : Int)) (.int .i64 (P : Int))).run Try.prog w2 = .ok (.slice (some ⟨w2.heap.size, 0, none⟩) P P) (w2.alloc (.cells (Array.replicate P (.slice none 0 0)) 22)) := by
    obtain ⟨i0, hi, hz0, hz1, hz2⟩ := info_parts info22
    have h := run_make (P := Try.prog) w2 52 22 i0 (.slice none 0 0) Try.underlying52 hi hz0 .i64 .i64 (P : Int) (P : Int) (by omega) (by omega) (by rw [hz2]; omega) (by omega)
    rw [hz1, Int.toNat_natCast, Nat.mul_one, show (Value.slice none 0 0).cells = #[.slice none 0 0] from rfl] at h
    have e : madeCells #[.slice none 0 0] P = Array.replicate P (.slice none 0 0) := by
      apply Array.toList_inj.1
      rw [toList_madeCells_one, Array.toList_replicate]
    rw [h, e]
  clear hB hb
  go_wp2_with fail
  have S3 := Aside0.mk (blk_alloc S2.out (.cells (Array.replicate P (.slice none 0 0)) 22))
  have B3 := Aside0.mk (below_alloc B2.out (.cells (Array.replicate P (.slice none 0 0)) 22))
  have U3 : Aside0 (Sums s w.heap.size w2.heap.size P 0 (w2.alloc (.cells (Array.replicate P (.slice none 0 0)) 22))) := ⟨⟨List.replicate P (.slice none 0 0), by simp, by rw [List.toArray_replicate]; exact blk_new _ _, fun i v hi => by omega, fun i _ hi => by simp [hi]⟩⟩
  have hgs : w.heap.size < w2.heap.size := hsz
  clear hsz hmk S2 B2
  generalize w2.alloc (.cells (Array.replicate P (.slice none 0 0)) 22) = W3 at *
  generalize w2.heap.size = gsum at *
  obtain ⟨i0, hi, hz0, hz1, hz2⟩ := info_parts infoI
  have HI := Aside0.mk (And.intro hi (And.intro hz0 (And.intro hz1 hz2)))
  clear hi hz0 hz1 hz2
  go_loopw [26] (fun i W => ∃ m : Nat, m ≤ P ∧ i = .int .i64 m ∧ Aside0 (W.heap[w.heap.size]? = some (.cells #[.slice A s.length c] 28 (0, 0))) ∧ Aside0 (Sums s w.heap.size gsum P m W) ∧ Aside0 (Below w.heap.size w W)) (fun i _ => P - (intOf i).toNat)
  case atStart => exact ⟨0, by omega, rfl, S3, U3, B3⟩
  case round =>
    clear S3 U3 B3
    obtain ⟨m, hm, rfl, S3, U3, B3⟩ := hrel
    by_cases hmP : m < P
    · obtain ⟨vs, V1, V2, V3, V4⟩ := U3.out
      have V2 := Aside0.mk V2
      have V3 := Aside0.mk V3
      have hvm : vs.set m (.slice none 0 0) = vs := by
        have := V4 m (by omega) hmP
        obtain ⟨h1, h2⟩ := List.getElem?_eq_some_iff.1 this
        rw [← h2, List.set_getElem_self]
      have V4 := Aside0.mk V4
      have HL0 : Aside0 (wr.heap[gsum]? = some (.cells (vs.set m (.slice none 0 0)).toArray 22 (0, 0))) := ⟨by rw [hvm]; exact V2.out⟩
      have HO0 : Aside0 (wr.ownsRow wr.heap.size 2 1 (.slice none 0 0) 0 (nums .i64 (smL s m 0))) := ⟨World.ownsRow_nil _ _ _ _⟩
      have HB0 := B3
      clear hvm
      go_wp2_with fail
      generalize wr = W1 at *
      go_loopw [30] (fun i W => ∃ (n : Nat) (v : Value), n ≤ P ∧ i = .int .i64 n ∧ Aside0 (W.heap[gsum]? = some (.cells (vs.set m v).toArray 22 (0, 0))) ∧ Aside0 (W.ownsRow W1.heap.size 2 1 v n (nums .i64 (smL s m n))) ∧ Aside0 (W1.heap.size ≤ W.heap.size ∧ ∀ k, k < W1.heap.size → k ≠ gsum → W.heap[k]? = W1.heap[k]?) ∧ Aside0 (Below w.heap.size w W)) (fun i _ => P - (intOf i).toNat)
      case atStart => exact ⟨0, .slice none 0 0, by omega, rfl, HL0, HO0, ⟨Nat.le_refl _, fun _ _ _ => rfl⟩, HB0⟩
      case round =>
        clear HL0 HO0 HB0
        obtain ⟨n, v, hn, rfl, HL, HO, HG, HB⟩ := hrel
        by_cases hnP : n < P
        · have hgW : gsum < W1.heap.size := blk_lt V2.out
          have hvs : (vs.set m v).length = P := by rw [List.length_set]; exact V1
          have kv : wr.cell? ⟨gsum, m, none⟩ = some v := by
            rw [blk_cell HL.out m, List.getElem?_toArray, getE_set (by omega), if_pos rfl]
          have KB := Aside0.mk ((HG.out.2 w.heap.size (blk_lt S3.out) (by omega)).trans S3.out)
          have kb : wr.cell? ⟨w.heap.size, 0, none⟩ = some (.slice A s.length c) := blk_cell KB.out 0
          have HX := Aside0.mk (smL_succ s m n)
          have hC : Kd.C (Kd.int .i64) wr.drew A s.length s := Kd.C_below HR.out (below_drew HB.out)
          have hbs := HB.out.size
          have hW1 := HG.out.1
          obtain ⟨hi, hz0, hz1, hz2⟩ := HI.out
          have hlen : (smL s m n).length = n := smL_len s m n
          generalize hy : smW s (n : Int) (m : Int) = y at HX
          go_wp2_with fail
          first
          | go_region_law
              (first
                | (refine goes_ Try.func38 (by kernel_rfl) rfl #[.agg #[.slice A s.length c], .int .i64 (n : Int), .int .i64 (m : Int)] (by rfl) rfl rfl (by (try simp only [List.map_toArray, List.map_cons, List.map_nil]); first | done | rfl) ?_; refine (sumWords_calls A c s (n : Int) (m : Int) _ hC hc HS.out (by omega) (by omega) (by omega) (by omega)).mono ?_; rintro e w' ⟨rfl, hb⟩; refine ⟨_, rfl, ?_⟩; rw [show hor 0 s (sum8 s (dig8 s (n : Int)) (dig8 s (m : Int))) = y from hy]; have hL1 := blk_below (blk_drew HL.out) hb; have kv1 : w'.cell? ⟨gsum, m, none⟩ = some v := pw_cell_below hb kv; have kb1 := blk_cell (blk_below (blk_drew KB.out) hb) 0; have kv2 : (w'.alloc (.cells #[.int .i64 y] 2)).cell? ⟨gsum, m, none⟩ = some v := pw_cell_below ((Below.refl _ _).alloc (Nat.le_refl _) _) kv1; have hO1 := pw_own_below (World.ownsRow.drew HO.out) hb; have hB1 := below_then (below_drew HB.out) (below_drew HB.out).size hb; have hnew := cell_one_new9 w' (.int .i64 y) 2; have hb1 := hb.size)
                | (refine step_append_lies _ rfl (.tmp 38) (.tmp 43) 22 rfl W1.heap.size 2 i0 (.int .i64 0) 1 8 Try.underlying22 hi hz0 hz1 hz2 rfl (by decide) v n (nums .i64 (smL s m n)) rfl (own_alloc hO1 _) ⟨w'.heap.size, 0, none⟩ 1 1 [.int .i64 y] rfl rfl hnew (by simp [Value.oneCell']) (by decide) (by unfold maxLen; omega) (by omega) (by simp; have : wr.drew.heap.size = wr.heap.size := rfl; omega) (w'.heap.size + 1) (by simp) ?_; intro g cap w3 O3 G3 _ _; have hL3 := (G3.block gsum (by have := blk_lt hL1; simp only [heap_size_alloc9]; omega) (fun e => by have := own_base hO1 gsum e.symm; omega)).trans (blk_alloc hL1 (.cells #[.int .i64 y] 2)); have f3 := blk_frozen hL3 m; have c3 : w3.cell? ⟨gsum, m, none⟩ = some v := (by rw [blk_cell hL3 m, List.getElem?_toArray, getE_set (by omega), if_pos rfl]); have hOld3 : ∀ k, k < W1.heap.size → w3.heap[k]? = wr.heap[k]? := fun k hk => ((G3.block k (by have : wr.drew.heap.size = wr.heap.size := rfl; have := hb1; simp only [heap_size_alloc9]; omega) (fun e => by have := own_base hO1 k e.symm; omega)).trans ((below_alloc (Below.refl _ w') _).block k (by have : wr.drew.heap.size = wr.heap.size := rfl; omega))).trans (hb.block k (by have : wr.drew.heap.size = wr.heap.size := rfl; omega)); have hB3 := pw_below_grown (below_alloc hB1 (.cells #[.int .i64 y] 2)) _ (by have : wr.drew.heap.size = wr.heap.size := rfl; simp only [heap_size_alloc9]; omega) G3 (fun k hk => by have := own_base hO1 k hk; omega); have hg3 := own_base O3 g rfl; have hs3 := G3.size))
          | fail
          all_goals
            go_wp2
            go_roundw
            case rel =>
              refine ⟨n + 1, .slice (some ⟨g, 0, none⟩) (n + 1) cap, by omega, by go_num, ⟨blk_put hL3 m _ (by simp)⟩, ⟨?_⟩, ⟨?_, ?_⟩, ⟨below_set hB3 (by omega)⟩⟩
              · rw [HX.out, nums_append]
                exact own_step O3 (Below.heap_setCell _ _ _ _ (by show g ≠ gsum; omega))
              · have : wr.drew.heap.size = wr.heap.size := rfl
                simp at hs3
                simp [World.setCell]
                omega
              · intro k hk hne
                exact ((Below.heap_setCell _ _ _ _ hne).trans (hOld3 k hk)).trans (HG.out.2 k hk hne)
            case measure => simp [intOf]; omega
        · obtain rfl : n = P := by omega
          have U5 : Aside0 (Sums s w.heap.size gsum n (m + 1) wr) := ⟨Sums_next V1 hmP V3.out V4.out S3.out hgs (blk_lt V2.out) B3.out.size HL.out HO.out HG.out.2⟩
          have S5 := Aside0.mk ((HG.out.2 w.heap.size (blk_lt S3.out) (by omega)).trans S3.out)
          clear HL HO HG V2 V3 V4 V1
          go_wp2
          go_roundw
          case rel => exact ⟨m + 1, by omega, by go_num, S5, U5, HB⟩
          case measure => simp [intOf]; omega
    · obtain rfl : m = P := by omega
      clear HK
      have hCs : Kd.C (Kd.int .i64) wr A s.length s := Kd.C_below HR.out B3.out
      have kb : wr.cell? ⟨w.heap.size, 0, none⟩ = some (.slice A s.length c) := blk_cell S3.out 0
      go_wp2_with fail
      refine (keptOrders_calls A c s wr hCs hc hsl).mono ?_
      rintro e w4 ⟨v4, rfl, hN, hb⟩
      obtain ⟨Av, cv, rfl⟩ := Kd.N_slice hN
      have hgx := blk_lt HBX.out
      have hz := B3.out.size
      have NN := Aside0.mk (Kd.N_mono (Kd.N_lower hN hz) (fun k hk => Nat.le_trans hz hk) : Kd.N (Kd.slice 2 (Kd.int .i64)) 22 w4 w.heap.size (fun k => w.heap.size ≤ k) (.slice Av (kO s s.length []).length cv) (kO s s.length []))
      have hB4 := below_then B3.out hz hb
      have S4 := Aside0.mk (blk_below S3.out hb)
      have U4 := Aside0.mk (Sums_below U3.out (Nat.le_of_lt hgs) hb)
      have X4 := Aside0.mk ((hB4.block gbox hgx).trans HBX.out)
      have G4 := Aside0.mk (grown_of_below hB4 (some gbox))
      clear hN hb hB4 hCs kb S3 U3 B3 HBX
      have hOL := kO_len hsl s.length []
      have h8 : 8 ^ s.length ≤ 16777216 := Nat.le_trans (Nat.pow_le_pow_right (by decide) hsl) (by decide)
      obtain ⟨OR, hOR⟩ : ∃ OR, kO s s.length [] = OR := ⟨_, rfl⟩
      rw [hOR] at NN HPO HPL hOL ⊢
      have HORR := Aside0.mk hOR
      clear hOR
      have hOL2 : OR.length ≤ 16777216 := by omega
      clear hOL h8
      go_wp2_with fail
      go_loopw [51] (fun i W => ∃ j : Nat, j ≤ OR.length ∧ i = .int .i64 j ∧ Aside0 (W.heap[w.heap.size]? = some (.cells #[.slice A s.length c] 28 (0, 0))) ∧ Aside0 (Sums s w.heap.size gsum m m W) ∧ Aside0 (Kd.N (Kd.slice 2 (Kd.int .i64)) 22 W w.heap.size (fun k => w.heap.size ≤ k) (.slice Av OR.length cv) OR) ∧ Aside0 (W.heap[gbox]? = some (.cells (B ((OR.take j).foldl (fun x p => (fmL s C m p).foldl step x) x0)) bt (0, 0)) ∧ Inv ((OR.take j).foldl (fun x p => (fmL s C m p).foldl step x) x0)) ∧ Aside0 (w.grownBy W (some gbox))) (fun i _ => OR.length - (intOf i).toNat)
      case atStart => exact ⟨0, by omega, rfl, S4, U4, NN, ⟨X4.out, HI0.out⟩, G4⟩
      case round =>
        clear S4 U4 NN X4 G4
        obtain ⟨j, hj, rfl, S4, U4, NN, X4, G4⟩ := hrel
        by_cases hjO : j < OR.length
        · obtain ⟨ad, A0, c0, e1, hcell, hcl, hCp⟩ := at_L1 (Kd.N_reads' NN.out).2.2 (j : Int) (by omega) (by omega)
          subst e1
          rw [Int.toNat_natCast] at hcell
          have hmem : rd_L1 OR (j : Int) ∈ OR := by
            have : rd_L1 OR (j : Int) = OR[j] := by simp [rd_L1, List.getD_eq_getElem?_getD, hjO]
            rw [this]
            exact List.getElem_mem hjO
          have HTK : Aside0 (OR.take (j + 1) = OR.take j ++ [rd_L1 OR (j : Int)]) := ⟨by rw [List.take_succ_eq_append_getElem hjO]; simp [rd_L1, List.getD_eq_getElem?_getD, hjO]⟩
          obtain ⟨hp1, hp2, hp3⟩ := HPO.out _ hmem
          have HP2 := Aside0.mk hp2
          have HP3 := Aside0.mk hp3
          have HPLp := Aside0.mk (HPL.out _ hmem)
          generalize rd_L1 OR (j : Int) = p at *
          have HCp := Aside0.mk hCp
          have hpl8 : p.length ≤ 8 := by omega
          clear hmem hp1 hp2 hp3 hCp
          have hO0 : (wr.alloc (.cells #[] 2)).ownsRow wr.heap.size 2 1 (.slice (some ⟨wr.heap.size, 0, none⟩) 0 0) 0 (nums .i64 ((C.take 0).map (plW0 s p))) :=
            ⟨rfl, .inr ⟨wr.heap.size, 0, #[], rfl, Nat.le_refl _, blk_new wr (.cells #[] 2), by omega, by unfold maxLen; omega, rfl, rfl⟩⟩
          have HO := Aside0.mk hO0
          have HB : Aside0 (Below wr.heap.size wr (wr.alloc (.cells #[] 2))) := ⟨(Below.refl _ _).alloc (Nat.le_refl _) _⟩
          clear hO0
          go_wp2_with fail
          generalize hW1 : wr = W1 at *
          clear hW1
          go_loopw [12, 58] (fun v i W => ∃ (n : Nat) (vo : Value), n ≤ C.length ∧ vo = v ∧ i = .int .i64 n ∧ Aside0 (W.ownsRow W1.heap.size 2 1 vo n (nums .i64 ((C.take n).map (plW0 s p)))) ∧ Aside0 (Below W1.heap.size W1 W)) (fun _ i _ => C.length - (intOf i).toNat)
          case atStart => exact ⟨0, _, by omega, rfl, rfl, HO, HB⟩
          case round =>
            clear HO HB
            obtain ⟨n, vo, hn, rfl, rfl, HO, HB⟩ := hrel
            by_cases hlt : n < C.length
            · obtain ⟨ad1, e1, _⟩ := Kd.at_int HR10.out (n : Int) (by omega) (by omega)
              subst e1
              have hBw : Below w0.heap.size w0 wr := below_then (pw_below_grown HW0.out _ HW0.out.size G4.out (fun k hk => by injection hk with hk; omega)) (Nat.le_trans HW0.out.size G4.out.size) HB.out
              have hx := rd_cell HR10.out hBw n hlt
              obtain ⟨hx0, hx1⟩ := HCW.out _ (rd_mem9 hlt)
              have HX : Aside0 ((C.take (n + 1)).map (plW0 s p) = (C.take n).map (plW0 s p) ++ [plW0 s p (rd C (n : Int))]) := ⟨by rw [take_rd C hlt, List.map_append]; rfl⟩
              have HLN : Aside0 (((C.take n).map (plW0 s p)).length = n) := ⟨by rw [List.length_map, List.length_take]; omega⟩
              generalize rd C (n : Int) = x at *
              have kb : wr.cell? ⟨w.heap.size, 0, none⟩ = some (.slice A s.length c) := blk_cell (blk_below S4.out HB.out) 0
              have KB := Aside0.mk (blk_below S4.out HB.out)
              generalize hy : plW0 s p x = y at HX
              have E8 := Aside0.mk (dig8_length s x)
              have HP3x := Aside0.mk (HP3.out x)
              have hdig : dloop s s.length x (List.replicate 8 0) = dig8 s x := rfl
              have hyy : hor 0 s (ordD (dig8 s x) p p.length) = y := hy
              have HOL := Aside0.mk (ordD_length (dig8 s x) p p.length)
              have HORD : Aside0 (∀ W', Kd.C (Kd.int .i64) W' A0 p.length p → Calls Try.prog 41 #[arr8 (dig8 s x), .slice A0 p.length c0] W' fun e w' => e = .returned (arr8 (ordD (dig8 s x) p p.length)) ∧ Below W'.heap.size W' w') := ⟨fun W' h => ordered_calls (dig8 s x) p E8.out A0 c0 W' h hcl hpl8 HP2.out⟩
              have HWRD : Aside0 (∀ W', Kd.C (Kd.int .i64) W' A s.length s → Calls Try.prog 40 #[.agg #[.slice A s.length c], arr8 (ordD (dig8 s x) p p.length)] W' fun e w' => e = .returned (.int .i64 (hor 0 s (ordD (dig8 s x) p p.length))) ∧ Below W'.heap.size W' w') := ⟨fun W' h => wordOf_calls A c s _ W' h hc HS.out HOL.out HP3x.out⟩
              have HDIG : Aside0 (∀ W', Kd.C (Kd.int .i64) W' A s.length s → Calls Try.prog 42 #[.agg #[.slice A s.length c], .int .i64 x] W' fun e w' => e = .returned (arr8 (dig8 s x)) ∧ Below W'.heap.size W' w') := ⟨fun W' h => digitsOf_calls A c s x W' h hc HS.out hx0 hx1⟩
              rw [hyy] at HWRD
              generalize ordD (dig8 s x) p p.length = dO at *
              generalize dig8 s x = dI at *
              obtain ⟨hi, hz0, hz1, hz2⟩ := HI.out
              have hsz := HB.out.size
              have hd0 : wr.drew.heap.size = wr.heap.size := rfl
              have hgs1 := blk_lt S4.out
              go_wp2_with fail
              go_region_held3 (fun w' => w'.cell? ⟨w.heap.size, 0, none⟩ = some (.slice A s.length c))
                (first | exact kb | exact kb3 | exact pw_cell_below hb (by assumption) | exact pw_cell_below ((Below.refl _ _).alloc (Nat.le_refl _) _) (by assumption))
                (first
                  | (go_at_call 42; refine (HDIG.out _ (Kd.C_below HR0.out (below_drew hBw))).mono ?_; rintro e wd ⟨rfl, hb⟩; have hOd := pw_own_below (World.ownsRow.drew HO.out) hb; have hBd := below_then (below_drew HB.out) hsz hb; have hbd := hb.size)
                  | (go_at_call 41; refine (HORD.out _ (Kd.C_below HCp.out hBd)).mono ?_; rintro e wo ⟨rfl, hb⟩; have hOo := pw_own_below hOd hb; have hBo := below_then hBd hBd.size hb)
                  | (go_at_call 40; refine (HWRD.out _ (Kd.C_below HR0.out (below_then (pw_below_grown HW0.out _ HW0.out.size G4.out (fun k hk => by injection hk with hk; omega)) (Nat.le_trans HW0.out.size G4.out.size) hBo))).mono ?_; rintro e ww ⟨rfl, hb⟩; have hOw := pw_own_below hOo hb; have hBb := below_then hBo hBo.size hb; have hnew := cell_one_new9 ww (.int .i64 y) 2; have hbw := hBb.size)
                  | (refine step_append_lies _ rfl (.tmp 62) (.tmp 70) 22 rfl W1.heap.size 2 i0 (.int .i64 0) 1 8 Try.underlying22 hi hz0 hz1 hz2 rfl (by decide) vo n (nums .i64 ((C.take n).map (plW0 s p))) rfl (own_alloc hOw _) ⟨ww.heap.size, 0, none⟩ 1 1 [.int .i64 y] rfl rfl hnew (by simp [Value.oneCell']) (by decide) (by unfold maxLen; omega) (by omega) (by rw [heap_size_alloc9]; omega) (ww.heap.size + 1) (heap_size_alloc9 _ _) ?_; intro g cap w3 O3 G3 _ _; have hB3 := pw_below_grown (below_alloc hBb (.cells #[.int .i64 y] 2)) _ (by rw [heap_size_alloc9]; omega) G3 (fun k hk => own_base hOw k hk); have kb3 : w3.cell? ⟨w.heap.size, 0, none⟩ = some (.slice A s.length c) := blk_cell (blk_below S4.out hB3) 0))
              go_wp2
              go_roundw
              case rel => exact ⟨n + 1, _, by omega, rfl, by go_num, ⟨by rw [HX.out, nums_append]; exact O3⟩, ⟨hB3⟩⟩
              case measure => simp [intOf]; omega
            · obtain rfl : n = C.length := by omega
              have HTA : Aside0 ((C.take C.length).map (plW0 s p) = C.map (plW0 s p)) := ⟨by rw [List.take_length]⟩
              rw [HTA.out] at HO
              have hw1s := Nat.le_trans G4.out.size HB.out.size
              have HL := Aside0.mk (own_weaken HO.out G4.out.size)
              have S6 := Aside0.mk (blk_below S4.out HB.out)
              have U6 := Aside0.mk (Sums_below U4.out (Nat.le_of_lt hgs) HB.out)
              have N6 := Aside0.mk (Kd.N_below NN.out HB.out)
              have X6 : Aside0 (wr.heap[gbox]? = some (.cells (B (((fmL s C m p).take 0).foldl step ((OR.take j).foldl (fun x p => (fmL s C m p).foldl step x) x0))) bt (0, 0)) ∧ Inv (((fmL s C m p).take 0).foldl step ((OR.take j).foldl (fun x p => (fmL s C m p).foldl step x) x0))) := ⟨⟨(HB.out.block gbox (Nat.lt_of_lt_of_le hgx G4.out.size)).trans X4.out.1, X4.out.2⟩⟩
              have G6 := Aside0.mk (grown_trans G4.out (grown_of_below HB.out (some gbox)))
              have hLl : (C.map (plW0 s p)).length = C.length := by rw [List.length_map]
              have hfl : (fmL s C m p).length = m := by simp [fmL]
              have HFM : Aside0 (∀ i : Nat, i < m → (fmL s C m p).take (i + 1) = (fmL s C m p).take i ++ [(C.map (plW0 s p)).map fun u => smW s u (i : Int)]) := ⟨fun i hi => by rw [List.take_succ_eq_append_getElem (by omega)]; simp [fmL]⟩
              obtain ⟨Al, cl, rfl⟩ := own_slice9 HL.out
              have HPB : Aside0 (∀ u ∈ C.map (plW0 s p), 0 ≤ u ∧ u < (m : Int)) := ⟨fun u hu => by obtain ⟨x, hx, rfl⟩ := List.mem_map.1 hu; exact HPLp.out x hx⟩
              clear HO HB S4 U4 NN X4 G4 HTA hw1s HP2 HP3 HPLp HCp
              generalize hQ : C.map (plW0 s p) = Q9 at *
              clear hQ
              go_wp2_with fail
              go_loopw [75] (fun i W => ∃ k : Nat, k ≤ m ∧ i = .int .i64 k ∧ Aside0 (W.ownsRow w.heap.size 2 1 (.slice Al C.length cl) C.length (nums .i64 Q9)) ∧ Aside0 (W.heap[w.heap.size]? = some (.cells #[.slice A s.length c] 28 (0, 0))) ∧ Aside0 (Sums s w.heap.size gsum m m W) ∧ Aside0 (Kd.N (Kd.slice 2 (Kd.int .i64)) 22 W w.heap.size (fun k => w.heap.size ≤ k) (.slice (some ad) OR.length cv) OR) ∧ Aside0 (W.heap[gbox]? = some (.cells (B (((fmL s C m p).take k).foldl step ((OR.take j).foldl (fun x p => (fmL s C m p).foldl step x) x0))) bt (0, 0)) ∧ Inv (((fmL s C m p).take k).foldl step ((OR.take j).foldl (fun x p => (fmL s C m p).foldl step x) x0))) ∧ Aside0 (w.grownBy W (some gbox))) (fun i _ => m - (intOf i).toNat)
              case atStart => exact ⟨0, by omega, rfl, HL, S6, U6, N6, X6, G6⟩
              case round =>
                clear HL S6 U6 N6 X6 G6
                obtain ⟨k, hk, rfl, HL, S6, U6, N6, X6, G6⟩ := hrel
                by_cases hkm : k < m
                · obtain ⟨vs, V1, V2, V3, _⟩ := U6.out
                  obtain ⟨v, hv⟩ : ∃ v, vs[k]? = some v := ⟨vs[k]'(by omega), List.getElem?_eq_getElem _⟩
                  obtain ⟨gi, ci, cs, rfl, hci, hne, hgi, hblk, hcells⟩ := V3 k v hkm hv
                  have kv : wr.cell? ⟨gsum, k, none⟩ = some (.slice (some ⟨gi, 0, none⟩) m ci) := by rw [blk_cell V2 k, List.getElem?_toArray]; exact hv
                  have HBK := Aside0.mk hblk
                  have HCE := Aside0.mk hcells
                  have hFMk := Aside0.mk (HFM.out k hkm)
                  have hCQ : Kd.C (Kd.int .i64) wr Al Q9.length Q9 := by
                    have h1 := HL.out
                    rw [← hLl] at h1
                    exact (Kd.R_reads' (Kd.R_of_own h1 (fun _ _ => trivial) : Kd.R (Kd.int .i64) 2 wr w.heap.size (fun _ => True) _ Q9)).2.2
                  have HCQ := Aside0.mk hCQ
                  have hSMk : Aside0 (∀ u ∈ Q9, 0 ≤ smW s u (k : Int) ∧ smW s u (k : Int) < 128) := ⟨fun u hu => by have h1 := HPB.out u hu; exact HSM.out u k h1.1 h1.2 (by omega) (by omega)⟩
                  clear V3 hv hblk hcells hCQ
                  have F0 : Aside0 ((wr.alloc (.cells #[.int .u64 0, .int .u64 0] 45)).heap[wr.heap.size]? = some (.cells #[.int .u64 (lo ((Q9.take 0).map fun u => smW s u (k : Int))), .int .u64 (hi ((Q9.take 0).map fun u => smW s u (k : Int)))] 45 (0, 0))) := ⟨by simpa [lo, hi] using blk_new wr (.cells #[.int .u64 0, .int .u64 0] 45)⟩
                  have HB : Aside0 (Below wr.heap.size wr (wr.alloc (.cells #[.int .u64 0, .int .u64 0] 45))) := ⟨(Below.refl _ _).alloc (Nat.le_refl _) _⟩
                  have hsT := Try.underlying45
                  go_wp2_with fail
                  have hcw := G6.out.size
                  generalize wr = W2 at *
                  go_loopw [82] (fun i W => ∃ n : Nat, n ≤ C.length ∧ i = .int .i64 n ∧ Aside0 (W.heap[W2.heap.size]? = some (.cells #[.int .u64 (lo ((Q9.take n).map fun u => smW s u (k : Int))), .int .u64 (hi ((Q9.take n).map fun u => smW s u (k : Int)))] 45 (0, 0))) ∧ Aside0 (Below W2.heap.size W2 W)) (fun i _ => C.length - (intOf i).toNat)
                  case atStart => exact ⟨0, by omega, rfl, F0, HB⟩
                  case round =>
                    clear F0 HB
                    obtain ⟨n, hn, rfl, F0, HB⟩ := hrel
                    by_cases hlt : n < C.length
                    · obtain ⟨ad2, e2, _⟩ := Kd.at_int HCQ.out (n : Int) (by omega) (by omega)
                      subst e2
                      have hx := rd_cell HCQ.out HB.out n (by omega)
                      have HT := Aside0.mk (take_rd Q9 (show n < Q9.length by omega))
                      have hmu : rd Q9 (n : Int) ∈ Q9 := rd_mem9 (by omega)
                      have hu := HPB.out _ hmu
                      have hys := hSMk.out _ hmu
                      clear hmu
                      generalize rd Q9 (n : Int) = u at *
                      obtain ⟨U, rfl⟩ := Int.eq_ofNat_of_zero_le hu.1
                      have hU : U < m := by omega
                      have hrow : wr.cell? ⟨gi, U, none⟩ = some (.int .i64 (smW s (U : Int) (k : Int))) := by rw [blk_cell (blk_below HBK.out HB.out) U]; exact HCE.out U hU
                      have HTS : Aside0 (small ((Q9.take n).map fun u => smW s u (k : Int))) := ⟨fun y hy => by obtain ⟨x, hx, rfl⟩ := List.mem_map.1 hy; exact hSMk.out x (List.mem_of_mem_take hx)⟩
                      have hla := lo_lt HTS.out
                      have hha := hi_lt HTS.out
                      have HLS := Aside0.mk (lo_snoc ((Q9.take n).map fun u => smW s u (k : Int)) (smW s (U : Int) (k : Int)))
                      have HHS := Aside0.mk (hi_snoc ((Q9.take n).map fun u => smW s u (k : Int)) (smW s (U : Int) (k : Int)))
                      have HTM : Aside0 ((Q9.take (n + 1)).map (fun u => smW s u (k : Int)) = (Q9.take n).map (fun u => smW s u (k : Int)) ++ [smW s (U : Int) (k : Int)]) := ⟨by rw [HT.out, List.map_append]; rfl⟩
                      rw [← HTM.out] at HLS HHS
                      generalize smW s (U : Int) (k : Int) = x at *
                      generalize lo ((Q9.take n).map fun u => smW s u (k : Int)) = a at *
                      generalize hi ((Q9.take n).map fun u => smW s u (k : Int)) = b at *
                      have HB0 : Aside0 (Below W2.heap.size W2 wr) := HB
                      by_cases h64 : x < 64
                      · have hq : Int.tdiv x 64 = 0 := by rw [Int.tdiv_eq_ediv_of_nonneg hys.1]; omega
                        have hm' : Int.tmod x 64 = x := by rw [Int.tmod_eq_emod_of_nonneg hys.1]; omega
                        have hc1' : wr.cell? ⟨W2.heap.size, 0, none⟩ = some (.int .u64 a) := blk_cell F0.out 0
                        have hf1 := blk_frozen F0.out 0
                        rw [if_pos h64] at HLS HHS
                        have HEE := Aside0.mk (or_two hla (show x.toNat < 64 by omega))
                        go_wp2
                        go_region
                        rw [HEE.out]
                        go_wp2
                        go_roundw
                        case rel =>
                          refine ⟨n + 1, by omega, by go_num, ⟨?_⟩, ⟨below_drew (below_set HB.out (Nat.le_refl _))⟩⟩
                          rw [HLS.out, HHS.out]
                          exact blk_put F0.out 0 _ rfl
                        case measure => simp [intOf]; omega
                      · have hq : Int.tdiv x 64 = 1 := by rw [Int.tdiv_eq_ediv_of_nonneg hys.1]; omega
                        have hm' : Int.tmod x 64 = x - 64 := by rw [Int.tmod_eq_emod_of_nonneg hys.1]; omega
                        have hc1' : wr.cell? ⟨W2.heap.size, 1, none⟩ = some (.int .u64 b) := blk_cell F0.out 1
                        have hf1 := blk_frozen F0.out 1
                        rw [if_neg h64] at HLS HHS
                        have HEE := Aside0.mk (or_two hha (show (x - 64).toNat < 64 by omega))
                        go_wp2
                        go_region
                        rw [HEE.out]
                        go_wp2
                        go_roundw
                        case rel =>
                          refine ⟨n + 1, by omega, by go_num, ⟨?_⟩, ⟨below_drew (below_set HB.out (Nat.le_refl _))⟩⟩
                          rw [HLS.out, HHS.out]
                          exact blk_put F0.out 1 _ rfl
                        case measure => simp [intOf]; omega
                    · obtain rfl : n = C.length := by omega
                      have hTL : Q9.take C.length = Q9 := by rw [← hLl, List.take_length]
                      rw [hTL] at F0
                      have hsmall : small (Q9.map fun u => smW s u (k : Int)) := fun y hy => by obtain ⟨x, hx, rfl⟩ := List.mem_map.1 hy; exact hSMk.out x hx
                      have HCL := HDO.out _ _ wr X6.out.2 hsmall ((HB.out.block gbox (Nat.lt_of_lt_of_le hgx hcw)).trans X6.out.1) (grown_trans G6.out (grown_of_below HB.out (some gbox)))
                      have HCL := Aside0.mk HCL
                      have hee := HE.out
                      have k0 : wr.cell? ⟨W2.heap.size, 0, none⟩ = some (.int .u64 (lo (Q9.map fun u => smW s u (k : Int)))) := blk_cell F0.out 0
                      have k1 : wr.cell? ⟨W2.heap.size, 1, none⟩ = some (.int .u64 (hi (Q9.map fun u => smW s u (k : Int)))) := blk_cell F0.out 1
                      clear hTL hsmall
                      go_wp2_with fail
                      refine HCL.out.mono ?_
                      rintro e w5 ⟨rfl, hX5, hI5, hG5⟩
                      have hlt2 : ∀ x, w.heap.size ≤ x → x < W2.heap.size → w5.heap[x]? = W2.heap[x]? := fun x h1 h2 => (hG5.block x (Nat.lt_of_lt_of_le h2 HB.out.size) (fun e => by injection e with e; omega)).trans (HB.out.block x h2)
                      have X7 : Aside0 (w5.heap[gbox]? = some (.cells (B (((fmL s C m p).take (k + 1)).foldl step ((OR.take j).foldl (fun x p => (fmL s C m p).foldl step x) x0))) bt (0, 0)) ∧ Inv (((fmL s C m p).take (k + 1)).foldl step ((OR.take j).foldl (fun x p => (fmL s C m p).foldl step x) x0))) := ⟨by rw [hFMk.out, List.foldl_append]; exact ⟨hX5, hI5⟩⟩
                      have L7 := Aside0.mk (own_keep9 HL.out (fun x hx => hlt2 x (own_base HL.out x hx) (own_lt10 HL.out x hx)))
                      have S7 := Aside0.mk ((hlt2 w.heap.size (Nat.le_refl _) (blk_lt S6.out)).trans S6.out)
                      have U7 := Aside0.mk (Sums_step U6.out (Nat.le_of_lt hgs) hlt2)
                      have N7 := Aside0.mk (Kd.N_step N6.out (fun x h1 h2 => hlt2 x h1 h2))
                      have G7 := Aside0.mk (grown_trans (grown_trans G6.out (grown_of_below HB.out (some gbox))) hG5)
                      clear HL S6 U6 N6 X6 G6 HCL hX5 hI5 hG5 F0 HB k0 k1 kv
                      go_wp2
                      go_roundw
                      case rel => exact ⟨k + 1, by omega, by go_num, L7, S7, U7, N7, X7, G7⟩
                      case measure => simp [intOf]; omega
                · obtain rfl : k = m := by omega
                  have HTF : Aside0 ((fmL s C k p).take k = fmL s C k p) := ⟨List.take_of_length_le (by omega)⟩
                  rw [HTF.out] at X6
                  have X8 : Aside0 (wr.heap[gbox]? = some (.cells (B ((OR.take (j + 1)).foldl (fun x p => (fmL s C k p).foldl step x) x0)) bt (0, 0)) ∧ Inv ((OR.take (j + 1)).foldl (fun x p => (fmL s C k p).foldl step x) x0)) := ⟨by rw [HTK.out, List.foldl_append]; exact X6.out⟩
                  clear X6 HL
                  go_wp2
                  go_roundw
                  case rel => exact ⟨j + 1, by omega, by go_num, S6, U6, N6, X8, G6⟩
                  case measure => simp [intOf]; omega
        · obtain rfl : j = OR.length := by omega
          rw [List.take_length] at X4
          go_wp2
          refine bodyPost_end (results_none rfl _ _ _) rfl ?_
          rw [HORR.out]
          exact ⟨rfl, X4.out.1, X4.out.2, G4.out⟩
end Go.Proofs.Ytemjamfcepoefaa.P
set_option linter.unusedVariables false
set_option linter.unusedSimpArgs false
namespace Go.Proofs.Ytemjamfcepoefaa.Q
open Go.RowKit Go.Proofs.Ytemjamfcepoefaa.P Go.Proofs.YtemjamfcepoefaaW.PrintWords CC
def keptP (s q : List Int) : Prop := q.Nodup ∧ (∀ x ∈ q, 0 ≤ x ∧ x < s.length) ∧ ∀ j : Nat, j < q.length → rd s (rd q (j : Int)) = rd s (j : Int)
theorem rd_snoc_lt {q : List Int} {x : Int} {j : Nat} (h : j < q.length) : rd (q ++ [x]) (j : Int) = rd q (j : Int) := by
  simp [rd, List.getD_eq_getElem?_getD, List.getElem?_append_left h]
theorem rd_snoc_eq (q : List Int) (x : Int) : rd (q ++ [x]) (q.length : Int) = x := by
  simp [rd, List.getD_eq_getElem?_getD]
theorem kO_kept {s : List Int} : ∀ (d : Nat) (q p : List Int), keptP s q → q.length + d = s.length → p ∈ kO s d q → keptP s p ∧ p.length = s.length
  | 0, q, p, hq, hd, hp => by
    simp only [kO, List.mem_singleton] at hp
    subst hp
    exact ⟨hq, by omega⟩
  | d + 1, q, p, hq, hd, hp => by
    simp only [kO, List.mem_flatMap, List.mem_range] at hp
    obtain ⟨n, hn, hp⟩ := hp
    split at hp
    · rename_i hc
      refine kO_kept d (q ++ [(n : Int)]) p ⟨?_, ?_, ?_⟩ (by rw [List.length_append, List.length_singleton]; omega) hp
      · rw [List.nodup_append]
        refine ⟨hq.1, by simp, fun a ha b hb => ?_⟩
        rw [List.mem_singleton] at hb
        subst hb
        rintro rfl
        exact hc.2 ha
      · intro x hx
        rcases List.mem_append.1 hx with hx | hx
        · exact hq.2.1 x hx
        · rw [List.mem_singleton] at hx
          subst hx
          omega
      · intro j hj
        rw [List.length_append, List.length_singleton] at hj
        by_cases e : j < q.length
        · rw [rd_snoc_lt e]
          exact hq.2.2 j e
        · obtain rfl : j = q.length := by omega
          rw [rd_snoc_eq]
          exact hc.1
    · cases hp
theorem kO_all {s p : List Int} (h : p ∈ kO s s.length []) : keptP s p ∧ p.length = s.length := kO_kept s.length [] p ⟨by simp, by simp, by simp⟩ (by simp) h
theorem kO_ord {s p : List Int} (h : p ∈ kO s s.length []) : ordQ p s.length = true := by
  obtain ⟨hk, hl⟩ := kO_all h
  unfold ordQ
  rw [ordQ_of (fun x hx => by have := hk.2.1 x hx; omega) hk.1, hl]
  simp
theorem rd_ext {a b : List Int} (hl : a.length = b.length) (h : ∀ j : Nat, j < a.length → rd a (j : Int) = rd b (j : Int)) : a = b := by
  apply List.ext_getElem hl
  intro i h1 h2
  have := h i h1
  rw [rd_getElem h1, rd_getElem h2] at this
  exact this
theorem kO_osp {s p : List Int} (h : p ∈ kO s s.length []) : ospL s p = s := by
  obtain ⟨hk, hl⟩ := kO_all h
  have ho := kO_ord h
  refine rd_ext (by rw [ospL_len, hl]) (fun k hkk => ?_)
  rw [ospL_len] at hkk
  obtain ⟨j, hj, e⟩ := ordQ_onto ho hkk
  have h1 := ospL_rd ho hj
  rw [e] at h1
  have h2 := hk.2.2 j hj
  rw [e] at h2
  rw [h1, h2]
theorem plW0_eq {s p : List Int} (h : p ∈ kO s s.length []) (x : Int) : plW0 s p x = plW s p x := by
  unfold plW0 plW
  rw [kO_osp h, ordD_putN]
theorem kO_inR {s p : List Int} (hs : isSp s = true) (h : p ∈ kO s s.length []) (x : Int) : inR s (ordD (dig8 s x) p p.length) = true := by
  have h1 := putN_inR (N := 8) hs (kO_ord h) (dig8_inR hs x) (by rw [dig8_length]; exact isSp_len hs) (by rw [(kO_all h).2]; exact isSp_len hs)
  rw [kO_osp h] at h1
  rw [ordD_putN]
  exact h1
theorem plW_word {s p : List Int} (hs : isSp s = true) (h : p ∈ kO s s.length []) (x : Int) : isW s (plW s p x) = true := by
  have ho := kO_ord h
  have hl := (kO_all h).2
  rw [plW_wd hs ho, kO_osp h]
  have h1 := putN_inR (N := p.length) hs ho (inR_dg (isSp_all hs) x) (by rw [dg_length]; omega) (Nat.le_refl _)
  rw [kO_osp h] at h1
  exact wd_word (isSp_all hs) (by rw [putN_length, hl]) h1
theorem smW_eq {s : List Int} (hs : isSp s = true) (u w : Int) : smW s u w = sumW s u w := hor_sum8 hs u w
theorem kO_PO {s : List Int} (hs : isSp s = true) : ∀ p ∈ kO s s.length [], p.length = s.length ∧ (∀ j : Nat, j < p.length → 0 ≤ rd p (j : Int) ∧ rd p (j : Int) < 8) ∧ ∀ x, inR s (ordD (dig8 s x) p p.length) = true := fun p hp => by
  obtain ⟨hk, hl⟩ := kO_all hp
  refine ⟨hl, fun j hj => ?_, fun x => kO_inR hs hp x⟩
  have h1 := hk.2.1 (rd p (j : Int)) (rd_mem2 hj)
  have h2 := isSp_len hs
  omega
theorem kO_PL {s C : List Int} (hs : isSp s = true) : ∀ p ∈ kO s s.length [], ∀ x ∈ C, 0 ≤ plW0 s p x ∧ plW0 s p x < prd s := fun p hp x _ => by
  rw [plW0_eq hp]
  exact (isW_iff _ _).1 (plW_word hs hp x)
theorem smW_small {s : List Int} (hs : isSp s = true) (hp : prd s ≤ 128) : ∀ u i : Int, 0 ≤ u → u < prd s → 0 ≤ i → i < prd s → 0 ≤ smW s u i ∧ smW s u i < 128 := fun u i _ _ _ _ => by
  have := (isW_iff _ _).1 (sumW_isW hs u i)
  rw [smW_eq hs]
  omega
theorem dgr_hor : ∀ (r e : List Int), r.all sizeOk = true → e.length = r.length → inR r e = true → dgr r (hor 0 r.reverse e.reverse) = e
  | [], [], _, _, _ => rfl
  | [], x :: e, _, h, _ => by simp at h
  | q :: r, [], _, h, _ => by simp at h
  | q :: r, x :: e, hs, hl, hr => by
    simp only [List.all_cons, Bool.and_eq_true, sizeOk_iff] at hs
    simp only [inR, Bool.and_eq_true, decide_eq_true_eq] at hr
    simp only [List.length_cons] at hl
    have ih := dgr_hor r e hs.2 (by omega) hr.2
    rw [List.reverse_cons, List.reverse_cons, hor_append _ _ _ _ _ (by simp; omega)]
    generalize hor 0 r.reverse e.reverse = y at *
    simp only [hor, dgr]
    have h1 : (y * q + x) % q = x := by rw [Int.add_comm, Int.add_mul_emod_self_right]; exact Int.emod_eq_of_lt hr.1.1 hr.1.2
    have h2 : (y * q + x) / q = y := by
      rw [Int.add_comm, Int.add_mul_ediv_right _ _ (by omega), Int.ediv_eq_zero_of_lt hr.1.1 hr.1.2, Int.zero_add]
    rw [h1, h2, ih]
theorem dg_wd {s d : List Int} (hs : s.all sizeOk = true) (hl : d.length = s.length) (hr : inR s d = true) : dg s (wd s d) = d := by
  have h := dgr_hor s.reverse d.reverse (by rw [List.all_reverse]; exact hs) (by simp [hl]) (by rw [inR_reverse _ _ hl.symm]; exact hr)
  rw [List.reverse_reverse, List.reverse_reverse] at h
  unfold dg wd
  rw [h, List.reverse_reverse]
theorem dg_inj9 {s : List Int} (hs : isSp s = true) {x y : Int} (hx : isW s x = true) (hy : isW s y = true) (h : dg s x = dg s y) : x = y := by
  have h1 := (isW_iff _ _).1 hx
  have h2 := (isW_iff _ _).1 hy
  rw [← wd_dg (isSp_all hs) h1.1 h1.2, ← wd_dg (isSp_all hs) h2.1 h2.2, h]
theorem putN_inj {p : List Int} {n : Int} (ho : ordQ p n = true) {N : Nat} (hN : p.length ≤ N) {a b : List Int} (ha : a.length = p.length) (hb : b.length = p.length) (h : putN N a p p.length = putN N b p p.length) : a = b := by
  obtain ⟨hl, hn, hbd, hp⟩ := ordQ_facts ho
  refine rd_ext (by omega) (fun j hj => ?_)
  have hr := ordQ_rd ho j (by omega)
  have h1 := putN_rd hn (fun x hx => (hbd x hx).1) N a p.length (Nat.le_refl _) j (by omega) (by omega)
  have h2 := putN_rd hn (fun x hx => (hbd x hx).1) N b p.length (Nat.le_refl _) j (by omega) (by omega)
  rw [← h1, ← h2, h]
theorem plW_inj {s p : List Int} (hs : isSp s = true) (h : p ∈ kO s s.length []) {x y : Int} (hx : isW s x = true) (hy : isW s y = true) (e : plW s p x = plW s p y) : x = y := by
  have ho := kO_ord h
  have hl := (kO_all h).2
  have key : ∀ z, dg s (plW s p z) = putN p.length (dg s z) p p.length := fun z => by
    have h1 := putN_inR (N := p.length) hs ho (inR_dg (isSp_all hs) z) (by rw [dg_length]; omega) (Nat.le_refl _)
    rw [kO_osp h] at h1
    rw [plW_wd hs ho, kO_osp h, dg_wd (isSp_all hs) (by rw [putN_length, hl]) h1]
  have h1 := congrArg (dg s) e
  rw [key, key] at h1
  exact dg_inj9 hs hx hy (putN_inj ho (Nat.le_refl _) (by rw [dg_length, hl]) (by rw [dg_length, hl]) h1)
theorem sumW_inj {s : List Int} (hs : isSp s = true) (w : Int) {x y : Int} (hx : isW s x = true) (hy : isW s y = true) (e : sumW s x w = sumW s y w) : x = y := by
  have key : ∀ z, dg s (sumW s z w) = sumL s (dg s z) (dg s w) := fun z => dg_wd (isSp_all hs) (sumL_length _ _ _) (sumL_inR (isSp_all hs) _ _)
  have h1 := congrArg (dg s) e
  rw [key, key] at h1
  refine dg_inj9 hs hx hy (rd_ext (by rw [dg_length, dg_length]) (fun k hk => ?_))
  rw [dg_length] at hk
  have h2 := congrArg (fun l => rd l (k : Int)) h1
  simp only [sumL] at h2
  rw [genL_rd _ hk, genL_rd _ hk] at h2
  have hq := all_rd (isSp_all hs) hk
  have a := inR_rd s (dg s x) k (inR_dg (isSp_all hs) x) hk (by rw [dg_length]; exact hk)
  have b := inR_rd s (dg s y) k (inR_dg (isSp_all hs) y) hk (by rw [dg_length]; exact hk)
  have c := inR_rd s (dg s w) k (inR_dg (isSp_all hs) w) hk (by rw [dg_length]; exact hk)
  generalize rd (dg s x) (k : Int) = p at *
  generalize rd (dg s y) (k : Int) = q at *
  generalize rd (dg s w) (k : Int) = r at *
  generalize rd s (k : Int) = n at *
  rcases hq with rfl | rfl | rfl <;> omega
theorem ordL_len_inj {f : Int → Int} : ∀ {l : List Int}, l.Nodup → (∀ x ∈ l, ∀ y ∈ l, f x = f y → x = y) → (ordL (l.map f)).length = l.length := fun {l} hn hf => by
  have h1 : (l.map f).Nodup := by
    rw [List.nodup_iff_pairwise_ne, List.pairwise_map]
    exact (List.pairwise_iff_getElem.2 fun i j hi hj hij e => by
      have := hf _ (List.getElem_mem hi) _ (List.getElem_mem hj) e
      have := (List.getElem_inj hn).1 this
      omega)
  have h2 : (msort (l.map f)).Nodup := (msort_perm _).nodup_iff.2 h1
  have h3 := ordL_asc (pw_lt_of (msort_pw (l.map f)) h2)
  have h4 : ordL (l.map f) = msort (l.map f) := by
    rw [← h3]
    refine ordL_of (ordL_pw _) (fun y => ?_)
    rw [ordL_mem, msort_mem]
  rw [h4, msort_length, List.length_map]
theorem pw_nodup {l : List Int} (h : l.Pairwise (· < ·)) : l.Nodup := h.imp (fun h e => by omega)
end Go.Proofs.Ytemjamfcepoefaa.Q
set_option linter.unusedVariables false
set_option linter.unusedSimpArgs false
namespace Go.Proofs.Ytemjamfcepoefaa.P
open Go.RowKit Go.Proofs.YtemjamfcepoefaaW.PrintWords Go.Proofs.YtemjamfcepoefaaW.PrintLast Go.Proofs.YtemjamfcepoefaaW.PrintMore CC
theorem grown_set9 (w : World) (g i : Nat) (v : Value) : w.grownBy (w.setCell ⟨g, i, none⟩ v) (some g) := ⟨rfl, rfl, rfl, by simp [World.setCell], fun k _ hne => Below.heap_setCell _ _ _ _ (fun e => hne (by rw [e]))⟩
def stepL (x l : List Int) : List Int := if cbf (lo l) (hi l) (lo x) (hi x) = true then l else x
def cellsL (x : List Int) : Array Value := #[.int .u64 (lo x), .int .u64 (hi x)]
set_option maxHeartbeats 4000000 in
set_option maxRecDepth 100000 in
theorem least1_calls (gb : Nat) (x l : List Int) (w : World) (hx : small x) (hl : small l) (hb : w.heap[gb]? = some (.cells (cellsL x) 45 (0, 0))) :
    Calls Try.prog 43 (#[setV l] ++ #[.pointer (some ⟨gb, 0, none⟩)]) w
      fun e w' => e = .returned (.tuple #[]) ∧ w'.heap[gb]? = some (.cells (cellsL (stepL x l)) 45 (0, 0)) ∧ small (stepL x l) ∧ w.grownBy w' (some gb) := by
  have huT := Try.underlying45
  have hlt := blk_lt hb
  have HX := Aside0.mk hx
  have HL := Aside0.mk hl
  have HC := Aside0.mk (comesBefore_calls (lo l) (hi l) (lo x) (hi x) (lo_lt hl) (hi_lt hl) (lo_lt hx) (hi_lt hx))
  obtain ⟨bq, hbq⟩ : ∃ bq, cbf (lo l) (hi l) (lo x) (hi x) = bq := ⟨_, rfl⟩
  have HST : Aside0 (stepL x l = if bq = true then l else x) := ⟨by unfold stepL; rw [hbq]⟩
  rw [hbq] at HC
  have hB0 : (w.alloc (.cells (cellsL l) 45)).heap[gb]? = some (.cells (cellsL x) 45 (0, 0)) := blk_alloc hb _
  have hF0 : (w.alloc (.cells (cellsL l) 45)).heap[w.heap.size]? = some (.cells (cellsL l) 45 (0, 0)) := blk_new _ _
  have hBe : Below w.heap.size w (w.alloc (.cells (cellsL l) 45)) := (Below.refl _ _).alloc (Nat.le_refl _) _
  unfold cellsL at hB0 hF0 hBe
  have k0 := blk_cell hB0 0
  have k1 := blk_cell hB0 1
  have q0 := blk_cell hF0 0
  have q1 := blk_cell hF0 1
  have k0 : (w.alloc (.cells #[.int .u64 (lo l), .int .u64 (hi l)] 45)).cell? ⟨gb, 0, none⟩ = some (.int .u64 (lo x)) := blk_cell hB0 0
  have k1 : (w.alloc (.cells #[.int .u64 (lo l), .int .u64 (hi l)] 45)).cell? ⟨gb, 1, none⟩ = some (.int .u64 (hi x)) := blk_cell hB0 1
  have hB0 := Aside0.mk hB0
  have hF0 := Aside0.mk hF0
  have hBe := Aside0.mk hBe
  show Calls Try.prog 43 #[.agg #[.int .u64 (lo l), .int .u64 (hi l)], .pointer (some ⟨gb, 0, none⟩)] w _
  clear hx hl hbq hb
  go_enter Try.func43, Try.ntmps43
  go_wp2_with fail
  refine (HC.out _).mono ?_
  rintro e w2 ⟨rfl, hb⟩
  have hB2 := blk_below hB0.out hb
  have hF2 := blk_below hF0.out hb
  have hBe2 := below_then hBe.out hBe.out.size hb
  have k0 : w2.cell? ⟨gb, 0, none⟩ = some (.int .u64 (lo x)) := blk_cell hB2 0
  have k1 : w2.cell? ⟨gb, 1, none⟩ = some (.int .u64 (hi x)) := blk_cell hB2 1
  have f0 : w2.frozen? ⟨gb, 0, none⟩ = false := blk_frozen hB2 0
  have f1 : w2.frozen? ⟨gb, 1, none⟩ = false := blk_frozen hB2 1
  have q0 : w2.cell? ⟨w.heap.size, 0, none⟩ = some (.int .u64 (lo l)) := blk_cell hF2 0
  have q1 : w2.cell? ⟨w.heap.size, 1, none⟩ = some (.int .u64 (hi l)) := blk_cell hF2 1
  clear hB0 hF0 hBe hb HC
  cases bq with
  | false =>
    go_wp2
    refine bodyPost_end (results_none rfl _ _ _) rfl ?_
    rw [HST.out, if_neg (by simp)]
    exact ⟨rfl, hB2, HX.out, grown_of_below hBe2 _⟩
  | true =>
    go_wp2
    refine bodyPost_end (results_none rfl _ _ _) rfl ?_
    have HS2 : stepL x l = l := by rw [HST.out]; simp
    rw [HS2]
    refine ⟨rfl, ?_, HL.out, grown_trans (grown_trans (grown_of_below hBe2 _) (grown_set9 _ _ _ _)) (grown_set9 _ _ _ _)⟩
    exact blk_put (blk_put hB2 0 (.int .u64 (lo l)) rfl) 1 (.int .u64 (hi l)) rfl
def allF {St : Type} (step : St → List Int → St) (s C : List Int) (x0 : St) : St := (kO s s.length []).foldl (fun x p => (fmL s C (prd s).toNat p).foldl step x) x0
set_option maxHeartbeats 4000000 in
set_option maxRecDepth 100000 in
theorem leastForm_calls (A : Option Addr) (c : Nat) (s : List Int) (A1 : Option Addr) (c1 : Nat) (C : List Int) (w : World)
    (hr : Kd.C (Kd.int .i64) w A s.length s) (hc : s.length ≤ c) (hs : isSp s = true) (hr1 : Kd.C (Kd.int .i64) w A1 C.length C) (hc1 : C.length ≤ c1) (hCl : C.length ≤ 1048576) (hsC : small C) (hCW : ∀ x ∈ C, 0 ≤ x ∧ x ≤ 1024)
    (hPO : ∀ p ∈ kO s s.length [], p.length = s.length ∧ (∀ j : Nat, j < p.length → 0 ≤ rd p (j : Int) ∧ rd p (j : Int) < 8) ∧ ∀ x, inR s (ordD (dig8 s x) p p.length) = true)
    (hpl : ∀ p ∈ kO s s.length [], ∀ x ∈ C, 0 ≤ plW0 s p x ∧ plW0 s p x < prd s) (hsm : ∀ u i : Int, 0 ≤ u → u < prd s → 0 ≤ i → i < prd s → 0 ≤ smW s u i ∧ smW s u i < 128) :
    Calls Try.prog 28 #[.agg #[.slice A s.length c], .slice A1 C.length c1] w
      fun e w' => e = .returned (setV (allF stepL s C C)) ∧ small (allF stepL s C C) ∧ Below w.heap.size w w' := by
  have huS := Try.underlying28
  have huT := Try.underlying45
  have HR := Aside0.mk hr
  have HR1 := Aside0.mk hr1
  have HSC := Aside0.mk hsC
  have HF : Aside0 (∀ (gb : Nat) (w' : World), Below w.heap.size w w' → w.heap.size ≤ gb → w'.heap[gb]? = some (.cells (cellsL C) 45 (0, 0)) → Calls Try.prog 25 #[.agg #[.slice A s.length c], .slice A1 C.length c1, .func (Fn.func 43) #[] #[.pointer (some ⟨gb, 0, none⟩)]] w' fun e w2 => e = .returned (.tuple #[]) ∧ w2.heap[gb]? = some (.cells (cellsL (allF stepL s C C)) 45 (0, 0)) ∧ small (allF stepL s C C) ∧ w'.grownBy w2 (some gb)) :=
    ⟨fun gb w' hB hg hb => forms_calls 43 #[.pointer (some ⟨gb, 0, none⟩)] cellsL 45 stepL small C A c s A1 c1 C gb w w' hr hc hs hr1 hc1 hCl hB hg hb hsC hPO hCW hpl hsm (fun args W => enters_ (P := Try.prog) Try.func43 rfl rfl args W)
      (fun x l W hx hl hbx _ => least1_calls gb x l W hx hl hbx)⟩
  clear hr hr1 hPO hpl hsm hsC hCW
  go_enter Try.func28, Try.ntmps28
  have hB0 := below_alloc ((Below.refl w.heap.size w).alloc (Nat.le_refl _) (.cells #[.slice A s.length c] 28)) (.cells #[.int .u64 0, .int .u64 0] 45)
  go_wp2_with fail
  refine (setOf_calls A1 c1 C _ (Kd.C_below HR1.out hB0) hc1 HSC.out hCl).mono ?_
  rintro e w2 ⟨rfl, hb⟩
  have K0 := Aside0.mk (blk_below (blk_alloc (blk_new w (.cells #[.slice A s.length c] 28)) (.cells #[.int .u64 0, .int .u64 0] 45)) hb)
  have K1 : Aside0 (w2.heap[w.heap.size + 1]? = some (.cells #[.int .u64 0, .int .u64 0] 45 (0, 0))) := ⟨blk_below (by simpa using blk_new (w.alloc (.cells #[.slice A s.length c] 28)) (.cells #[.int .u64 0, .int .u64 0] 45)) hb⟩
  have B2 := Aside0.mk (below_then hB0 hB0.size hb)
  clear hB0 hb
  unfold setV
  have kb : (w2.alloc (.cells #[.int .u64 (lo C), .int .u64 (hi C)] 45)).cell? ⟨w.heap.size, 0, none⟩ = some (.slice A s.length c) := blk_cell (blk_alloc K0.out _) 0
  go_wp2_with fail
  have hlt0 := blk_lt K0.out
  have hlt1 := blk_lt K1.out
  refine (HF.out w2.heap.size _ (below_alloc B2.out _) B2.out.size (blk_new w2 (.cells (cellsL C) 45))).mono ?_
  rintro e w4 ⟨rfl, hX, hS, hG⟩
  obtain ⟨R, hR⟩ : ∃ R, allF stepL s C C = R := ⟨_, rfl⟩
  rw [hR] at hX hS
  have K4 : w4.heap[w.heap.size + 1]? = some (.cells #[.int .u64 0, .int .u64 0] 45 (0, 0)) := (hG.block _ (by rw [heap_size_alloc9]; omega) (fun e => by injection e with e; omega)).trans (blk_alloc K1.out _)
  have B4 : Below w.heap.size w w4 := pw_below_grown (below_alloc B2.out _) _ (by rw [heap_size_alloc9]; omega) hG (fun k hk => by injection hk with hk; omega)
  have k0 : w4.cell? ⟨w2.heap.size, 0, none⟩ = some (.int .u64 (lo R)) := blk_cell hX 0
  have k1 : w4.cell? ⟨w2.heap.size, 1, none⟩ = some (.int .u64 (hi R)) := blk_cell hX 1
  have q0 : w4.cell? ⟨w.heap.size + 1, 0, none⟩ = some (.int .u64 0) := blk_cell K4 0
  have q1 : w4.cell? ⟨w.heap.size + 1, 1, none⟩ = some (.int .u64 0) := blk_cell K4 1
  have hf := fun i => blk_frozen K4 i
  go_wp2
  refine bodyPost_ret (v := setV R) (by simp [results, Try.results28, go_sem, setV, q0, q1]) rfl ⟨by rw [hR], by rw [hR]; exact hS, ?_⟩
  repeat (refine below_set ?_ (by omega))
  exact B4
end Go.Proofs.Ytemjamfcepoefaa.P
set_option linter.unusedVariables false
set_option linter.unusedSimpArgs false
namespace Go.Proofs.Ytemjamfcepoefaa.Q
open Go.RowKit Go.Proofs.Ytemjamfcepoefaa.P Go.Proofs.YtemjamfcepoefaaW.PrintWords CC
theorem l01Has_l {D : List Int} (hD : D.length ≤ 1048576) (x : Int) : ∀ (m n : Nat), n + m = D.length → Ev (fun k => spec_l01Has.l0 k D x (n : Int)) (decide (x ∈ D.drop n))
  | 0, n, hm => by
    refine Ev.step (fun k => by simp only [spec_l01Has.l0]; exact rfl) ?_
    refine Ev.iff_neg (by omega) ?_
    rw [drop_all (by omega)]
    exact Ev.now _
  | m + 1, n, hm => by
    have hn : n < D.length := by omega
    have ih := l01Has_l hD x m (n + 1) (by omega)
    refine Ev.step (fun k => by simp only [spec_l01Has.l0]; exact rfl) ?_
    refine Ev.iff_pos (by omega) ?_
    refine Ev.iff_pos (by omega) ?_
    rw [drop_cons D hn]
    by_cases h : rd D (n : Int) = x
    · refine Ev.iff_pos h ?_
      have e : decide (x ∈ rd D (n : Int) :: D.drop (n + 1)) = true := by simp [h]
      rw [e]
      exact Ev.now _
    · refine Ev.iff_neg h ?_
      have e : decide (x ∈ rd D (n : Int) :: D.drop (n + 1)) = decide (x ∈ D.drop (n + 1)) := by
        have : ¬ x = rd D (n : Int) := fun e => h e.symm
        simp [this]
      rw [e, wrap_nat (by unfold maxLen; omega)]
      exact ih
theorem l01Has_ev {D : List Int} (hD : D.length ≤ 1048576) (x : Int) : Ev (fun k => spec_l01Has.f k D x) (decide (x ∈ D)) := by
  unfold spec_l01Has.f
  have := l01Has_l hD x D.length 0 (by omega)
  rw [List.drop_zero] at this
  exact this
def rTwo (s C D : List Int) : Int := if Q.rCode s C [] = 0 then Q.rCode s D [] else Q.rCode s C []
theorem l03Two_ev (s : List Int) {C D : List Int} (hC : C.length ≤ 1048576) (hD : D.length ≤ 1048576) : Ev (fun k => spec_l03Two.f k s C D) (rTwo s C D) := by
  unfold spec_l03Two.f rTwo
  refine Ev.bind (l01Given_ev s hC) ?_
  by_cases h : rCode s C [] = 0
  · simp only [if_pos h]
    exact Ev.bind (l01Given_ev s hD) (Ev.now _)
  · simp only [if_neg h]
    exact Ev.now _
theorem specFew_ev (s : List Int) {C D : List Int} (hC : C.length ≤ 1048576) (hD : D.length ≤ 1048576) : Ev (fun k => spec_l03Few.f k s C D) (rF2 s C D) := by
  unfold spec_l03Few.f
  refine Ev.bind (l03Two_ev s hC hD) ?_
  unfold rTwo rF2
  by_cases h1 : rCode s C [] = 0
  · rw [if_pos h1, if_pos h1]
    by_cases h2 : rCode s D [] = 0
    · refine Ev.iff_pos h2 ?_
      refine Ev.bind (l01N_sp (rCode_zero h2).1) ?_
      unfold rF1
      rw [if_pos h2, h2]
      by_cases h3 : prd s > 81
      · simp only [if_pos h3]
        exact Ev.now _
      · simp only [if_neg h3]
        exact Ev.now _
    · refine Ev.iff_neg h2 ?_
      unfold rF1
      rw [if_neg h2]
      exact Ev.now _
  · rw [if_neg h1, if_neg h1]
    refine Ev.iff_neg h1 (Ev.now _)
theorem rF2_same (s C : List Int) : rF2 s C C = rF1 s C := by
  unfold rF2 rF1
  by_cases h : rCode s C [] = 0
  · rw [if_pos h]
  · rw [if_neg h, if_neg h]
theorem drop_rd {l : List Int} {n : Nat} (h : n < l.length) : l.drop n = rd l (n : Int) :: l.drop (n + 1) := by
  rw [List.drop_eq_getElem_cons h]
  simp [rd, List.getD_eq_getElem?_getD, h]
theorem l03Before_l {a b : List Int} (hl : a.length = b.length) (hs : a.length ≤ 1048576) : ∀ (k n : Nat), n + k = a.length → Ev (fun j => spec_l03Before.l0 j a b (a.length : Int) (n : Int)) (befL (a.drop n) (b.drop n))
  | 0, n, h => by
    refine Ev.step (fun k => by simp only [spec_l03Before.l0]; exact rfl) (Ev.iff_neg (by omega) ?_)
    rw [List.drop_of_length_le (by omega)]
    unfold befL
    exact Ev.now _
  | k + 1, n, h => by
    have ih := l03Before_l hl hs k (n + 1) (by omega)
    refine Ev.step (fun k => by simp only [spec_l03Before.l0]; exact rfl) (Ev.iff_pos (by omega) (Ev.iff_pos (by omega) (Ev.iff_pos (by omega) (Ev.iff_pos (by omega) ?_))))
    rw [drop_rd (show n < a.length by omega), drop_rd (show n < b.length by omega)]
    unfold befL
    by_cases e : rd a (n : Int) = rd b (n : Int)
    · refine Ev.iff_pos e ?_
      rw [if_neg (by simpa using e), wrap_nat (by unfold maxLen; omega)]
      exact ih
    · refine Ev.iff_neg e ?_
      rw [if_pos e]
      exact Ev.now _
theorem l03Before_ev {a b : List Int} (hl : a.length = b.length) (hs : a.length ≤ 1048576) : Ev (fun k => spec_l03Before.f k a b) (befL a b) := by
  unfold spec_l03Before.f
  simpa using l03Before_l hl hs a.length 0 (by omega)
theorem specO_l {s : List Int} (hs : s.length ≤ 8) (d : Nat) {q : List Int} (hq : q.length + (d + 1) = s.length) (ih : ∀ x : Int, Ev (fun k => spec_l03Orders.f k s (q ++ [x])) (kO s d (q ++ [x]))) : ∀ (k m : Nat), m + k = s.length →
    Ev (fun j => spec_l03Orders.l0 j q (kP s d q m) (m : Int) s) (kP s d q s.length)
  | 0, m, h => by
    obtain rfl : m = s.length := by omega
    exact Ev.step (fun k => by simp only [spec_l03Orders.l0]; exact rfl) (Ev.iff_neg (by omega) (Ev.now _))
  | k + 1, m, h => by
    have rc9 := specO_l hs d hq ih k (m + 1) (by omega)
    rw [kP_succ] at rc9
    have hb := kP_len hs d q m
    have hg := kO_len hs d (q ++ [(m : Int)])
    have h8 : 8 ^ (d + 1) ≤ 16777216 := Nat.le_trans (Nat.pow_le_pow_right (by decide) (show d + 1 ≤ 8 by omega)) (by decide)
    have hm8 : m * 8 ^ d ≤ 8 * 8 ^ d := Nat.mul_le_mul_right _ (by omega)
    rw [Nat.pow_succ] at h8
    have skip : ¬ (rd s (m : Int) = rd s (q.length : Int) ∧ ¬ (m : Int) ∈ q) → Ev (fun j => spec_l03Orders.j1 j q (kP s d q m) (m : Int) false s) (kP s d q s.length) := fun hn => by
      have e : kG s d q m = [] := by unfold kG; rw [if_neg hn]
      rw [e, List.append_nil] at rc9
      refine Ev.step (fun k => by simp only [spec_l03Orders.j1]; exact rfl) ?_
      refine Ev.iff_neg (by simp) ?_
      rw [wrap_nat (by unfold maxLen; omega)]
      exact rc9
    refine Ev.step (fun k => by simp only [spec_l03Orders.l0]; exact rfl) (Ev.iff_pos (by omega) ?_)
    refine Ev.bind (l01Has_ev (D := q) (by omega) _) ?_
    by_cases hm : (m : Int) ∈ q
    · refine Ev.iff_pos (decide_eq_true hm) ?_
      exact skip (fun h => h.2 hm)
    · refine Ev.iff_neg (by simpa using hm) (Ev.iff_pos (by omega) (Ev.iff_pos (by omega) (Ev.iff_pos (by omega) ?_)))
      by_cases e : rd s (m : Int) = rd s (q.length : Int)
      · have eb : (rd s (m : Int) == rd s (q.length : Int)) = true := beq_iff_eq.mpr e
        rw [eb]
        have eg : kG s d q m = kO s d (q ++ [(m : Int)]) := by unfold kG; rw [if_pos ⟨e, hm⟩]
        rw [eg] at rc9
        refine Ev.step (fun k => by simp only [spec_l03Orders.j1]; exact rfl) ?_
        refine Ev.iff_pos (by first | rfl | trivial) ?_
        refine Ev.bindc (l01Own_eq q (by omega)) (Ev.bindc rfl (Ev.iff_pos (by simp; omega) ?_))
        refine Ev.bind (ih _) (Ev.iff_pos (by omega) ?_)
        rw [wrap_nat (by unfold maxLen; omega)]
        exact rc9
      · have eb : (rd s (m : Int) == rd s (q.length : Int)) = false := beq_eq_false_iff_ne.mpr e
        rw [eb]
        exact skip (fun h => e h.1)
theorem specO_ev {s : List Int} (hs : s.length ≤ 8) : ∀ (d : Nat) (q : List Int), q.length + d = s.length → Ev (fun k => spec_l03Orders.f k s q) (kO s d q)
  | 0, q, h => by
    refine Ev.step (fun k => by simp only [spec_l03Orders.f]; exact rfl) (Ev.iff_pos (by omega) ?_)
    exact Ev.now _
  | d + 1, q, h => by
    refine Ev.step (fun k => by simp only [spec_l03Orders.f]; exact rfl) (Ev.iff_neg (by omega) ?_)
    exact specO_l hs d h (fun x => specO_ev hs d (q ++ [x]) (by rw [List.length_append, List.length_singleton]; omega)) s.length 0 (by omega)
theorem pw_asc : ∀ {l : List Int}, l.Pairwise (· < ·) → asc l = true
  | [], _ => rfl
  | [a], _ => rfl
  | a :: b :: t, h => by
    rw [List.pairwise_cons] at h
    simp only [asc, Bool.and_eq_true, decide_eq_true_eq]
    exact ⟨h.1 b (by simp), pw_asc h.2⟩
def stepS (b l : List Int) : List Int := if befL (ordL l) b = true then ordL l else b
def stepK (c : List Int) (k : Int) (l : List Int) : Int := if befL (ordL l) c = true then k else if befL c (ordL l) = true then k else wrap64 (k + 1)
def stP (c : List Int) (x : List Int × Int) (l : List Int) : List Int × Int := (stepS x.1 l, stepK c x.2 l)
def formL (s c p : List Int) (i : Int) : List Int := (c.map (plW0 s p)).map fun u => smW s u i
theorem fmL_rd (s c p : List Int) {P i : Nat} (h : i < P) : (fmL s c P p).drop i = formL s c p (i : Int) :: (fmL s c P p).drop (i + 1) := by
  have hl : (fmL s c P p).length = P := by simp [fmL]
  rw [List.drop_eq_getElem_cons (by omega)]
  simp [fmL, formL]
theorem own_isC {s c p : List Int} (hs : isSp s = true) (hp : p ∈ kO s s.length []) : isC s (ordL (c.map (plW s p))) = true := by
  unfold isC
  rw [Bool.and_eq_true, List.all_eq_true]
  refine ⟨fun y hy => ?_, pw_asc (ordL_pw _)⟩
  rw [ordL_mem, List.mem_map] at hy
  obtain ⟨x, _, rfl⟩ := hy
  exact plW_word hs hp x
theorem form_ord {s c p : List Int} (hp : p ∈ kO s s.length []) (i : Int) : ordL ((ordL (c.map (plW s p))).map (shW s i)) = ordL (formL s c p i) := by
  refine ordL_of (ordL_pw _) (fun y => ?_)
  rw [ordL_mem]
  unfold formL
  simp only [List.mem_map, ordL_mem]
  constructor
  · rintro ⟨u, ⟨x, hx, rfl⟩, rfl⟩
    exact ⟨plW s p x, ⟨x, hx, plW0_eq hp x⟩, rfl⟩
  · rintro ⟨u, ⟨x, hx, rfl⟩, rfl⟩
    exact ⟨plW0 s p x, ⟨x, hx, (plW0_eq hp x).symm⟩, rfl⟩
theorem form_len {s c p : List Int} (hs : isSp s = true) (hc : isC s c = true) (hp : p ∈ kO s s.length []) {i : Int} : (ordL (formL s c p i)).length = c.length := by
  unfold formL
  rw [List.map_map]
  refine ordL_len_inj (pw_nodup (asc_pw (isC_asc hc))) (fun x hx y hy e => ?_)
  have hx := isC_words hc x hx
  have hy := isC_words hc y hy
  simp only [Function.comp] at e
  rw [smW_eq hs, smW_eq hs, plW0_eq hp, plW0_eq hp] at e
  exact plW_inj hs hp hx hy (sumW_inj hs i (plW_word hs hp x) (plW_word hs hp y) e)
theorem stepS_len {s c p b : List Int} (hs : isSp s = true) (hc : isC s c = true) (hp : p ∈ kO s s.length []) (i : Int) (hb : b.length = c.length) : (stepS b (formL s c p i)).length = c.length := by
  unfold stepS
  split
  · exact form_len hs hc hp
  · exact hb
theorem specL_l1 {s c p : List Int} (hs : isSp s = true) (hc : isC s c = true) (hp : p ∈ kO s s.length []) {P : Nat} (hP : (P : Int) = prd s) (OR : List (List Int)) (L j0 : Int) {r : List Int × Int} : ∀ (k m : Nat) (b : List Int) (kp : Int), m + k = P → b.length = c.length →
    Ev (fun j => spec_l03Least.l0 j c (((fmL s c P p).drop m).foldl (stP c) (b, kp)).1 (((fmL s c P p).drop m).foldl (stP c) (b, kp)).2 OR L (wrap64 (j0 + 1)) s) r →
    Ev (fun j => spec_l03Least.l1 j c b kp OR (ordL (c.map (plW s p))) (m : Int) L j0 s) r
  | 0, m, b, kp, hm, hb, hnext => by
    have hN := isSp_prd hs
    rw [List.drop_of_length_le (by simp [fmL]; omega)] at hnext
    refine Ev.step (fun k => by simp only [spec_l03Least.l1]; exact rfl) ?_
    refine Ev.bind (l01N_sp hs) ?_
    refine Ev.iff_neg (by omega) ?_
    exact hnext
  | k + 1, m, b, kp, hm, hb, hnext => by
    have hN := isSp_prd hs
    have hcl := isC_len hs hc
    have hlf := form_len hs hc hp (i := (m : Int))
    have hw : isW s (m : Int) = true := (isW_iff s _).2 ⟨by omega, by omega⟩
    have rc9 := specL_l1 hs hc hp hP OR L j0 (r := r) k (m + 1) (stP c (b, kp) (formL s c p (m : Int))).1 (stP c (b, kp) (formL s c p (m : Int))).2 (by omega) (stepS_len hs hc hp _ hb)
      (by rw [fmL_rd s c p (show m < P by omega), List.foldl_cons] at hnext; exact hnext)
    have rest : ∀ b2, b2 = stepS b (formL s c p (m : Int)) → Ev (fun j => spec_l03Least.j2 j c b2 kp OR (ordL (c.map (plW s p))) (m : Int) (ordL (formL s c p (m : Int))) L j0 s) r := by
      rintro b2 rfl
      refine Ev.step (fun k => by simp only [spec_l03Least.j2]; exact rfl) ?_
      refine Ev.bind (l03Before_ev (by omega) (by omega)) ?_
      have hst : (stP c (b, kp) (formL s c p (m : Int))).1 = stepS b (formL s c p (m : Int)) := rfl
      have hsk : (stP c (b, kp) (formL s c p (m : Int))).2 = stepK c kp (formL s c p (m : Int)) := rfl
      rw [hst, hsk] at rc9
      unfold stepK at rc9
      rw [wrap_nat (by unfold maxLen; omega)]
      by_cases h1 : befL (ordL (formL s c p (m : Int))) c = true
      · refine Ev.iff_pos h1 ?_
        rw [if_pos h1] at rc9
        exact rc9
      · refine Ev.iff_neg h1 ?_
        rw [if_neg h1] at rc9
        refine Ev.bind (l03Before_ev (by omega) (by omega)) ?_
        by_cases h2 : befL c (ordL (formL s c p (m : Int))) = true
        · refine Ev.iff_pos h2 ?_
          rw [if_pos h2] at rc9
          exact rc9
        · refine Ev.iff_neg h2 ?_
          rw [if_neg h2] at rc9
          exact rc9
    refine Ev.step (fun k => by simp only [spec_l03Least.l1]; exact rfl) ?_
    refine Ev.bind (l01N_sp hs) ?_
    refine Ev.iff_pos (by omega) ?_
    refine Ev.bind (l01Shifted_ev hs (own_isC hs hp) hw) ?_
    rw [form_ord hp]
    refine Ev.bind (l03Before_ev (by omega) (by omega)) ?_
    by_cases h1 : befL (ordL (formL s c p (m : Int))) b = true
    · refine Ev.iff_pos h1 ?_
      exact rest _ (by unfold stepS; rw [if_pos h1])
    · refine Ev.iff_neg h1 ?_
      exact rest _ (by unfold stepS; rw [if_neg h1])
theorem stP_len {s c p : List Int} (hs : isSp s = true) (hc : isC s c = true) (hp : p ∈ kO s s.length []) (P : Nat) (x : List Int × Int) (hx : x.1.length = c.length) : ((fmL s c P p).foldl (stP c) x).1.length = c.length := by
  unfold fmL
  induction P generalizing x with
  | zero => exact hx
  | succ n ih =>
    rw [List.range_succ, List.map_append, List.foldl_append]
    exact stepS_len hs hc hp _ (ih x hx)
theorem specL_l0 {s c : List Int} (hs : isSp s = true) (hc : isC s c = true) {P : Nat} (hP : (P : Int) = prd s) : ∀ (k m : Nat) (x : List Int × Int), m + k = (kO s s.length []).length → x.1.length = c.length →
    Ev (fun j => spec_l03Least.l0 j c x.1 x.2 (kO s s.length []) ((kO s s.length []).length : Int) (m : Int) s) (((kO s s.length []).drop m).foldl (fun x p => (fmL s c P p).foldl (stP c) x) x)
  | 0, m, x, hm, hx => by
    rw [List.drop_of_length_le (by omega)]
    exact Ev.step (fun k => by simp only [spec_l03Least.l0]; exact rfl) (Ev.iff_neg (by omega) (Ev.now _))
  | k + 1, m, x, hm, hx => by
    have hlt : m < (kO s s.length []).length := by omega
    have hbd := kO_len (isSp_len hs) s.length []
    have h8 : 8 ^ s.length ≤ 16777216 := Nat.le_trans (Nat.pow_le_pow_right (by decide) (isSp_len hs)) (by decide)
    have hmem : (kO s s.length [])[m] ∈ kO s s.length [] := List.getElem_mem hlt
    have hrd : rd_L1 (kO s s.length []) (m : Int) = (kO s s.length [])[m] := by simp [rd_L1, List.getD_eq_getElem?_getD, hlt]
    have rc9 := specL_l0 hs hc hP k (m + 1) ((fmL s c P ((kO s s.length [])[m])).foldl (stP c) x) (by omega) (stP_len hs hc hmem P x hx)
    rw [List.drop_eq_getElem_cons hlt, List.foldl_cons]
    refine Ev.step (fun k => by simp only [spec_l03Least.l0]; exact rfl) (Ev.iff_pos (by omega) (Ev.iff_pos (by omega) (Ev.iff_pos (by omega) ?_)))
    rw [hrd]
    refine Ev.bind (specPl_ev hs (kO_ord hmem) hc) ?_
    refine specL_l1 hs hc hmem hP _ _ _ P 0 x.1 x.2 (by omega) hx ?_
    rw [List.drop_zero, wrap_nat (by unfold maxLen; omega)]
    exact rc9
theorem specLeast_ev {s c : List Int} (hs : isSp s = true) (hc : isC s c = true) : Ev (fun k => spec_l03Least.f k s c) (allF (stP c) s c (c, 0)) := by
  have hcl := isC_len hs hc
  have hp := isSp_prd1 hs
  unfold spec_l03Least.f
  refine Ev.bindc (l01Own_eq c (by omega)) ?_
  refine Ev.bind (specO_ev (isSp_len hs) s.length [] (by simp)) ?_
  have := specL_l0 hs hc (P := (prd s).toNat) (by omega) (kO s s.length []).length 0 (c, 0) (by omega) rfl
  rw [List.drop_zero] at this
  exact this
theorem foldl_rel {α β γ : Type} (R : α → β → Prop) (f : α → γ → α) (g : β → γ → β) : ∀ (l : List γ) (a : α) (b : β), (∀ x y z, z ∈ l → R x y → R (f x z) (g y z)) → R a b → R (l.foldl f a) (l.foldl g b)
  | [], a, b, _, h => h
  | z :: l, a, b, h, hab => foldl_rel R f g l (f a z) (g b z) (fun x y w hw hr => h x y w (List.mem_cons_of_mem _ hw) hr) (h a b z (by simp) hab)
theorem allF_rel {α β : Type} (R : α → β → Prop) {f : α → List Int → α} {g : β → List Int → β} {s c : List Int} (h : ∀ x y p (i : Nat), p ∈ kO s s.length [] → (i : Int) < prd s → R x y → R (f x (formL s c p (i : Int))) (g y (formL s c p (i : Int)))) {a : α} {b : β} (hab : R a b) : R (allF f s c a) (allF g s c b) := by
  unfold allF
  refine foldl_rel R _ _ _ _ _ (fun x y p hp hxy => ?_) hab
  refine foldl_rel R _ _ _ _ _ (fun x y l hl hxy => ?_) hxy
  unfold fmL at hl
  obtain ⟨i, hi, rfl⟩ := List.mem_map.1 hl
  rw [List.mem_range] at hi
  exact h x y p i hp (by omega) hxy
theorem form_small {s c p : List Int} (hs : isSp s = true) (hP : prd s ≤ 81) (i : Int) : small (formL s c p i) := fun y hy => by
  unfold formL at hy
  simp only [List.mem_map] at hy
  obtain ⟨u, _, rfl⟩ := hy
  have := (isW_iff _ _).1 (sumW_isW hs u i)
  rw [smW_eq hs]
  omega
theorem small_ordL {l : List Int} (h : small l) : small (ordL l) := fun x hx => h x ((ordL_mem l x).1 hx)
theorem lo_ordL {l : List Int} (h : small l) : lo l = lo (ordL l) := lo_congr h (fun x => (ordL_mem l x).symm)
theorem hi_ordL {l : List Int} (h : small l) : hi l = hi (ordL l) := hi_congr h (fun x => (ordL_mem l x).symm)
theorem code_small {s c : List Int} (hc : isC s c = true) (hP : prd s ≤ 81) : small c := fun x hx => by
  have := (isW_iff s x).1 (isC_words hc x hx)
  omega
theorem least_rel {s c : List Int} (hs : isSp s = true) (hc : isC s c = true) (hP : prd s ≤ 81) : small (allF stepL s c c) ∧ ordL (allF stepL s c c) = (allF (stP c) s c (c, 0)).1 ∧ (ordL (allF stepL s c c)).length = c.length := by
  refine allF_rel (fun (x : List Int) (y : List Int × Int) => small x ∧ ordL x = y.1 ∧ (ordL x).length = c.length) (fun x y p i hp hip hxy => ?_) ⟨code_small hc hP, ordL_asc (asc_pw (isC_asc hc)), by rw [ordL_asc (asc_pw (isC_asc hc))]⟩
  obtain ⟨h1, h2, h3⟩ := hxy
  have hl := form_len hs hc hp (i := (i : Int))
  have hsm := form_small hs hP (c := c) (p := p) (i : Int)
  have key : cbf (lo (formL s c p (i : Int))) (hi (formL s c p (i : Int))) (lo x) (hi x) = befL (ordL (formL s c p (i : Int))) (ordL x) := by
    rw [lo_ordL hsm, hi_ordL hsm, lo_ordL h1, hi_ordL h1]
    exact cbf_befL (by omega) (ordL_pw _) (ordL_pw _) (small_ordL hsm) (small_ordL h1)
  show small (stepL x _) ∧ ordL (stepL x _) = stepS y.1 _ ∧ (ordL (stepL x _)).length = c.length
  unfold stepL stepS
  rw [key, h2]
  by_cases h : befL (ordL (formL s c p (i : Int))) y.1 = true
  · rw [if_pos h, if_pos h]
    exact ⟨hsm, rfl, hl⟩
  · rw [if_neg h, if_neg h]
    exact ⟨h1, h2, h3⟩
theorem selL_bits {R : List Int} (h : small R) : selL (bitQ (lo R) (hi R)) 128 = ordL R := by
  refine ordL_of ?_ (fun y => ?_)
  · unfold selL
    rw [List.pairwise_map]
    exact (List.pairwise_lt_range.filter _).imp (fun h => by omega)
  · rw [mem_selL]
    constructor
    · rintro ⟨h0, h1, h2⟩
      obtain ⟨n, rfl⟩ := Int.eq_ofNat_of_zero_le h0
      by_cases h3 : n < 64
      · rw [bitQ_lo _ _ h3, lo_bit R h] at h2
        exact (of_decide_eq_true h2).2
      · rw [bitQ_hi _ _ h3, hi_bit R h] at h2
        have := of_decide_eq_true h2
        rw [show n - 64 + 64 = n by omega] at this
        exact this
    · intro hy
      have hb := h y hy
      obtain ⟨n, rfl⟩ := Int.eq_ofNat_of_zero_le hb.1
      refine ⟨hb.1, by omega, ?_⟩
      by_cases h3 : n < 64
      · rw [bitQ_lo _ _ h3, lo_bit R h]
        exact decide_eq_true ⟨h3, hy⟩
      · rw [bitQ_hi _ _ h3, hi_bit R h]
        apply decide_eq_true
        rw [show n - 64 + 64 = n by omega]
        exact hy
end Go.Proofs.Ytemjamfcepoefaa.Q
set_option linter.unusedVariables false
set_option linter.unusedSimpArgs false
namespace Go.Proofs.Ytemjamfcepoefaa.P
open Go.RowKit Go.Proofs.YtemjamfcepoefaaW.PrintWords Go.Proofs.YtemjamfcepoefaaW.PrintLast Go.Proofs.YtemjamfcepoefaaW.PrintMore CC
theorem rowsC9 {W : World} {g : Nat} {t : TypeId} (cs : Array Value) (ps : List (List Int)) (h : W.heap[g]? = some (.cells cs t (0, 0))) (hl : ps.length ≤ 10)
    (hp : ∀ (j : Nat) (p : List Int), ps[j]? = some p → ∃ A c, cs[j]? = some (.slice A p.length c) ∧ p.length ≤ c ∧ Kd.C (Kd.int .i64) W A p.length p) :
    Kd.C (Kd.slice 2 (Kd.int .i64)) W (some ⟨g, 0, none⟩) ps.length ps := by
  refine ⟨rfl, by omega, fun _ => ⟨⟨g, 0, none⟩, rfl, fun j p hj => ?_⟩⟩
  obtain ⟨A, c, h1, h2, h3⟩ := hp j p hj
  refine ⟨[.slice A p.length c], rfl, ⟨A, c, rfl, h2, h3⟩, fun i u hi => ?_⟩
  match i, hi with
  | 0, hi =>
    have e : u = .slice A p.length c := by simpa using hi.symm
    subst e
    have hb := blk_cell h j
    show W.cell? ((⟨g, 0, none⟩ : Addr).add (j * 1 + 0)) = _
    rw [add_plain, Nat.mul_one, Nat.add_zero, hb]
    exact h1
theorem form_facts {s C : List Int} (h : Q.rF1 s C = 0) : isSp s = true ∧ small C ∧ (∀ x ∈ C, 0 ≤ x ∧ x ≤ 1024) ∧ (∀ u i : Int, 0 ≤ u → u < prd s → 0 ≤ i → i < prd s → 0 ≤ smW s u i ∧ smW s u i < 128) := by
  obtain ⟨h1, h2⟩ := Q.rF1_zero h
  obtain ⟨hs, hc, _⟩ := Q.rCode_zero h1
  have hw : ∀ x ∈ C, 0 ≤ x ∧ x < prd s := fun x hx => (isW_iff s x).1 (Q.isC_words hc x hx)
  exact ⟨hs, fun x hx => by have := hw x hx; omega, fun x hx => by have := hw x hx; omega, Q.smW_small hs (by omega)⟩
theorem leastForm_of (A : Option Addr) (c : Nat) (s : List Int) (A1 : Option Addr) (c1 : Nat) (C : List Int) (w : World)
    (hr : Kd.C (Kd.int .i64) w A s.length s) (hc : s.length ≤ c) (hr1 : Kd.C (Kd.int .i64) w A1 C.length C) (hc1 : C.length ≤ c1) (hCl : C.length ≤ 1048576) (h : Q.rF1 s C = 0) :
    Calls Try.prog 28 #[.agg #[.slice A s.length c], .slice A1 C.length c1] w
      fun e w' => e = .returned (setV (allF stepL s C C)) ∧ small (allF stepL s C C) ∧ Below w.heap.size w w' := by
  obtain ⟨hs, hsC, hCW, hsm⟩ := form_facts h
  exact leastForm_calls A c s A1 c1 C w hr hc hs hr1 hc1 hCl hsC hCW (Q.kO_PO hs) (Q.kO_PL hs) hsm
def leastFR (s C : List Int) : List Int × Int := if Q.rF1 s C = 0 then (Q.selL (bitQ (lo (allF stepL s C C)) (hi (allF stepL s C C))) 128, 0) else ([], Q.rF1 s C)
set_option maxHeartbeats 4000000 in
set_option maxRecDepth 100000 in
theorem leastF_calls (A : Option Addr) (c : Nat) (s : List Int) (A1 : Option Addr) (c1 : Nat) (C : List Int) (w : World) (hr : Kd.C (Kd.int .i64) w A s.length s) (hc : s.length ≤ c) (hr1 : Kd.C (Kd.int .i64) w A1 C.length C) (hc1 : C.length ≤ c1) (hCl : C.length ≤ 1048576) :
    Calls Try.prog 16 #[.agg #[.slice A s.length c], .slice A1 C.length c1] w
      fun e w' => ∃ v, e = .returned (.tuple #[v, .int .i64 (leastFR s C).2]) ∧ Kd.R (Kd.int .i64) 2 w' w.heap.size (fun _ => True) v (leastFR s C).1 ∧ Below w.heap.size w w' := by
  have huS := Try.underlying28
  have HR := Aside0.mk hr
  have HR1 := Aside0.mk hr1
  obtain ⟨kb, hbc⟩ := (Q.formCode1_ev s (C := C) hCl).rounds
  have HBC := Aside0.mk hbc
  clear hr hr1 hbc
  go_enter Try.func16, Try.ntmps16
  have kz : (w.alloc (.cells #[.slice A s.length c] 28)).cell? ⟨w.heap.size, 0, none⟩ = some (.slice A s.length c) := blk_cell (blk_new w (.cells #[.slice A s.length c] 28)) 0
  have hB : Below w.heap.size w ((w.alloc (.cells #[.slice A s.length c] 28)).alloc (.cells #[.slice A1 C.length c1] 22)) := below_alloc ((Below.refl _ _).alloc (Nat.le_refl _) _) _
  have K0 := blk_alloc (blk_new w (.cells #[.slice A s.length c] 28)) (.cells #[.slice A1 C.length c1] 22)
  have K1 : ((w.alloc (.cells #[.slice A s.length c] 28)).alloc (.cells #[.slice A1 C.length c1] 22)).heap[w.heap.size + 1]? = some (.cells #[.slice A1 C.length c1] 22 (0, 0)) := by simpa using blk_new (w.alloc (.cells #[.slice A s.length c] 28)) (.cells #[.slice A1 C.length c1] 22)
  have hRC := rowsC9 #[.slice A1 C.length c1] [C] K1 (by simp) (fun j p hj => by
    match j, hj with
    | 0, hj =>
      have e : p = C := by simpa using hj.symm
      subst e
      exact ⟨A1, c1, rfl, hc1, Kd.C_below HR1.out hB⟩)
  have hcal := impl_formCode.calls kb A c s (some ⟨w.heap.size + 1, 0, none⟩) 1 [C] (Q.rF1 s C) _ (Kd.C_below HR.out hB) hc hRC (by simp) HBC.out
  have K0 := Aside0.mk K0
  have hB := Aside0.mk hB
  clear K1 hRC
  go_wp2_with fail
  refine hcal.mono ?_
  rintro e w1 ⟨rfl, hb⟩
  have S1 := Aside0.mk (blk_below K0.out hb)
  have B1 := Aside0.mk (below_then hB.out hB.out.size hb)
  clear hcal hb kz K0 hB
  by_cases hz : Q.rF1 s C = 0
  · have HZ : Aside0 (leastFR s C = (Q.selL (bitQ (lo (allF stepL s C C)) (hi (allF stepL s C C))) 128, 0)) := ⟨by unfold leastFR; rw [if_pos hz]⟩
    have HL := Aside0.mk (leastForm_of A c s A1 c1 C w1 (Kd.C_below HR.out B1.out) hc (Kd.C_below HR1.out B1.out) hc1 hCl hz)
    rw [hz]
    clear hz HBC
    have k1 : w1.cell? ⟨w.heap.size, 0, none⟩ = some (.slice A s.length c) := blk_cell S1.out 0
    go_wp2_with fail
    refine HL.out.mono ?_
    rintro e w2 ⟨rfl, hsm, hb⟩
    have B2 := Aside0.mk (below_then B1.out B1.out.size hb)
    clear hb HL
    unfold setV
    go_wp2_with fail
    refine (list_calls _ _ (lo_lt hsm) (hi_lt hsm) w2).mono ?_
    rintro e w3 ⟨v, rfl, hR, hb⟩
    have B3 := below_then B2.out B2.out.size hb
    have hR := Kd.R_lower hR B2.out.size
    go_wp2
    go_ret2
    rw [HZ.out]
    exact ⟨_, rfl, hR, B3⟩
  · have HZ : Aside0 (leastFR s C = ([], Q.rF1 s C)) := ⟨by unfold leastFR; rw [if_neg hz]⟩
    clear HBC
    generalize Q.rF1 s C = z at *
    go_wp2
    go_ret2
    rw [HZ.out]
    exact ⟨_, rfl, Kd.R_nil _ _ _ _ _, B1.out⟩
def impl_LeastForm.f (l0_0 l1 : List Int) : Option (List Int × Int) := if l1.length ≤ 1048576 then some (leastFR l0_0 l1) else none
theorem impl_LeastForm.calls (A0_0 : Option Addr) (c0_0 : Nat) (l0_0 : List Int) (A1 : Option Addr) (c1 : Nat) (l1 : List Int) (r1 : List Int) (r2 : Int) (w : World) (hr0_0 : Kd.C (Kd.int .i64) w A0_0 l0_0.length l0_0) (hc0_0 : l0_0.length ≤ c0_0) (hr1 : Kd.C (Kd.int .i64) w A1 l1.length l1) (hc1 : l1.length ≤ c1) (h : impl_LeastForm.f l0_0 l1 = some (r1, r2)) :
    Calls Try.prog 16 #[.agg #[.slice A0_0 l0_0.length c0_0], .slice A1 l1.length c1] w fun e w' => ∃ v0_ : Value, e = .returned (.tuple #[v0_, .int .i64 r2]) ∧ Kd.R (Kd.int .i64) 2 w' w.heap.size (fun _ => True) v0_ r1 ∧ Below w.heap.size w w' := by
  unfold impl_LeastForm.f at h
  split at h
  · rename_i hl
    have h2 := Option.some.inj h
    have e1 : (leastFR l0_0 l1).1 = r1 := by rw [h2]
    have e2 : (leastFR l0_0 l1).2 = r2 := by rw [h2]
    subst e1 e2
    exact leastF_calls A0_0 c0_0 l0_0 A1 c1 l1 w hr0_0 hc0_0 hr1 hc1 hl
  · cases h
end Go.Proofs.Ytemjamfcepoefaa.P
namespace Go.Proofs.Ytemjamfcepoefaa.P
open Go.RowKit Go.Proofs.YtemjamfcepoefaaW.PrintWords Go.Proofs.YtemjamfcepoefaaW.PrintLast Go.Proofs.YtemjamfcepoefaaW.PrintMore
attribute [local go_sem] max2_int min2_int max_two min_two max_three min_three max_four min_four
set_option linter.unusedVariables false
set_option linter.unusedSimpArgs false
mutual
def laws_FnExactLeastForm.j0 : Nat → List Int → List Int → Int → List Int → List Int → Int → Bool → List Int → List Int → Option (Bool)
  | 0, _, _, _, _, _, _, _, _, _ => none
  | k + 1, x1, x6, x7, x9, x10, x11, x51, x102000, x117000 => if x51 = true then (some false) else ((laws_toSpace.f k x102000).bind fun t125 => ((laws_eqSpace.f k x117000 t125).bind fun t128 => (if t128 = true then ((laws_toInt64S.f k x1).bind fun t129 => ((laws_eqInt64S.f k x9 t129).bind fun t132 => (if t132 = true then ((laws_markSpace.f k x117000 1).bind fun bt133 => ((laws_markInt64S.f k x9 bt133.1).bind fun bt135 => (if bt135.1 < 0 then (laws_FnExactLeastForm.j1 k x1 x6 x7 x10 true x102000) else ((laws_eqInt64S.f k x10 x6).bind fun t137 => (if t137 = true then (laws_FnExactLeastForm.j1 k x1 x6 x7 x10 (x11 != x7) x102000) else (laws_FnExactLeastForm.j1 k x1 x6 x7 x10 true x102000)))))) else (some false)))) else (some false))))
def laws_FnExactLeastForm.j1 : Nat → List Int → List Int → Int → List Int → Bool → List Int → Option (Bool)
  | 0, _, _, _, _, _, _ => none
  | k + 1, x1, x6, x7, x10, x80, x102000 => if x80 = true then (some false) else ((laws_markInt64S.f k x10 1).bind fun bt138 => ((laws_heldInt64S.f k bt138.2 1).bind fun t140 => (if t140 < 0 then (some false) else (if t140 = bt138.1 then ((laws_toSpace.f k x102000).bind fun t141 => ((laws_toInt64S.f k x1).bind fun t144 => ((impl_LeastForm.f t141 t144).bind fun bt147 => ((laws_eqInt64S.f k bt147.1 x6).bind fun t151 => (if t151 = true then (laws_FnExactLeastForm.j2 k bt138.2 bt138.1 (bt147.2 != x7)) else (laws_FnExactLeastForm.j2 k bt138.2 bt138.1 true)))))) else (some false)))))
def laws_FnExactLeastForm.j2 : Nat → List Int → Int → Bool → Option (Bool)
  | 0, _, _, _ => none
  | k + 1, x10, x13, x108 => if x108 = true then (some false) else ((laws_heldInt64S.f k x10 1).bind fun t152 => (if t152 < 0 then (some false) else (if t152 = x13 then (some true) else (some false))))
end
def laws_FnExactLeastForm.f (k : Nat) (l0_0 : List Int) (l1 : List Int) : Option (Bool) := if (l1.length : Int) > 1048576 then (some true) else ((laws_szSpace.f l0_0 1048576).bind fun t102 => (if t102 < 0 then (some true) else ((laws_toSpace.f k l0_0).bind fun t103 => ((laws_toInt64S.f k l1).bind fun t106 => ((spec_LeastForm.f k t103 t106).bind fun bt109 => ((laws_toSpace.f k l0_0).bind fun t113 => ((laws_toInt64S.f k l1).bind fun t117 => ((impl_LeastForm.f t113 t117).bind fun bt120 => ((laws_eqInt64S.f k bt120.1 bt109.1).bind fun t124 => (if t124 = true then (laws_FnExactLeastForm.j0 k l1 bt109.1 bt109.2 t117 bt120.1 bt120.2 (bt120.2 != bt109.2) l0_0 t113) else (laws_FnExactLeastForm.j0 k l1 bt109.1 bt109.2 t117 bt120.1 bt120.2 true l0_0 t113)))))))))))
set_option maxHeartbeats 8000000 in
set_option maxRecDepth 100000 in
theorem laws_FnExactLeastForm.calls (k : Nat) (A0_0 : Option Addr) (c0_0 : Nat) (l0_0 : List Int) (A1 : Option Addr) (c1 : Nat) (l1 : List Int) (r : Bool) (w : World) (hr0_0 : Kd.C (Kd.int .i64) w A0_0 l0_0.length l0_0) (hc0_0 : l0_0.length ≤ c0_0) (hr1 : Kd.C (Kd.int .i64) w A1 l1.length l1) (hc1 : l1.length ≤ c1) (h : laws_FnExactLeastForm.f k l0_0 l1 = some r) :
  Calls Try.prog 5 #[.agg #[.slice A0_0 l0_0.length c0_0], .slice A1 l1.length c1] w fun e w' => e = .returned (.bool r) ∧ Below w.heap.size w w' := by
 have hu24 := Try.underlying24
 have hu28 := Try.underlying28
 have HR0_0 := Aside0.mk hr0_0
 have HC0_0 := Aside0.mk hc0_0
 clear hr0_0 hc0_0
 have HR1 := Aside0.mk hr1
 have HC1 := Aside0.mk hc1
 clear hr1 hc1
 have HB := Aside0.mk (Below.refl w.heap.size w)
 have H : (if (l1.length : Int) > 1048576 then (some true) else ((laws_szSpace.f l0_0 1048576).bind fun t102 => (if t102 < 0 then (some true) else ((laws_toSpace.f k l0_0).bind fun t103 => ((laws_toInt64S.f k l1).bind fun t106 => ((spec_LeastForm.f k t103 t106).bind fun bt109 => ((laws_toSpace.f k l0_0).bind fun t113 => ((laws_toInt64S.f k l1).bind fun t117 => ((impl_LeastForm.f t113 t117).bind fun bt120 => ((laws_eqInt64S.f k bt120.1 bt109.1).bind fun t124 => (if t124 = true then (laws_FnExactLeastForm.j0 k l1 bt109.1 bt109.2 t117 bt120.1 bt120.2 (bt120.2 != bt109.2) l0_0 t113) else (laws_FnExactLeastForm.j0 k l1 bt109.1 bt109.2 t117 bt120.1 bt120.2 true l0_0 t113)))))))))))) = some r := h
 clear h
 by_cases c3 : (l1.length : Int) > 1048576
 ·rw [if_pos c3] at H
  have c3b0 : decide (1048576 < (l1.length : Int)) = true := decide_eq_true c3
  have c3b1 : decide (1048576 < l1.length) = true := decide_eq_true (by omega)
  clear c3
  obtain rfl := Option.some.inj H
  go_enter Try.func5, Try.ntmps5
  go_wp2_with (first | ((with_reducible refine gate_dst (N := 2) rfl ?_); refine bx_ (N := 2) (cs := #[.slice A0_0 l0_0.length c0_0]) (t := 24) rfl rfl ?_; intro gb101 hg w4 hbox hb; have n0_ := b1_ HB hb; have n1_ := Aside0.mk (hbox); have n2_ := ge_ hg HB; have n3_ := ge_ hg HB; clear HB; have HB := n0_; have BK101 := n1_; have GW101 := n2_; have GE101 := n3_; clear n0_ n1_ n2_ n3_ hb hbox hg))
  go_ret
  exact ⟨t5_, gb_ HB.out⟩
 rw [if_neg c3] at H
 have c3b0 : decide (1048576 < (l1.length : Int)) = false := decide_eq_false c3
 have c3b1 : decide (1048576 < l1.length) = false := decide_eq_false (by omega)
 clear c3
 replace H := Option.bind_eq_some_iff.mp H
 obtain ⟨t102, A50, H⟩ := H
 replace H : (if t102 < 0 then (some true) else ((laws_toSpace.f k l0_0).bind fun t103 => ((laws_toInt64S.f k l1).bind fun t106 => ((spec_LeastForm.f k t103 t106).bind fun bt109 => ((laws_toSpace.f k l0_0).bind fun t113 => ((laws_toInt64S.f k l1).bind fun t117 => ((impl_LeastForm.f t113 t117).bind fun bt120 => ((laws_eqInt64S.f k bt120.1 bt109.1).bind fun t124 => (if t124 = true then (laws_FnExactLeastForm.j0 k l1 bt109.1 bt109.2 t117 bt120.1 bt120.2 (bt120.2 != bt109.2) l0_0 t113) else (laws_FnExactLeastForm.j0 k l1 bt109.1 bt109.2 t117 bt120.1 bt120.2 true l0_0 t113)))))))))) = some r := H
 have A5 := Aside0.mk A50
 clear A50
 by_cases c6 : t102 < 0
 ·rw [if_pos c6] at H
  have c6b0 : decide (t102 < 0) = true := decide_eq_true c6
  clear c6
  obtain rfl := Option.some.inj H
  go_enter Try.func5, Try.ntmps5
  go_wp2_with (first | ((with_reducible refine gate_dst (N := 2) rfl ?_); refine bx_ (N := 2) (cs := #[.slice A0_0 l0_0.length c0_0]) (t := 24) rfl rfl ?_; intro gb101 hg w7 hbox hb; have n0_ := b1_ HB hb; have n1_ := Aside0.mk (hbox); have n2_ := ge_ hg HB; have n3_ := ge_ hg HB; clear HB; have HB := n0_; have BK101 := n1_; have GW101 := n2_; have GE101 := n3_; clear n0_ n1_ n2_ n3_ hb hbox hg; have hcz8_0 := hz_ BK101; have hfz8_0 := blk_frozen BK101.out 0) | ((with_reducible refine gate_callee (f := 6) rfl ?_); refine gl_ (some 22) rfl rfl Try.func6 #[.agg #[.slice A0_0 l0_0.length c0_0], .int .i64 1048576] rfl ?_; (with_reducible refine (laws_szSpace.calls _ _ l0_0 1048576 t102 _ ?side1 ?side2 A5.out).mono ?_); (case side1 => exact c2_ HR0_0 HB); (case side2 => exact HC0_0.out); rintro e w9 ⟨rfl, hb⟩; refine ⟨_, rfl, ?_⟩; replace BK101 := a2_ BK101 hb; replace HB := b1_ HB hb; (try clear hb); (try clear hb2); (try clear hk); (try clear hi)))
  go_ret
  exact ⟨t5_, gb_ HB.out⟩
 rw [if_neg c6] at H
 have c6b0 : decide (t102 < 0) = false := decide_eq_false c6
 clear c6
 replace H := Option.bind_eq_some_iff.mp H
 obtain ⟨t103, A100, H⟩ := H
 replace H : ((laws_toInt64S.f k l1).bind fun t106 => ((spec_LeastForm.f k t103 t106).bind fun bt109 => ((laws_toSpace.f k l0_0).bind fun t113 => ((laws_toInt64S.f k l1).bind fun t117 => ((impl_LeastForm.f t113 t117).bind fun bt120 => ((laws_eqInt64S.f k bt120.1 bt109.1).bind fun t124 => (if t124 = true then (laws_FnExactLeastForm.j0 k l1 bt109.1 bt109.2 t117 bt120.1 bt120.2 (bt120.2 != bt109.2) l0_0 t113) else (laws_FnExactLeastForm.j0 k l1 bt109.1 bt109.2 t117 bt120.1 bt120.2 true l0_0 t113)))))))) = some r := H
 have A10 := Aside0.mk A100
 clear A100
 replace H := Option.bind_eq_some_iff.mp H
 obtain ⟨t106, A110, H⟩ := H
 replace H : ((spec_LeastForm.f k t103 t106).bind fun bt109 => ((laws_toSpace.f k l0_0).bind fun t113 => ((laws_toInt64S.f k l1).bind fun t117 => ((impl_LeastForm.f t113 t117).bind fun bt120 => ((laws_eqInt64S.f k bt120.1 bt109.1).bind fun t124 => (if t124 = true then (laws_FnExactLeastForm.j0 k l1 bt109.1 bt109.2 t117 bt120.1 bt120.2 (bt120.2 != bt109.2) l0_0 t113) else (laws_FnExactLeastForm.j0 k l1 bt109.1 bt109.2 t117 bt120.1 bt120.2 true l0_0 t113))))))) = some r := H
 have A11 := Aside0.mk A110
 clear A110
 replace H := Option.bind_eq_some_iff.mp H
 obtain ⟨⟨t109, t112⟩, A120, H⟩ := H
 replace H : ((laws_toSpace.f k l0_0).bind fun t113 => ((laws_toInt64S.f k l1).bind fun t117 => ((impl_LeastForm.f t113 t117).bind fun bt120 => ((laws_eqInt64S.f k bt120.1 t109).bind fun t124 => (if t124 = true then (laws_FnExactLeastForm.j0 k l1 t109 t112 t117 bt120.1 bt120.2 (bt120.2 != t112) l0_0 t113) else (laws_FnExactLeastForm.j0 k l1 t109 t112 t117 bt120.1 bt120.2 true l0_0 t113)))))) = some r := H
 have A12 := Aside0.mk A120
 clear A120
 replace H := Option.bind_eq_some_iff.mp H
 obtain ⟨t113, A130, H⟩ := H
 replace H : ((laws_toInt64S.f k l1).bind fun t117 => ((impl_LeastForm.f t113 t117).bind fun bt120 => ((laws_eqInt64S.f k bt120.1 t109).bind fun t124 => (if t124 = true then (laws_FnExactLeastForm.j0 k l1 t109 t112 t117 bt120.1 bt120.2 (bt120.2 != t112) l0_0 t113) else (laws_FnExactLeastForm.j0 k l1 t109 t112 t117 bt120.1 bt120.2 true l0_0 t113))))) = some r := H
 have A13 := Aside0.mk A130
 clear A130
 replace H := Option.bind_eq_some_iff.mp H
 obtain ⟨t117, A140, H⟩ := H
 replace H : ((impl_LeastForm.f t113 t117).bind fun bt120 => ((laws_eqInt64S.f k bt120.1 t109).bind fun t124 => (if t124 = true then (laws_FnExactLeastForm.j0 k l1 t109 t112 t117 bt120.1 bt120.2 (bt120.2 != t112) l0_0 t113) else (laws_FnExactLeastForm.j0 k l1 t109 t112 t117 bt120.1 bt120.2 true l0_0 t113)))) = some r := H
 have A14 := Aside0.mk A140
 clear A140
 replace H := Option.bind_eq_some_iff.mp H
 obtain ⟨⟨t120, t123⟩, A150, H⟩ := H
 replace H : ((laws_eqInt64S.f k t120 t109).bind fun t124 => (if t124 = true then (laws_FnExactLeastForm.j0 k l1 t109 t112 t117 t120 t123 (t123 != t112) l0_0 t113) else (laws_FnExactLeastForm.j0 k l1 t109 t112 t117 t120 t123 true l0_0 t113))) = some r := H
 have A15 := Aside0.mk A150
 clear A150
 have HC16 := Aside0.mk H
 clear H
 go_enter Try.func5, Try.ntmps5
 go_upto_region 11 with (first | ((with_reducible refine gate_dst (N := 2) rfl ?_); refine bx_ (N := 2) (cs := #[.slice A0_0 l0_0.length c0_0]) (t := 24) rfl rfl ?_; intro gb101 hg w17 hbox hb; have n0_ := b1_ HB hb; have n1_ := Aside0.mk (hbox); have n2_ := ge_ hg HB; have n3_ := ge_ hg HB; clear HB; have HB := n0_; have BK101 := n1_; have GW101 := n2_; have GE101 := n3_; clear n0_ n1_ n2_ n3_ hb hbox hg; have hcz18_0 := hz_ BK101; have hfz18_0 := blk_frozen BK101.out 0) | ((with_reducible refine gate_callee (f := 6) rfl ?_); refine gl_ (some 22) rfl rfl Try.func6 #[.agg #[.slice A0_0 l0_0.length c0_0], .int .i64 1048576] rfl ?_; (with_reducible refine (laws_szSpace.calls _ _ l0_0 1048576 t102 _ ?side1 ?side2 A5.out).mono ?_); (case side1 => exact c2_ HR0_0 HB); (case side2 => exact HC0_0.out); rintro e w19 ⟨rfl, hb⟩; refine ⟨_, rfl, ?_⟩; replace BK101 := a2_ BK101 hb; replace HB := b1_ HB hb; (try clear hb); (try clear hb2); (try clear hk); (try clear hi); have hcz20_0 := hz_ BK101; have hfz20_0 := blk_frozen BK101.out 0) | ((with_reducible refine gate_callee (f := 8) rfl ?_); refine gl_ (some 27) rfl rfl Try.func8 #[.agg #[.slice A0_0 l0_0.length c0_0]] rfl ?_; (with_reducible refine (laws_toSpace.calls k _ _ l0_0 t103 _ ?side1 ?side2 A10.out).mono ?_); (case side1 => exact c2_ HR0_0 HB); (case side2 => exact HC0_0.out); rintro e w21 ⟨v104, rfl, ho0, hb⟩; refine ⟨_, rfl, ?_⟩; have HO105 := Aside0.mk (Kd.R_lower ho0 (below_size (gb_ HB.out))); replace BK101 := a2_ BK101 hb; replace HB := b1_ HB hb; (try clear hb); (try clear hb2); (try clear hk); (try clear hi); (try clear ho0)) | ((with_reducible refine gate_callee (f := 9) rfl ?_); refine gl_ (some 29) rfl rfl Try.func9 #[.slice A1 l1.length c1] rfl ?_; (with_reducible refine (laws_toInt64S.calls k _ _ l1 t106 _ ?side1 ?side2 A11.out).mono ?_); (case side1 => exact c2_ HR1 HB); (case side2 => exact HC1.out); rintro e w22 ⟨v107, rfl, ho0, hb⟩; refine ⟨_, rfl, ?_⟩; have HO108 := Aside0.mk (Kd.R_lower (Kd.R_new' ho0 (Kd.R_lt (rb_ HO105.out))) (below_size (gb_ HB.out))); replace HO105 := a5_ HO105 ho0 hb; replace BK101 := a2_ BK101 hb; replace HB := b1_ HB hb; (try clear hb); (try clear hb2); (try clear hk); (try clear hi); (try clear ho0); obtain ⟨Ao23, co23, eo23⟩ := Kd.R_slice HO105.out; subst eo23; obtain ⟨Ao24, co24, eo24⟩ := Kd.R_slice HO108.out; subst eo24) | ((with_reducible refine gate_callee (f := 15) rfl ?_); refine gl_ (some 30) rfl rfl Try.func15 #[.agg #[.slice Ao23 t103.length co23], .slice Ao24 t106.length co24] rfl ?_; (with_reducible refine (spec_LeastForm.calls k _ _ t103 _ _ t106 t109 t112 _ ?side1 ?side2 ?side3 ?side4 A12.out).mono ?_); (case side1 => exact c1_ HO105); (case side2 => exact (Kd.R_reads' HO105.out).2.1); (case side3 => exact c1_ HO108); (case side4 => exact (Kd.R_reads' HO108.out).2.1); rintro e w25 ⟨v110, rfl, ho0, hb⟩; refine ⟨_, rfl, ?_⟩; have HO111 := Aside0.mk (Kd.R_lower (Kd.R_new' (Kd.R_new' ho0 (Kd.R_lt (rb_ HO105.out))) (Kd.R_lt (rb_ HO108.out))) (below_size (gb_ HB.out))); replace HO105 := a5_ HO105 ho0 hb; replace HO108 := a5_ HO108 ho0 hb; replace BK101 := a2_ BK101 hb; replace HB := b1_ HB hb; (try clear hb); (try clear hb2); (try clear hk); (try clear hi); (try clear ho0); have hcz26_0 := hz_ BK101; have hfz26_0 := blk_frozen BK101.out 0) | ((with_reducible refine gate_callee (f := 8) rfl ?_); refine gl_ (some 34) rfl rfl Try.func8 #[.agg #[.slice A0_0 l0_0.length c0_0]] rfl ?_; (with_reducible refine (laws_toSpace.calls k _ _ l0_0 t113 _ ?side1 ?side2 A13.out).mono ?_); (case side1 => exact c2_ HR0_0 HB); (case side2 => exact HC0_0.out); rintro e w27 ⟨v114, rfl, ho0, hb⟩; refine ⟨_, rfl, ?_⟩; have HO115 := Aside0.mk (Kd.R_lower (Kd.R_new' (Kd.R_new' (Kd.R_new' ho0 (Kd.R_lt (rb_ HO105.out))) (Kd.R_lt (rb_ HO108.out))) (Kd.R_lt (rb_ HO111.out))) (below_size (gb_ HB.out))); replace HO105 := a5_ HO105 ho0 hb; replace HO108 := a5_ HO108 ho0 hb; replace HO111 := a5_ HO111 ho0 hb; replace BK101 := a2_ BK101 hb; replace HB := b1_ HB hb; (try clear hb); (try clear hb2); (try clear hk); (try clear hi); (try clear ho0)) | ((with_reducible refine gate_dst (N := 8) rfl ?_); refine bx_ (N := 8) (cs := #[.slice none 0 0]) (t := 28) rfl rfl ?_; intro gb116 hg w28 hbox hb; have n0_ := a1_ HO105 hb; have n1_ := a1_ HO108 hb; have n2_ := a1_ HO111 hb; have n3_ := a1_ HO115 hb; have n4_ := a2_ BK101 hb; have n5_ := b1_ HB hb; have n6_ := Aside0.mk (hbox); have n7_ := ge_ hg HB; have n8_ := ge_ hg HB; have n9_ := nl_ hg BK101; have n10_ := nr_ hg BK101; clear HO105 HO108 HO111 HO115 BK101 HB; have HO105 := n0_; have HO108 := n1_; have HO111 := n2_; have HO115 := n3_; have BK101 := n4_; have HB := n5_; have BK116 := n6_; have GW116 := n7_; have GE116 := n8_; have NB101_116 := n9_; have NB116_101 := n10_; clear n0_ n1_ n2_ n3_ n4_ n5_ n6_ n7_ n8_ n9_ n10_ hb hbox hg; obtain ⟨Ao29, co29, eo29⟩ := Kd.R_slice HO115.out; subst eo29; have hnb30 := NB116_101.out; have hnc30 := NB101_116.out; have hcz31_0 := hz_ BK116; have hfz31_0 := blk_frozen BK116.out 0) | ((with_reducible refine gate_callee (f := 9) rfl ?_); refine gl_ (some 36) rfl rfl Try.func9 #[.slice A1 l1.length c1] rfl ?_; (with_reducible refine (laws_toInt64S.calls k _ _ l1 t117 _ ?side1 ?side2 A14.out).mono ?_); (case side1 => exact Kd.C_below HR1.out (gb_ HB.out)); (case side2 => exact HC1.out); rintro e w32 ⟨v118, rfl, ho0, hb⟩; refine ⟨_, rfl, ?_⟩; have HO119 := Aside0.mk (Kd.R_lower (Kd.R_new' (Kd.R_new' (Kd.R_new' (Kd.R_new' ho0 (Kd.R_lt (rb_ (Kd.R_mono (Kd.R_far (p := ⟨gb116, 0, none⟩) (Kd.R_types HO105.out BK116.out (by decide)) (fun _ hk => hk.2) (.slice Ao29 t113.length co29)) (fun _ h_ => h_.1))))) (Kd.R_lt (rb_ (Kd.R_mono (Kd.R_far (p := ⟨gb116, 0, none⟩) (Kd.R_types HO108.out BK116.out (by decide)) (fun _ hk => hk.2) (.slice Ao29 t113.length co29)) (fun _ h_ => h_.1))))) (Kd.R_lt (rb_ (Kd.R_mono (Kd.R_far (p := ⟨gb116, 0, none⟩) (Kd.R_types HO111.out BK116.out (by decide)) (fun _ hk => hk.2) (.slice Ao29 t113.length co29)) (fun _ h_ => h_.1))))) (Kd.R_lt (rb_ (Kd.R_mono (Kd.R_far (p := ⟨gb116, 0, none⟩) (Kd.R_types HO115.out BK116.out (by decide)) (fun _ hk => hk.2) (.slice Ao29 t113.length co29)) (fun _ h_ => h_.1))))) (below_size (gb_ HB.out))); replace HO105 := a8_ HO105 BK116 ho0 hb; replace HO108 := a8_ HO108 BK116 ho0 hb; replace HO111 := a8_ HO111 BK116 ho0 hb; replace HO115 := a8_ HO115 BK116 ho0 hb; replace BK101 := a3_ BK101 NB101_116 hb; replace BK116 := Aside0.mk (blk_below (g := gb116) (o := .cells #[.slice Ao29 t113.length co29] 28 (0, 0)) (by (with_reducible repeat (first | refine blk_drewN ?_ _ | refine blk_drew ?_ | refine blk_alloc ?_ _)); refine blk_put (cs := #[.slice none 0 0]) ?_ 0 _ rfl; (with_reducible repeat (first | refine blk_drewN ?_ _ | refine blk_drew ?_ | refine blk_alloc ?_ _)); exact BK116.out) hb); replace HB := b1_ HB hb; (try clear hb); (try clear hb2); (try clear hk); (try clear hi); (try clear ho0); have hcz33_0 := hz_ BK116; have hfz33_0 := blk_frozen BK116.out 0; obtain ⟨Ao34, co34, eo34⟩ := Kd.R_slice HO119.out; subst eo34) | ((with_reducible refine gate_callee (f := 16) rfl ?_); refine gl_ (some 40) rfl rfl Try.func16 #[.agg #[.slice Ao29 t113.length co29], .slice Ao34 t117.length co34] rfl ?_; (with_reducible refine (impl_LeastForm.calls _ _ t113 _ _ t117 t120 t123 _ ?side1 ?side2 ?side3 ?side4 A15.out).mono ?_); (case side1 => exact c1_ HO115); (case side2 => exact (Kd.R_reads' HO115.out).2.1); (case side3 => exact c1_ HO119); (case side4 => exact (Kd.R_reads' HO119.out).2.1); rintro e w35 ⟨v121, rfl, ho0, hb⟩; refine ⟨_, rfl, ?_⟩; have HO122 := Aside0.mk (Kd.R_lower (Kd.R_new' (Kd.R_new' (Kd.R_new' (Kd.R_new' (Kd.R_new' ho0 (Kd.R_lt (rb_ HO105.out))) (Kd.R_lt (rb_ HO108.out))) (Kd.R_lt (rb_ HO111.out))) (Kd.R_lt (rb_ HO115.out))) (Kd.R_lt (rb_ HO119.out))) (below_size (gb_ HB.out))); replace HO105 := a5_ HO105 ho0 hb; replace HO108 := a5_ HO108 ho0 hb; replace HO111 := a5_ HO111 ho0 hb; replace HO115 := a5_ HO115 ho0 hb; replace HO119 := a5_ HO119 ho0 hb; replace BK101 := a2_ BK101 hb; replace BK116 := a2_ BK116 hb; replace HB := b1_ HB hb; (try clear hb); (try clear hb2); (try clear hk); (try clear hi); (try clear ho0)))
 (try simp only [Act.put, List.setIfInBounds_toArray, List.set_cons_zero, List.set_cons_succ])
 go_cut [51] (fun cs_51 wc => ∃ (kq : Nat) (x51_15 : Bool), cs_51 = .bool x51_15 ∧ Aside0 (laws_FnExactLeastForm.j0 kq l1 t109 t112 t117 t120 t123 x51_15 l0_0 t113 = some r) ∧ Aside0 (kq ≤ k) ∧ Aside0 (Kd.R (Kd.int .i64) 2 wc w.heap.size (fun k_ => OB_ k_ (.slice Ao34 t117.length co34) ∧ OB_ k_ v121 ∧ OB_ k_ (.slice Ao29 t113.length co29)) v110 t109) ∧ Aside0 (Kd.R (Kd.int .i64) 2 wc w.heap.size (fun k_ => OB_ k_ v110 ∧ OB_ k_ v121 ∧ OB_ k_ (.slice Ao29 t113.length co29)) (.slice Ao34 t117.length co34) t117) ∧ Aside0 (Kd.R (Kd.int .i64) 2 wc w.heap.size (fun k_ => OB_ k_ v110 ∧ OB_ k_ (.slice Ao34 t117.length co34) ∧ OB_ k_ (.slice Ao29 t113.length co29)) v121 t120) ∧ Aside0 (Kd.R (Kd.int .i64) 2 wc w.heap.size (fun k_ => OB_ k_ v110 ∧ OB_ k_ (.slice Ao34 t117.length co34) ∧ OB_ k_ v121) (.slice Ao29 t113.length co29) t113) ∧ Aside0 (wc.heap[gb101]? = some (.cells #[(.slice A0_0 l0_0.length c0_0)] 24 (0, 0))) ∧ Aside0 (wc.heap[gb116]? = some (.cells #[(.slice Ao29 t113.length co29)] 28 (0, 0))) ∧ Aside0 (Below w.heap.size w wc))
 case first =>
  have H := HC16.out
  clear HC16
  replace H := Option.bind_eq_some_iff.mp H
  obtain ⟨t124, A360, H⟩ := H
  replace H : (if t124 = true then (laws_FnExactLeastForm.j0 k l1 t109 t112 t117 t120 t123 (t123 != t112) l0_0 t113) else (laws_FnExactLeastForm.j0 k l1 t109 t112 t117 t120 t123 true l0_0 t113)) = some r := H
  have A36 := Aside0.mk A360
  clear A360
  by_cases c37 : t124 = true
  ·subst c37
   have H1 : (laws_FnExactLeastForm.j0 k l1 t109 t112 t117 t120 t123 (t123 != t112) l0_0 t113) = some r := by rw [if_pos rfl] at H; exact H
   clear H
   have H := H1
   clear H1
   have H' := Aside0.mk H
   clear H
   obtain ⟨Ao38, co38, eo38⟩ := Kd.R_slice HO122.out
   subst eo38
   obtain ⟨Ao39, co39, eo39⟩ := Kd.R_slice HO111.out
   subst eo39
   go_wp2_with (first | ((with_reducible refine gate_callee (f := 12) rfl ?_); refine gl_ (some 45) rfl rfl Try.func12 #[.slice Ao38 t120.length co38, .slice Ao39 t109.length co39] rfl ?_; (with_reducible refine (laws_eqInt64S.calls k _ _ t120 _ _ t109 true _ ?side1 ?side2 ?side3 ?side4 A36.out).mono ?_); (case side1 => exact c1_ HO122); (case side2 => exact (Kd.R_reads' HO122.out).2.1); (case side3 => exact c1_ HO111); (case side4 => exact (Kd.R_reads' HO111.out).2.1); rintro e w' ⟨rfl, ⟨nd, rfl⟩⟩; refine ⟨_, rfl, ?_⟩))
   go_meet
   case rel => exact ⟨_, ((t123 != t112)), t2_, H', ⟨by first | omega | exact Nat.le_refl _⟩, ⟨by (with_reducible repeat (first | apply Kd.R_alloc | apply Kd.R_drewN | apply Kd.R_drew)); exact Kd.R_mono HO111.out (fun _ hk => by grind)⟩, ⟨by (with_reducible repeat (first | apply Kd.R_alloc | apply Kd.R_drewN | apply Kd.R_drew)); exact Kd.R_mono HO119.out (fun _ hk => by grind)⟩, ⟨by (with_reducible repeat (first | apply Kd.R_alloc | apply Kd.R_drewN | apply Kd.R_drew)); exact Kd.R_mono HO122.out (fun _ hk => by grind)⟩, ⟨by (with_reducible repeat (first | apply Kd.R_alloc | apply Kd.R_drewN | apply Kd.R_drew)); exact Kd.R_mono HO115.out (fun _ hk => by grind)⟩, ⟨bb_ BK101.out⟩, ⟨bb_ BK116.out⟩, ⟨gb_ HB.out⟩⟩
  replace c37 := Bool.eq_false_iff.mpr c37
  subst c37
  have H1 : (laws_FnExactLeastForm.j0 k l1 t109 t112 t117 t120 t123 true l0_0 t113) = some r := by rw [if_neg (show ¬ (false = true) by decide)] at H; exact H
  clear H
  have H := H1
  clear H1
  have H' := Aside0.mk H
  clear H
  obtain ⟨Ao40, co40, eo40⟩ := Kd.R_slice HO122.out
  subst eo40
  obtain ⟨Ao41, co41, eo41⟩ := Kd.R_slice HO111.out
  subst eo41
  go_wp2_with (first | ((with_reducible refine gate_callee (f := 12) rfl ?_); refine gl_ (some 45) rfl rfl Try.func12 #[.slice Ao40 t120.length co40, .slice Ao41 t109.length co41] rfl ?_; (with_reducible refine (laws_eqInt64S.calls k _ _ t120 _ _ t109 false _ ?side1 ?side2 ?side3 ?side4 A36.out).mono ?_); (case side1 => exact c1_ HO122); (case side2 => exact (Kd.R_reads' HO122.out).2.1); (case side3 => exact c1_ HO111); (case side4 => exact (Kd.R_reads' HO111.out).2.1); rintro e w' ⟨rfl, ⟨nd, rfl⟩⟩; refine ⟨_, rfl, ?_⟩))
  go_meet
  case rel => exact ⟨_, (true), t2_, H', ⟨by first | omega | exact Nat.le_refl _⟩, ⟨by (with_reducible repeat (first | apply Kd.R_alloc | apply Kd.R_drewN | apply Kd.R_drew)); exact Kd.R_mono HO111.out (fun _ hk => by grind)⟩, ⟨by (with_reducible repeat (first | apply Kd.R_alloc | apply Kd.R_drewN | apply Kd.R_drew)); exact Kd.R_mono HO119.out (fun _ hk => by grind)⟩, ⟨by (with_reducible repeat (first | apply Kd.R_alloc | apply Kd.R_drewN | apply Kd.R_drew)); exact Kd.R_mono HO122.out (fun _ hk => by grind)⟩, ⟨by (with_reducible repeat (first | apply Kd.R_alloc | apply Kd.R_drewN | apply Kd.R_drew)); exact Kd.R_mono HO115.out (fun _ hk => by grind)⟩, ⟨bb_ BK101.out⟩, ⟨bb_ BK116.out⟩, ⟨gb_ HB.out⟩⟩
 clear HC16
 try clear c1
 try clear p2
 try clear c3
 try clear c3b0
 try clear c3b1
 try clear c5
 try clear c6
 try clear c6b0
 try clear c8
 try clear c9
 try clear c12
 try clear c15
 try clear c16
 try clear c30
 try clear c37
 try clear hcz18_0
 try clear hcz20_0
 try clear hcz26_0
 try clear hcz31_0
 try clear hcz33_0
 try clear hcz8_0
 try clear hfz18_0
 try clear hfz20_0
 try clear hfz26_0
 try clear hfz31_0
 try clear hfz33_0
 try clear hfz8_0
 obtain ⟨kq, x51_15, rfl, HA, HJ15, HO_6, HO_9, HO_10, HO_117000, BK101, BK116, HB⟩ := hcut
 cases kq with
 | zero => exact absurd HA.out (by simp [laws_FnExactLeastForm.j0])
 | succ kj15 =>
  have H := HA.out
  clear HA
  simp only [laws_FnExactLeastForm.j0] at H
  by_cases c42 : x51_15 = true
  ·subst c42
   have H1 : (some false) = some r := by rw [if_pos rfl] at H; exact H
   clear H
   have H := H1
   clear H1
   obtain rfl := Option.some.inj H
   go_wp2
   go_ret
   exact ⟨t5_, gb_ HB.out⟩
  replace c42 := Bool.eq_false_iff.mpr c42
  subst c42
  have H1 : ((laws_toSpace.f kj15 l0_0).bind fun t125 => ((laws_eqSpace.f kj15 t113 t125).bind fun t128 => (if t128 = true then ((laws_toInt64S.f kj15 l1).bind fun t129 => ((laws_eqInt64S.f kj15 t117 t129).bind fun t132 => (if t132 = true then ((laws_markSpace.f kj15 t113 1).bind fun bt133 => ((laws_markInt64S.f kj15 t117 bt133.1).bind fun bt135 => (if bt135.1 < 0 then (laws_FnExactLeastForm.j1 kj15 l1 t109 t112 t120 true l0_0) else ((laws_eqInt64S.f kj15 t120 t109).bind fun t137 => (if t137 = true then (laws_FnExactLeastForm.j1 kj15 l1 t109 t112 t120 (t123 != t112) l0_0) else (laws_FnExactLeastForm.j1 kj15 l1 t109 t112 t120 true l0_0)))))) else (some false)))) else (some false)))) = some r := by rw [if_neg (show ¬ (false = true) by decide)] at H; exact H
  clear H
  have H := H1
  clear H1
  replace H := Option.bind_eq_some_iff.mp H
  obtain ⟨t125, A430, H⟩ := H
  replace H : ((laws_eqSpace.f kj15 t113 t125).bind fun t128 => (if t128 = true then ((laws_toInt64S.f kj15 l1).bind fun t129 => ((laws_eqInt64S.f kj15 t117 t129).bind fun t132 => (if t132 = true then ((laws_markSpace.f kj15 t113 1).bind fun bt133 => ((laws_markInt64S.f kj15 t117 bt133.1).bind fun bt135 => (if bt135.1 < 0 then (laws_FnExactLeastForm.j1 kj15 l1 t109 t112 t120 true l0_0) else ((laws_eqInt64S.f kj15 t120 t109).bind fun t137 => (if t137 = true then (laws_FnExactLeastForm.j1 kj15 l1 t109 t112 t120 (t123 != t112) l0_0) else (laws_FnExactLeastForm.j1 kj15 l1 t109 t112 t120 true l0_0)))))) else (some false)))) else (some false))) = some r := H
  have A43 := Aside0.mk A430
  clear A430
  replace H := Option.bind_eq_some_iff.mp H
  obtain ⟨t128, A440, H⟩ := H
  replace H : (if t128 = true then ((laws_toInt64S.f kj15 l1).bind fun t129 => ((laws_eqInt64S.f kj15 t117 t129).bind fun t132 => (if t132 = true then ((laws_markSpace.f kj15 t113 1).bind fun bt133 => ((laws_markInt64S.f kj15 t117 bt133.1).bind fun bt135 => (if bt135.1 < 0 then (laws_FnExactLeastForm.j1 kj15 l1 t109 t112 t120 true l0_0) else ((laws_eqInt64S.f kj15 t120 t109).bind fun t137 => (if t137 = true then (laws_FnExactLeastForm.j1 kj15 l1 t109 t112 t120 (t123 != t112) l0_0) else (laws_FnExactLeastForm.j1 kj15 l1 t109 t112 t120 true l0_0)))))) else (some false)))) else (some false)) = some r := H
  have A44 := Aside0.mk A440
  clear A440
  by_cases c45 : t128 = true
  rotate_left
  ·replace c45 := Bool.eq_false_iff.mpr c45
   subst c45
   have H1 : (some false) = some r := by rw [if_neg (show ¬ (false = true) by decide)] at H; exact H
   clear H
   have H := H1
   clear H1
   obtain rfl := Option.some.inj H
   try go_wp2
   replace HO_6 := Aside0.mk (Kd.R_drew HO_6.out)
   replace HO_9 := Aside0.mk (Kd.R_drew HO_9.out)
   replace HO_10 := Aside0.mk (Kd.R_drew HO_10.out)
   replace HO_117000 := Aside0.mk (Kd.R_drew HO_117000.out)
   replace BK101 := Aside0.mk (blk_drew BK101.out)
   replace BK116 := Aside0.mk (blk_drew BK116.out)
   replace HB := Aside0.mk (below_drew1 HB.out)
   refine start_ (n := 5) (S := fun w' => w'.cell? ⟨gb116, 0, none⟩ = some (.slice Ao29 t113.length co29) ∧ w'.cell? ⟨gb101, 0, none⟩ = some (.slice A0_0 l0_0.length c0_0)) (ds := []) #[false, false, false, false, false] (by kernel_rfl) rfl rfl ⟨(blk_cell BK116.out 0).trans rfl, (blk_cell BK101.out 0).trans rfl⟩ (fun hHeld => ?_)
   generalize wc.drew = w107 at HO_6 HO_9 HO_10 HO_117000 BK101 BK116 HB hHeld ⊢
   refine take_ (i := 0) (N := some 52) (v := ?_) (a' := ?_) #[true, false, false, false, false] rfl rfl (by kernel_rfl) (fun _ _ _ h => h) (Or.inl ⟨by rfl, ?_⟩) hHeld ?_ ?_
   rotate_left
   ·rintro w' ⟨s0, s1⟩
    go_simp
    with_reducible rfl
   rotate_left
   ·exact t4_
   refine take_ (i := 1) (N := some 53) (v := ?_) (a' := ?_) #[true, true, false, false, false] rfl rfl (by kernel_rfl) (fun _ _ _ h => h) (Or.inl ⟨by rfl, ?_⟩) hHeld ?_ ?_
   rotate_left
   ·rintro w' ⟨s0, s1⟩
    go_simp
    with_reducible rfl
   rotate_left
   ·exact t4_
   refine one_ (i := 2) (N := some 54) #[true, true, true, false, false] rfl rfl (by kernel_rfl) (by decide) (fun K hK => ?_)
   refine goes_ Try.func8 (by kernel_rfl) rfl #[.agg #[.slice A0_0 l0_0.length c0_0]] (by rfl) rfl rfl t1_ ?_
   with_reducible refine (laws_toSpace.calls kj15 _ _ l0_0 t125 _ ?side1 ?side2 A43.out).mono ?_
   (case side1 => exact c2_ HR0_0 HB)
   (case side2 => exact HC0_0.out)
   rintro e w108 ⟨v126, rfl, ho0, hb⟩
   refine ⟨_, rfl, ?_⟩
   have HO127 := Aside0.mk (Kd.R_lower (Kd.R_new' (Kd.R_new' (Kd.R_new' (Kd.R_new' ho0 (Kd.R_lt (rb_ HO_6.out))) (Kd.R_lt (rb_ HO_9.out))) (Kd.R_lt (rb_ HO_10.out))) (Kd.R_lt (rb_ HO_117000.out))) (below_size (gb_ HB.out)))
   replace HO_6 := a5_ HO_6 ho0 hb
   replace HO_9 := a5_ HO_9 ho0 hb
   replace HO_10 := a5_ HO_10 ho0 hb
   replace HO_117000 := a5_ HO_117000 ho0 hb
   replace BK101 := a2_ BK101 hb
   replace BK116 := a2_ BK116 hb
   replace HB := b1_ HB hb
   (try clear hb)
   (try clear hb2)
   (try clear hk)
   (try clear hi)
   (try clear ho0)
   obtain ⟨Ao109, co109, eo109⟩ := Kd.R_slice HO127.out
   (first | subst eo109 | (injection eo109 with f1_ f2_ f3_; have f4_ := f1_.symm; have f5_ := f3_.symm; clear f1_ f2_ f3_; subst f4_; subst f5_))
   refine hK.out _ _ ⟨(blk_cell BK116.out 0).trans rfl, (blk_cell BK101.out 0).trans rfl⟩ (fun hHeld => ?_)
   clear hK K
   refine norm_ (a' := ?_) ?_ ?_
   rotate_left
   ·show Act.put _ (some 54) _ = _
    simp only [Act.put, List.setIfInBounds_toArray, List.set_cons_zero, List.set_cons_succ, i64_w, i32_w]
    rfl
   refine one_ (i := 3) (N := some 55) #[true, true, true, true, false] rfl rfl (by kernel_rfl) (by decide) (fun K hK => ?_)
   refine goes_ Try.func11 (by kernel_rfl) rfl #[.agg #[.slice Ao29 t113.length co29], .agg #[.slice Ao109 t125.length co109]] (by rfl) rfl rfl t1_ ?_
   with_reducible refine (laws_eqSpace.calls kj15 _ _ t113 _ _ t125 false _ ?side1 ?side2 ?side3 ?side4 A44.out).mono ?_
   (case side1 => exact c1_ HO_117000)
   (case side2 => exact (Kd.R_reads' HO_117000.out).2.1)
   (case side3 => exact c1_ HO127)
   (case side4 => exact (Kd.R_reads' HO127.out).2.1)
   rintro e w110 ⟨rfl, hb⟩
   refine ⟨_, rfl, ?_⟩
   replace HO_6 := a1_ HO_6 hb
   replace HO_9 := a1_ HO_9 hb
   replace HO_10 := a1_ HO_10 hb
   replace HO_117000 := a1_ HO_117000 hb
   replace HO127 := a1_ HO127 hb
   replace BK101 := a2_ BK101 hb
   replace BK116 := a2_ BK116 hb
   replace HB := b1_ HB hb
   (try clear hb)
   (try clear hb2)
   (try clear hk)
   (try clear hi)
   refine hK.out _ _ ⟨(blk_cell BK116.out 0).trans rfl, (blk_cell BK101.out 0).trans rfl⟩ (fun hHeld => ?_)
   clear hK K
   refine norm_ (a' := ?_) ?_ ?_
   rotate_left
   ·show Act.put _ (some 55) _ = _
    simp only [Act.put, List.setIfInBounds_toArray, List.set_cons_zero, List.set_cons_succ, i64_w, i32_w]
    rfl
   refine pure_ (i := 4) (N := some 56) (v := ?_) (a' := ?_) #[true, true, true, true, true] rfl rfl (by kernel_rfl) (fun _ _ _ h => h) (Or.inl ⟨by rfl, ?_⟩) ?_ ?_
   rotate_left
   ·exact t7_
   rotate_left
   ·exact t4_
   refine done_ (by kernel_rfl) ?_
   try go_wp2
   go_ret
   exact ⟨t5_, gb_ HB.out⟩

  subst c45
  have H1 : ((laws_toInt64S.f kj15 l1).bind fun t129 => ((laws_eqInt64S.f kj15 t117 t129).bind fun t132 => (if t132 = true then ((laws_markSpace.f kj15 t113 1).bind fun bt133 => ((laws_markInt64S.f kj15 t117 bt133.1).bind fun bt135 => (if bt135.1 < 0 then (laws_FnExactLeastForm.j1 kj15 l1 t109 t112 t120 true l0_0) else ((laws_eqInt64S.f kj15 t120 t109).bind fun t137 => (if t137 = true then (laws_FnExactLeastForm.j1 kj15 l1 t109 t112 t120 (t123 != t112) l0_0) else (laws_FnExactLeastForm.j1 kj15 l1 t109 t112 t120 true l0_0)))))) else (some false)))) = some r := by rw [if_pos rfl] at H; exact H
  clear H
  have H := H1
  clear H1
  replace H := Option.bind_eq_some_iff.mp H
  obtain ⟨t129, A460, H⟩ := H
  replace H : ((laws_eqInt64S.f kj15 t117 t129).bind fun t132 => (if t132 = true then ((laws_markSpace.f kj15 t113 1).bind fun bt133 => ((laws_markInt64S.f kj15 t117 bt133.1).bind fun bt135 => (if bt135.1 < 0 then (laws_FnExactLeastForm.j1 kj15 l1 t109 t112 t120 true l0_0) else ((laws_eqInt64S.f kj15 t120 t109).bind fun t137 => (if t137 = true then (laws_FnExactLeastForm.j1 kj15 l1 t109 t112 t120 (t123 != t112) l0_0) else (laws_FnExactLeastForm.j1 kj15 l1 t109 t112 t120 true l0_0)))))) else (some false))) = some r := H
  have A46 := Aside0.mk A460
  clear A460
  replace H := Option.bind_eq_some_iff.mp H
  obtain ⟨t132, A470, H⟩ := H
  replace H : (if t132 = true then ((laws_markSpace.f kj15 t113 1).bind fun bt133 => ((laws_markInt64S.f kj15 t117 bt133.1).bind fun bt135 => (if bt135.1 < 0 then (laws_FnExactLeastForm.j1 kj15 l1 t109 t112 t120 true l0_0) else ((laws_eqInt64S.f kj15 t120 t109).bind fun t137 => (if t137 = true then (laws_FnExactLeastForm.j1 kj15 l1 t109 t112 t120 (t123 != t112) l0_0) else (laws_FnExactLeastForm.j1 kj15 l1 t109 t112 t120 true l0_0)))))) else (some false)) = some r := H
  have A47 := Aside0.mk A470
  clear A470
  by_cases c48 : t132 = true
  rotate_left
  ·replace c48 := Bool.eq_false_iff.mpr c48
   subst c48
   have H1 : (some false) = some r := by rw [if_neg (show ¬ (false = true) by decide)] at H; exact H
   clear H
   have H := H1
   clear H1
   obtain rfl := Option.some.inj H
   try go_wp2
   replace HO_6 := Aside0.mk (Kd.R_drew HO_6.out)
   replace HO_9 := Aside0.mk (Kd.R_drew HO_9.out)
   replace HO_10 := Aside0.mk (Kd.R_drew HO_10.out)
   replace HO_117000 := Aside0.mk (Kd.R_drew HO_117000.out)
   replace BK101 := Aside0.mk (blk_drew BK101.out)
   replace BK116 := Aside0.mk (blk_drew BK116.out)
   replace HB := Aside0.mk (below_drew1 HB.out)
   refine start_ (n := 5) (S := fun w' => w'.cell? ⟨gb116, 0, none⟩ = some (.slice Ao29 t113.length co29) ∧ w'.cell? ⟨gb101, 0, none⟩ = some (.slice A0_0 l0_0.length c0_0)) (ds := []) #[false, false, false, false, false] (by kernel_rfl) rfl rfl ⟨(blk_cell BK116.out 0).trans rfl, (blk_cell BK101.out 0).trans rfl⟩ (fun hHeld => ?_)
   generalize wc.drew = w101 at HO_6 HO_9 HO_10 HO_117000 BK101 BK116 HB hHeld ⊢
   refine take_ (i := 0) (N := some 52) (v := ?_) (a' := ?_) #[true, false, false, false, false] rfl rfl (by kernel_rfl) (fun _ _ _ h => h) (Or.inl ⟨by rfl, ?_⟩) hHeld ?_ ?_
   rotate_left
   ·rintro w' ⟨s0, s1⟩
    go_simp
    with_reducible rfl
   rotate_left
   ·exact t4_
   refine take_ (i := 1) (N := some 53) (v := ?_) (a' := ?_) #[true, true, false, false, false] rfl rfl (by kernel_rfl) (fun _ _ _ h => h) (Or.inl ⟨by rfl, ?_⟩) hHeld ?_ ?_
   rotate_left
   ·rintro w' ⟨s0, s1⟩
    go_simp
    with_reducible rfl
   rotate_left
   ·exact t4_
   refine one_ (i := 2) (N := some 54) #[true, true, true, false, false] rfl rfl (by kernel_rfl) (by decide) (fun K hK => ?_)
   refine goes_ Try.func8 (by kernel_rfl) rfl #[.agg #[.slice A0_0 l0_0.length c0_0]] (by rfl) rfl rfl t1_ ?_
   with_reducible refine (laws_toSpace.calls kj15 _ _ l0_0 t125 _ ?side1 ?side2 A43.out).mono ?_
   (case side1 => exact c2_ HR0_0 HB)
   (case side2 => exact HC0_0.out)
   rintro e w102 ⟨v126, rfl, ho0, hb⟩
   refine ⟨_, rfl, ?_⟩
   have HO127 := Aside0.mk (Kd.R_lower (Kd.R_new' (Kd.R_new' (Kd.R_new' (Kd.R_new' ho0 (Kd.R_lt (rb_ HO_6.out))) (Kd.R_lt (rb_ HO_9.out))) (Kd.R_lt (rb_ HO_10.out))) (Kd.R_lt (rb_ HO_117000.out))) (below_size (gb_ HB.out)))
   replace HO_6 := a5_ HO_6 ho0 hb
   replace HO_9 := a5_ HO_9 ho0 hb
   replace HO_10 := a5_ HO_10 ho0 hb
   replace HO_117000 := a5_ HO_117000 ho0 hb
   replace BK101 := a2_ BK101 hb
   replace BK116 := a2_ BK116 hb
   replace HB := b1_ HB hb
   (try clear hb)
   (try clear hb2)
   (try clear hk)
   (try clear hi)
   (try clear ho0)
   obtain ⟨Ao103, co103, eo103⟩ := Kd.R_slice HO127.out
   (first | subst eo103 | (injection eo103 with f1_ f2_ f3_; have f4_ := f1_.symm; have f5_ := f3_.symm; clear f1_ f2_ f3_; subst f4_; subst f5_))
   refine hK.out _ _ ⟨(blk_cell BK116.out 0).trans rfl, (blk_cell BK101.out 0).trans rfl⟩ (fun hHeld => ?_)
   clear hK K
   refine norm_ (a' := ?_) ?_ ?_
   rotate_left
   ·show Act.put _ (some 54) _ = _
    simp only [Act.put, List.setIfInBounds_toArray, List.set_cons_zero, List.set_cons_succ, i64_w, i32_w]
    rfl
   refine one_ (i := 3) (N := some 55) #[true, true, true, true, false] rfl rfl (by kernel_rfl) (by decide) (fun K hK => ?_)
   refine goes_ Try.func11 (by kernel_rfl) rfl #[.agg #[.slice Ao29 t113.length co29], .agg #[.slice Ao103 t125.length co103]] (by rfl) rfl rfl t1_ ?_
   with_reducible refine (laws_eqSpace.calls kj15 _ _ t113 _ _ t125 true _ ?side1 ?side2 ?side3 ?side4 A44.out).mono ?_
   (case side1 => exact c1_ HO_117000)
   (case side2 => exact (Kd.R_reads' HO_117000.out).2.1)
   (case side3 => exact c1_ HO127)
   (case side4 => exact (Kd.R_reads' HO127.out).2.1)
   rintro e w104 ⟨rfl, hb⟩
   refine ⟨_, rfl, ?_⟩
   replace HO_6 := a1_ HO_6 hb
   replace HO_9 := a1_ HO_9 hb
   replace HO_10 := a1_ HO_10 hb
   replace HO_117000 := a1_ HO_117000 hb
   replace HO127 := a1_ HO127 hb
   replace BK101 := a2_ BK101 hb
   replace BK116 := a2_ BK116 hb
   replace HB := b1_ HB hb
   (try clear hb)
   (try clear hb2)
   (try clear hk)
   (try clear hi)
   refine hK.out _ _ ⟨(blk_cell BK116.out 0).trans rfl, (blk_cell BK101.out 0).trans rfl⟩ (fun hHeld => ?_)
   clear hK K
   refine norm_ (a' := ?_) ?_ ?_
   rotate_left
   ·show Act.put _ (some 55) _ = _
    simp only [Act.put, List.setIfInBounds_toArray, List.set_cons_zero, List.set_cons_succ, i64_w, i32_w]
    rfl
   refine pure_ (i := 4) (N := some 56) (v := ?_) (a' := ?_) #[true, true, true, true, true] rfl rfl (by kernel_rfl) (fun _ _ _ h => h) (Or.inl ⟨by rfl, ?_⟩) ?_ ?_
   rotate_left
   ·exact t7_
   rotate_left
   ·exact t4_
   refine done_ (by kernel_rfl) ?_
   try go_wp2_with (first | ((with_reducible refine gate_callee (f := 9) rfl ?_); refine gl_ (some 59) rfl rfl Try.func9 #[.slice A1 l1.length c1] rfl ?_; (with_reducible refine (laws_toInt64S.calls kj15 _ _ l1 t129 _ ?side1 ?side2 A46.out).mono ?_); (case side1 => exact c2_ HR1 HB); (case side2 => exact HC1.out); rintro e w105 ⟨v130, rfl, ho0, hb⟩; refine ⟨_, rfl, ?_⟩; have HO131 := Aside0.mk (Kd.R_lower (Kd.R_new' (Kd.R_new' (Kd.R_new' (Kd.R_new' (Kd.R_new' ho0 (Kd.R_lt (rb_ HO_6.out))) (Kd.R_lt (rb_ HO_9.out))) (Kd.R_lt (rb_ HO_10.out))) (Kd.R_lt (rb_ HO_117000.out))) (Kd.R_lt (rb_ HO127.out))) (below_size (gb_ HB.out))); replace HO_6 := a5_ HO_6 ho0 hb; replace HO_9 := a5_ HO_9 ho0 hb; replace HO_10 := a5_ HO_10 ho0 hb; replace HO_117000 := a5_ HO_117000 ho0 hb; replace HO127 := a5_ HO127 ho0 hb; replace BK101 := a2_ BK101 hb; replace BK116 := a2_ BK116 hb; replace HB := b1_ HB hb; (try clear hb); (try clear hb2); (try clear hk); (try clear hi); (try clear ho0); obtain ⟨Ao106, co106, eo106⟩ := Kd.R_slice HO131.out; subst eo106) | ((with_reducible refine gate_callee (f := 12) rfl ?_); refine gl_ (some 60) rfl rfl Try.func12 #[.slice Ao34 t117.length co34, .slice Ao106 t129.length co106] rfl ?_; (with_reducible refine (laws_eqInt64S.calls kj15 _ _ t117 _ _ t129 false _ ?side1 ?side2 ?side3 ?side4 A47.out).mono ?_); (case side1 => exact c1_ HO_9); (case side2 => exact (Kd.R_reads' HO_9.out).2.1); (case side3 => exact c1_ HO131); (case side4 => exact (Kd.R_reads' HO131.out).2.1); rintro e w' ⟨rfl, ⟨nd, rfl⟩⟩; refine ⟨_, rfl, ?_⟩))
   go_ret
   exact ⟨t5_, gb_ HB.out⟩
  subst c48
  have H1 : ((laws_markSpace.f kj15 t113 1).bind fun bt133 => ((laws_markInt64S.f kj15 t117 bt133.1).bind fun bt135 => (if bt135.1 < 0 then (laws_FnExactLeastForm.j1 kj15 l1 t109 t112 t120 true l0_0) else ((laws_eqInt64S.f kj15 t120 t109).bind fun t137 => (if t137 = true then (laws_FnExactLeastForm.j1 kj15 l1 t109 t112 t120 (t123 != t112) l0_0) else (laws_FnExactLeastForm.j1 kj15 l1 t109 t112 t120 true l0_0)))))) = some r := by rw [if_pos rfl] at H; exact H
  clear H
  have H := H1
  clear H1
  replace H := Option.bind_eq_some_iff.mp H
  obtain ⟨⟨t133, t134⟩, A490, H⟩ := H
  replace H : ((laws_markInt64S.f kj15 t117 t133).bind fun bt135 => (if bt135.1 < 0 then (laws_FnExactLeastForm.j1 kj15 l1 t109 t112 t120 true l0_0) else ((laws_eqInt64S.f kj15 t120 t109).bind fun t137 => (if t137 = true then (laws_FnExactLeastForm.j1 kj15 l1 t109 t112 t120 (t123 != t112) l0_0) else (laws_FnExactLeastForm.j1 kj15 l1 t109 t112 t120 true l0_0))))) = some r := H
  have A49 := Aside0.mk A490
  clear A490
  replace H := Option.bind_eq_some_iff.mp H
  obtain ⟨⟨t135, t136⟩, A500, H⟩ := H
  replace H : (if t135 < 0 then (laws_FnExactLeastForm.j1 kj15 l1 t109 t112 t120 true l0_0) else ((laws_eqInt64S.f kj15 t120 t109).bind fun t137 => (if t137 = true then (laws_FnExactLeastForm.j1 kj15 l1 t109 t112 t120 (t123 != t112) l0_0) else (laws_FnExactLeastForm.j1 kj15 l1 t109 t112 t120 true l0_0)))) = some r := H
  have A50 := Aside0.mk A500
  clear A500
  have HC51 := Aside0.mk H
  clear H
  try go_wp2
  replace HO_6 := Aside0.mk (Kd.R_drew HO_6.out)
  replace HO_9 := Aside0.mk (Kd.R_drew HO_9.out)
  replace HO_10 := Aside0.mk (Kd.R_drew HO_10.out)
  replace HO_117000 := Aside0.mk (Kd.R_drew HO_117000.out)
  replace BK101 := Aside0.mk (blk_drew BK101.out)
  replace BK116 := Aside0.mk (blk_drew BK116.out)
  replace HB := Aside0.mk (below_drew1 HB.out)
  refine start_ (n := 5) (S := fun w' => w'.cell? ⟨gb116, 0, none⟩ = some (.slice Ao29 t113.length co29) ∧ w'.cell? ⟨gb101, 0, none⟩ = some (.slice A0_0 l0_0.length c0_0)) (ds := []) #[false, false, false, false, false] (by kernel_rfl) rfl rfl ⟨(blk_cell BK116.out 0).trans rfl, (blk_cell BK101.out 0).trans rfl⟩ (fun hHeld => ?_)
  generalize wc.drew = w52 at HO_6 HO_9 HO_10 HO_117000 BK101 BK116 HB hHeld ⊢
  refine take_ (i := 0) (N := some 52) (v := ?_) (a' := ?_) #[true, false, false, false, false] rfl rfl (by kernel_rfl) (fun _ _ _ h => h) (Or.inl ⟨by rfl, ?_⟩) hHeld ?_ ?_
  rotate_left
  ·rintro w' ⟨s0, s1⟩
   go_simp
   with_reducible rfl
  rotate_left
  ·exact t4_
  refine take_ (i := 1) (N := some 53) (v := ?_) (a' := ?_) #[true, true, false, false, false] rfl rfl (by kernel_rfl) (fun _ _ _ h => h) (Or.inl ⟨by rfl, ?_⟩) hHeld ?_ ?_
  rotate_left
  ·rintro w' ⟨s0, s1⟩
   go_simp
   with_reducible rfl
  rotate_left
  ·exact t4_
  refine one_ (i := 2) (N := some 54) #[true, true, true, false, false] rfl rfl (by kernel_rfl) (by decide) (fun K hK => ?_)
  refine goes_ Try.func8 (by kernel_rfl) rfl #[.agg #[.slice A0_0 l0_0.length c0_0]] (by rfl) rfl rfl t1_ ?_
  with_reducible refine (laws_toSpace.calls kj15 _ _ l0_0 t125 _ ?side1 ?side2 A43.out).mono ?_
  (case side1 => exact c2_ HR0_0 HB)
  (case side2 => exact HC0_0.out)
  rintro e w53 ⟨v126, rfl, ho0, hb⟩
  refine ⟨_, rfl, ?_⟩
  have HO127 := Aside0.mk (Kd.R_lower (Kd.R_new' (Kd.R_new' (Kd.R_new' (Kd.R_new' ho0 (Kd.R_lt (rb_ HO_6.out))) (Kd.R_lt (rb_ HO_9.out))) (Kd.R_lt (rb_ HO_10.out))) (Kd.R_lt (rb_ HO_117000.out))) (below_size (gb_ HB.out)))
  replace HO_6 := a5_ HO_6 ho0 hb
  replace HO_9 := a5_ HO_9 ho0 hb
  replace HO_10 := a5_ HO_10 ho0 hb
  replace HO_117000 := a5_ HO_117000 ho0 hb
  replace BK101 := a2_ BK101 hb
  replace BK116 := a2_ BK116 hb
  replace HB := b1_ HB hb
  (try clear hb)
  (try clear hb2)
  (try clear hk)
  (try clear hi)
  (try clear ho0)
  obtain ⟨Ao54, co54, eo54⟩ := Kd.R_slice HO127.out
  (first | subst eo54 | (injection eo54 with f1_ f2_ f3_; have f4_ := f1_.symm; have f5_ := f3_.symm; clear f1_ f2_ f3_; subst f4_; subst f5_))
  refine hK.out _ _ ⟨(blk_cell BK116.out 0).trans rfl, (blk_cell BK101.out 0).trans rfl⟩ (fun hHeld => ?_)
  clear hK K
  refine norm_ (a' := ?_) ?_ ?_
  rotate_left
  ·show Act.put _ (some 54) _ = _
   simp only [Act.put, List.setIfInBounds_toArray, List.set_cons_zero, List.set_cons_succ, i64_w, i32_w]
   rfl
  refine one_ (i := 3) (N := some 55) #[true, true, true, true, false] rfl rfl (by kernel_rfl) (by decide) (fun K hK => ?_)
  refine goes_ Try.func11 (by kernel_rfl) rfl #[.agg #[.slice Ao29 t113.length co29], .agg #[.slice Ao54 t125.length co54]] (by rfl) rfl rfl t1_ ?_
  with_reducible refine (laws_eqSpace.calls kj15 _ _ t113 _ _ t125 true _ ?side1 ?side2 ?side3 ?side4 A44.out).mono ?_
  (case side1 => exact c1_ HO_117000)
  (case side2 => exact (Kd.R_reads' HO_117000.out).2.1)
  (case side3 => exact c1_ HO127)
  (case side4 => exact (Kd.R_reads' HO127.out).2.1)
  rintro e w55 ⟨rfl, hb⟩
  refine ⟨_, rfl, ?_⟩
  replace HO_6 := a1_ HO_6 hb
  replace HO_9 := a1_ HO_9 hb
  replace HO_10 := a1_ HO_10 hb
  replace HO_117000 := a1_ HO_117000 hb
  replace HO127 := a1_ HO127 hb
  replace BK101 := a2_ BK101 hb
  replace BK116 := a2_ BK116 hb
  replace HB := b1_ HB hb
  (try clear hb)
  (try clear hb2)
  (try clear hk)
  (try clear hi)
  refine hK.out _ _ ⟨(blk_cell BK116.out 0).trans rfl, (blk_cell BK101.out 0).trans rfl⟩ (fun hHeld => ?_)
  clear hK K
  refine norm_ (a' := ?_) ?_ ?_
  rotate_left
  ·show Act.put _ (some 55) _ = _
   simp only [Act.put, List.setIfInBounds_toArray, List.set_cons_zero, List.set_cons_succ, i64_w, i32_w]
   rfl
  refine pure_ (i := 4) (N := some 56) (v := ?_) (a' := ?_) #[true, true, true, true, true] rfl rfl (by kernel_rfl) (fun _ _ _ h => h) (Or.inl ⟨by rfl, ?_⟩) ?_ ?_
  rotate_left
  ·exact t7_
  rotate_left
  ·exact t4_
  refine done_ (by kernel_rfl) ?_
  go_upto_region 20 with (first | ((with_reducible refine gate_callee (f := 9) rfl ?_); refine gl_ (some 59) rfl rfl Try.func9 #[.slice A1 l1.length c1] rfl ?_; (with_reducible refine (laws_toInt64S.calls kj15 _ _ l1 t129 _ ?side1 ?side2 A46.out).mono ?_); (case side1 => exact c2_ HR1 HB); (case side2 => exact HC1.out); rintro e w56 ⟨v130, rfl, ho0, hb⟩; refine ⟨_, rfl, ?_⟩; have HO131 := Aside0.mk (Kd.R_lower (Kd.R_new' (Kd.R_new' (Kd.R_new' (Kd.R_new' (Kd.R_new' ho0 (Kd.R_lt (rb_ HO_6.out))) (Kd.R_lt (rb_ HO_9.out))) (Kd.R_lt (rb_ HO_10.out))) (Kd.R_lt (rb_ HO_117000.out))) (Kd.R_lt (rb_ HO127.out))) (below_size (gb_ HB.out))); replace HO_6 := a5_ HO_6 ho0 hb; replace HO_9 := a5_ HO_9 ho0 hb; replace HO_10 := a5_ HO_10 ho0 hb; replace HO_117000 := a5_ HO_117000 ho0 hb; replace HO127 := a5_ HO127 ho0 hb; replace BK101 := a2_ BK101 hb; replace BK116 := a2_ BK116 hb; replace HB := b1_ HB hb; (try clear hb); (try clear hb2); (try clear hk); (try clear hi); (try clear ho0); obtain ⟨Ao57, co57, eo57⟩ := Kd.R_slice HO131.out; subst eo57) | ((with_reducible refine gate_callee (f := 12) rfl ?_); refine gl_ (some 60) rfl rfl Try.func12 #[.slice Ao34 t117.length co34, .slice Ao57 t129.length co57] rfl ?_; (with_reducible refine (laws_eqInt64S.calls kj15 _ _ t117 _ _ t129 true _ ?side1 ?side2 ?side3 ?side4 A47.out).mono ?_); (case side1 => exact c1_ HO_9); (case side2 => exact (Kd.R_reads' HO_9.out).2.1); (case side3 => exact c1_ HO131); (case side4 => exact (Kd.R_reads' HO131.out).2.1); rintro e w' ⟨rfl, ⟨nd, rfl⟩⟩; refine ⟨_, rfl, ?_⟩; have hnb58 := NB116_101.out; have hnc58 := NB101_116.out; have hcz59_0 := hz_ BK116; have hfz59_0 := blk_frozen BK116.out 0) | ((with_reducible refine gate_callee (f := 17) rfl ?_); refine gl_ (some 64) rfl rfl Try.func17 #[.agg #[.slice Ao29 t113.length co29], .int .i64 1] rfl ?_; (with_reducible refine (laws_markSpace.calls kj15 (fun k_ => some k_ = (.slice Ao29 t113.length co29 : Value).ownBlock) (.slice Ao29 t113.length co29) t113 1 t133 t134 w _ ?side1 ?side2 A49.out).mono ?_); (case side1 => exact gb_ HB.out); (case side2 => exact Kd.R_tight rfl HO_117000.out); rintro e w60 ⟨rfl, hy0, hb, hkp⟩; refine ⟨_, rfl, ?_⟩; replace HO_6 := Aside0.mk (Kd.R_mono (ok' := fun k_ => OB_ k_ (.slice Ao34 t117.length co34) ∧ OB_ k_ v121 ∧ OB_ k_ (.slice Ao29 t113.length co29) ∧ OB_ k_ (.slice Ao54 t125.length co54) ∧ OB_ k_ (.slice Ao57 t129.length co57)) (Kd.R_keptB (HO_6.out) hkp (fun k_ hk_ hs_ => (hk_.1.1.2.2) hs_)) (fun k_ hk_ => ⟨hk_.1.1.1.1, hk_.1.1.1.2.1, hk_.1.1.1.2.2, hk_.1.1.2, hk_.1.2⟩)); replace HO_9 := Aside0.mk (Kd.R_mono (ok' := fun k_ => OB_ k_ v110 ∧ OB_ k_ v121 ∧ OB_ k_ (.slice Ao29 t113.length co29) ∧ OB_ k_ (.slice Ao54 t125.length co54) ∧ OB_ k_ (.slice Ao57 t129.length co57)) (Kd.R_keptB (HO_9.out) hkp (fun k_ hk_ hs_ => (hk_.1.1.2.2) hs_)) (fun k_ hk_ => ⟨hk_.1.1.1.1, hk_.1.1.1.2.1, hk_.1.1.1.2.2, hk_.1.1.2, hk_.1.2⟩)); replace HO_10 := Aside0.mk (Kd.R_mono (ok' := fun k_ => OB_ k_ v110 ∧ OB_ k_ (.slice Ao34 t117.length co34) ∧ OB_ k_ (.slice Ao29 t113.length co29) ∧ OB_ k_ (.slice Ao54 t125.length co54) ∧ OB_ k_ (.slice Ao57 t129.length co57)) (Kd.R_keptB (HO_10.out) hkp (fun k_ hk_ hs_ => (hk_.1.1.2.2) hs_)) (fun k_ hk_ => ⟨hk_.1.1.1.1, hk_.1.1.1.2.1, hk_.1.1.1.2.2, hk_.1.1.2, hk_.1.2⟩)); replace BK101 := a7_ BK101 hkp HO_117000; replace BK116 := a7_ BK116 hkp HO_117000; replace HO_117000 := Aside0.mk (Kd.R_reok rfl hy0 (fun k_ e_ => HO_117000.out.1 k_ e_)); replace HO127 := Aside0.mk (Kd.R_mono (ok' := fun k_ => OB_ k_ v110 ∧ OB_ k_ (.slice Ao34 t117.length co34) ∧ OB_ k_ v121 ∧ OB_ k_ (.slice Ao29 t113.length co29) ∧ OB_ k_ (.slice Ao57 t129.length co57)) (Kd.R_keptB (HO127.out) hkp (fun k_ hk_ hs_ => (hk_.1.2) hs_)) (fun k_ hk_ => ⟨hk_.1.1.1.1.1.2, hk_.1.1.1.1.2, hk_.1.1.1.2, hk_.1.1.2, hk_.1.2⟩)); replace HO131 := Aside0.mk (Kd.R_mono (ok' := fun k_ => OB_ k_ v110 ∧ OB_ k_ (.slice Ao34 t117.length co34) ∧ OB_ k_ v121 ∧ OB_ k_ (.slice Ao29 t113.length co29) ∧ OB_ k_ (.slice Ao54 t125.length co54)) (Kd.R_keptB (HO131.out) hkp (fun k_ hk_ hs_ => (hk_.1.2) hs_)) (fun k_ hk_ => ⟨hk_.1.1.1.1.1.2, hk_.1.1.1.1.2, hk_.1.1.1.2, hk_.1.1.2, hk_.1.2⟩)); replace HB := Aside0.mk (hb); (try clear hb); (try clear hkp); (try clear hy0)) | ((with_reducible refine gate_callee (f := 18) rfl ?_); refine gl_ (some 67) rfl rfl Try.func18 #[.slice Ao34 t117.length co34, .int .i64 t133] rfl ?_; (with_reducible refine (laws_markInt64S.calls kj15 (fun k_ => some k_ = (.slice Ao34 t117.length co34 : Value).ownBlock) (.slice Ao34 t117.length co34) t117 t133 t135 t136 w _ ?side1 ?side2 A50.out).mono ?_); (case side1 => exact gb_ HB.out); (case side2 => exact Kd.R_tight rfl HO_9.out); rintro e w61 ⟨rfl, hy0, hb, hkp⟩; refine ⟨_, rfl, ?_⟩; replace HO_6 := Aside0.mk (Kd.R_mono (ok' := fun k_ => OB_ k_ (.slice Ao34 t117.length co34) ∧ OB_ k_ v121 ∧ OB_ k_ (.slice Ao29 t113.length co29) ∧ OB_ k_ (.slice Ao54 t125.length co54) ∧ OB_ k_ (.slice Ao57 t129.length co57)) (Kd.R_keptB (HO_6.out) hkp (fun k_ hk_ hs_ => (hk_.1) hs_)) (fun k_ hk_ => ⟨hk_.1.1, hk_.1.2.1, hk_.1.2.2.1, hk_.1.2.2.2.1, hk_.1.2.2.2.2⟩)); replace HO_10 := Aside0.mk (Kd.R_mono (ok' := fun k_ => OB_ k_ v110 ∧ OB_ k_ (.slice Ao34 t117.length co34) ∧ OB_ k_ (.slice Ao29 t113.length co29) ∧ OB_ k_ (.slice Ao54 t125.length co54) ∧ OB_ k_ (.slice Ao57 t129.length co57)) (Kd.R_keptB (HO_10.out) hkp (fun k_ hk_ hs_ => (hk_.2.1) hs_)) (fun k_ hk_ => ⟨hk_.1.1, hk_.1.2.1, hk_.1.2.2.1, hk_.1.2.2.2.1, hk_.1.2.2.2.2⟩)); replace HO_117000 := Aside0.mk (Kd.R_mono (ok' := fun k_ => OB_ k_ v110 ∧ OB_ k_ (.slice Ao34 t117.length co34) ∧ OB_ k_ v121 ∧ OB_ k_ (.slice Ao54 t125.length co54) ∧ OB_ k_ (.slice Ao57 t129.length co57)) (Kd.R_keptB (HO_117000.out) hkp (fun k_ hk_ hs_ => (hk_.1.1.2.1) hs_)) (fun k_ hk_ => ⟨hk_.1.1.1.1, hk_.1.1.1.2.1, hk_.1.1.1.2.2, hk_.1.1.2, hk_.1.2⟩)); replace BK101 := a7_ BK101 hkp HO_9; replace BK116 := a7_ BK116 hkp HO_9; replace HO_9 := Aside0.mk (Kd.R_reok rfl hy0 (fun k_ e_ => HO_9.out.1 k_ e_)); replace HO127 := Aside0.mk (Kd.R_mono (ok' := fun k_ => OB_ k_ v110 ∧ OB_ k_ (.slice Ao34 t117.length co34) ∧ OB_ k_ v121 ∧ OB_ k_ (.slice Ao29 t113.length co29) ∧ OB_ k_ (.slice Ao57 t129.length co57)) (Kd.R_keptB (HO127.out) hkp (fun k_ hk_ hs_ => (hk_.2.1) hs_)) (fun k_ hk_ => ⟨hk_.1.1, hk_.1.2.1, hk_.1.2.2.1, hk_.1.2.2.2.1, hk_.1.2.2.2.2⟩)); replace HO131 := Aside0.mk (Kd.R_mono (ok' := fun k_ => OB_ k_ v110 ∧ OB_ k_ (.slice Ao34 t117.length co34) ∧ OB_ k_ v121 ∧ OB_ k_ (.slice Ao29 t113.length co29) ∧ OB_ k_ (.slice Ao54 t125.length co54)) (Kd.R_keptB (HO131.out) hkp (fun k_ hk_ hs_ => (hk_.2.1) hs_)) (fun k_ hk_ => ⟨hk_.1.1, hk_.1.2.1, hk_.1.2.2.1, hk_.1.2.2.2.1, hk_.1.2.2.2.2⟩)); replace HB := Aside0.mk (hb); (try clear hb); (try clear hkp); (try clear hy0)))
  (try simp only [Act.put, List.setIfInBounds_toArray, List.set_cons_zero, List.set_cons_succ])
  go_cut [80] (fun cs_80 wc => ∃ (kq : Nat) (x80_50 : Bool), cs_80 = .bool x80_50 ∧ Aside0 (laws_FnExactLeastForm.j1 kq l1 t109 t112 t120 x80_50 l0_0 = some r) ∧ Aside0 (kq ≤ kj15) ∧ Aside0 (Kd.R (Kd.int .i64) 2 wc w.heap.size (fun k_ => OB_ k_ v121 ∧ OB_ k_ (.slice Ao29 t113.length co29)) v110 t109) ∧ Aside0 (Kd.R (Kd.int .i64) 2 wc w.heap.size (fun k_ => OB_ k_ v110 ∧ OB_ k_ (.slice Ao29 t113.length co29)) v121 t120) ∧ Aside0 (Kd.R (Kd.int .i64) 2 wc w.heap.size (fun k_ => OB_ k_ v110 ∧ OB_ k_ v121) (.slice Ao29 t113.length co29) t134) ∧ Aside0 (wc.heap[gb101]? = some (.cells #[(.slice A0_0 l0_0.length c0_0)] 24 (0, 0))) ∧ Aside0 (wc.heap[gb116]? = some (.cells #[(.slice Ao29 t113.length co29)] 28 (0, 0))) ∧ Aside0 (Below w.heap.size w wc))
  case first =>
   have H := HC51.out
   clear HC51
   by_cases c62 : t135 < 0
   ·rw [if_pos c62] at H
    have c62b0 : decide (t135 < 0) = true := decide_eq_true c62
    clear c62
    (first | rw [c62b0] | (simp only [i64_w, i32_w]; rw [c62b0]) | skip)
    have H' := Aside0.mk H
    clear H
    go_wp2
    go_meet
    case rel => exact ⟨_, (true), t2_, H', ⟨by have := HJ15.out; first | omega | exact Nat.le_refl _⟩, ⟨by (with_reducible repeat (first | apply Kd.R_alloc | apply Kd.R_drewN | apply Kd.R_drew)); exact Kd.R_mono HO_6.out (fun _ hk => by grind)⟩, ⟨by (with_reducible repeat (first | apply Kd.R_alloc | apply Kd.R_drewN | apply Kd.R_drew)); exact Kd.R_mono HO_10.out (fun _ hk => by grind)⟩, ⟨by (with_reducible repeat (first | apply Kd.R_alloc | apply Kd.R_drewN | apply Kd.R_drew)); exact Kd.R_mono HO_117000.out (fun _ hk => by grind)⟩, ⟨bb_ BK101.out⟩, ⟨bb_ BK116.out⟩, ⟨gb_ HB.out⟩⟩
   rw [if_neg c62] at H
   have c62b0 : decide (t135 < 0) = false := decide_eq_false c62
   clear c62
   (first | rw [c62b0] | (simp only [i64_w, i32_w]; rw [c62b0]) | skip)
   replace H := Option.bind_eq_some_iff.mp H
   obtain ⟨t137, A630, H⟩ := H
   replace H : (if t137 = true then (laws_FnExactLeastForm.j1 kj15 l1 t109 t112 t120 (t123 != t112) l0_0) else (laws_FnExactLeastForm.j1 kj15 l1 t109 t112 t120 true l0_0)) = some r := H
   have A63 := Aside0.mk A630
   clear A630
   by_cases c64 : t137 = true
   ·subst c64
    have H1 : (laws_FnExactLeastForm.j1 kj15 l1 t109 t112 t120 (t123 != t112) l0_0) = some r := by rw [if_pos rfl] at H; exact H
    clear H
    have H := H1
    clear H1
    have H' := Aside0.mk H
    clear H
    obtain ⟨Ao65, co65, eo65⟩ := Kd.R_slice HO_10.out
    subst eo65
    obtain ⟨Ao66, co66, eo66⟩ := Kd.R_slice HO_6.out
    subst eo66
    go_wp2_with (first | (go_at_call 12; (with_reducible refine (laws_eqInt64S.calls kj15 _ _ t120 _ _ t109 true _ ?side1 ?side2 ?side3 ?side4 A63.out).mono ?_); (case side1 => exact c1_ HO_10); (case side2 => exact (Kd.R_reads' HO_10.out).2.1); (case side3 => exact c1_ HO_6); (case side4 => exact (Kd.R_reads' HO_6.out).2.1); rintro e w' ⟨rfl, ⟨nd, rfl⟩⟩))
    go_meet
    case rel => exact ⟨_, ((t123 != t112)), t2_, H', ⟨by have := HJ15.out; first | omega | exact Nat.le_refl _⟩, ⟨by (with_reducible repeat (first | apply Kd.R_alloc | apply Kd.R_drewN | apply Kd.R_drew)); exact Kd.R_mono HO_6.out (fun _ hk => by grind)⟩, ⟨by (with_reducible repeat (first | apply Kd.R_alloc | apply Kd.R_drewN | apply Kd.R_drew)); exact Kd.R_mono HO_10.out (fun _ hk => by grind)⟩, ⟨by (with_reducible repeat (first | apply Kd.R_alloc | apply Kd.R_drewN | apply Kd.R_drew)); exact Kd.R_mono HO_117000.out (fun _ hk => by grind)⟩, ⟨bb_ BK101.out⟩, ⟨bb_ BK116.out⟩, ⟨gb_ HB.out⟩⟩
   replace c64 := Bool.eq_false_iff.mpr c64
   subst c64
   have H1 : (laws_FnExactLeastForm.j1 kj15 l1 t109 t112 t120 true l0_0) = some r := by rw [if_neg (show ¬ (false = true) by decide)] at H; exact H
   clear H
   have H := H1
   clear H1
   have H' := Aside0.mk H
   clear H
   obtain ⟨Ao67, co67, eo67⟩ := Kd.R_slice HO_10.out
   subst eo67
   obtain ⟨Ao68, co68, eo68⟩ := Kd.R_slice HO_6.out
   subst eo68
   go_wp2_with (first | (go_at_call 12; (with_reducible refine (laws_eqInt64S.calls kj15 _ _ t120 _ _ t109 false _ ?side1 ?side2 ?side3 ?side4 A63.out).mono ?_); (case side1 => exact c1_ HO_10); (case side2 => exact (Kd.R_reads' HO_10.out).2.1); (case side3 => exact c1_ HO_6); (case side4 => exact (Kd.R_reads' HO_6.out).2.1); rintro e w' ⟨rfl, ⟨nd, rfl⟩⟩))
   go_meet
   case rel => exact ⟨_, (true), t2_, H', ⟨by have := HJ15.out; first | omega | exact Nat.le_refl _⟩, ⟨by (with_reducible repeat (first | apply Kd.R_alloc | apply Kd.R_drewN | apply Kd.R_drew)); exact Kd.R_mono HO_6.out (fun _ hk => by grind)⟩, ⟨by (with_reducible repeat (first | apply Kd.R_alloc | apply Kd.R_drewN | apply Kd.R_drew)); exact Kd.R_mono HO_10.out (fun _ hk => by grind)⟩, ⟨by (with_reducible repeat (first | apply Kd.R_alloc | apply Kd.R_drewN | apply Kd.R_drew)); exact Kd.R_mono HO_117000.out (fun _ hk => by grind)⟩, ⟨bb_ BK101.out⟩, ⟨bb_ BK116.out⟩, ⟨gb_ HB.out⟩⟩
  clear HC51
  try clear c1
  try clear p2
  try clear c3
  try clear c3b0
  try clear c3b1
  try clear c4
  try clear c5
  try clear c6
  try clear c6b0
  try clear c8
  try clear c9
  try clear c11
  try clear c12
  try clear c15
  try clear c16
  try clear c17
  try clear c18
  try clear c30
  try clear c37
  try clear c42
  try clear c45
  try clear c48
  try clear c58
  try clear c62
  try clear c62b0
  try clear c64
  try clear hcz18_0
  try clear hcz20_0
  try clear hcz26_0
  try clear hcz31_0
  try clear hcz33_0
  try clear hcz59_0
  try clear hcz8_0
  try clear hfz18_0
  try clear hfz20_0
  try clear hfz26_0
  try clear hfz31_0
  try clear hfz33_0
  try clear hfz59_0
  try clear hfz8_0
  try clear p2
  obtain ⟨kq, x80_50, rfl, HA, HJ50, HO_6, HO_10, HO_117000, BK101, BK116, HB⟩ := hcut
  have hl117000_50 := (Kd.R_reads' HO_117000.out).1
  rw [hl117000_50] at HO_117000
  (try simp only [hl117000_50])
  (try simp only [hl117000_50] at BK101)
  (try simp only [hl117000_50] at BK116)
  (try simp only [hl117000_50] at HO_6)
  (try simp only [hl117000_50] at HO_10)
  cases kq with
  | zero => exact absurd HA.out (by simp [laws_FnExactLeastForm.j1])
  | succ kj50 =>
   have H := HA.out
   clear HA
   simp only [laws_FnExactLeastForm.j1] at H
   by_cases c69 : x80_50 = true
   ·subst c69
    have H1 : (some false) = some r := by rw [if_pos rfl] at H; exact H
    clear H
    have H := H1
    clear H1
    obtain rfl := Option.some.inj H
    go_wp2
    go_ret
    exact ⟨t5_, gb_ HB.out⟩
   replace c69 := Bool.eq_false_iff.mpr c69
   subst c69
   have H1 : ((laws_markInt64S.f kj50 t120 1).bind fun bt138 => ((laws_heldInt64S.f kj50 bt138.2 1).bind fun t140 => (if t140 < 0 then (some false) else (if t140 = bt138.1 then ((laws_toSpace.f kj50 l0_0).bind fun t141 => ((laws_toInt64S.f kj50 l1).bind fun t144 => ((impl_LeastForm.f t141 t144).bind fun bt147 => ((laws_eqInt64S.f kj50 bt147.1 t109).bind fun t151 => (if t151 = true then (laws_FnExactLeastForm.j2 kj50 bt138.2 bt138.1 (bt147.2 != t112)) else (laws_FnExactLeastForm.j2 kj50 bt138.2 bt138.1 true)))))) else (some false))))) = some r := by rw [if_neg (show ¬ (false = true) by decide)] at H; exact H
   clear H
   have H := H1
   clear H1
   replace H := Option.bind_eq_some_iff.mp H
   obtain ⟨⟨t138, t139⟩, A700, H⟩ := H
   replace H : ((laws_heldInt64S.f kj50 t139 1).bind fun t140 => (if t140 < 0 then (some false) else (if t140 = t138 then ((laws_toSpace.f kj50 l0_0).bind fun t141 => ((laws_toInt64S.f kj50 l1).bind fun t144 => ((impl_LeastForm.f t141 t144).bind fun bt147 => ((laws_eqInt64S.f kj50 bt147.1 t109).bind fun t151 => (if t151 = true then (laws_FnExactLeastForm.j2 kj50 t139 t138 (bt147.2 != t112)) else (laws_FnExactLeastForm.j2 kj50 t139 t138 true)))))) else (some false)))) = some r := H
   have A70 := Aside0.mk A700
   clear A700
   replace H := Option.bind_eq_some_iff.mp H
   obtain ⟨t140, A710, H⟩ := H
   replace H : (if t140 < 0 then (some false) else (if t140 = t138 then ((laws_toSpace.f kj50 l0_0).bind fun t141 => ((laws_toInt64S.f kj50 l1).bind fun t144 => ((impl_LeastForm.f t141 t144).bind fun bt147 => ((laws_eqInt64S.f kj50 bt147.1 t109).bind fun t151 => (if t151 = true then (laws_FnExactLeastForm.j2 kj50 t139 t138 (bt147.2 != t112)) else (laws_FnExactLeastForm.j2 kj50 t139 t138 true)))))) else (some false))) = some r := H
   have A71 := Aside0.mk A710
   clear A710
   by_cases c72 : t140 < 0
   ·rw [if_pos c72] at H
    have c72b0 : decide (t140 < 0) = true := decide_eq_true c72
    clear c72
    obtain rfl := Option.some.inj H
    obtain ⟨Ao73, co73, eo73⟩ := Kd.R_slice HO_10.out
    subst eo73
    go_wp2_with (first | ((with_reducible refine gate_callee (f := 18) rfl ?_); refine gl_ (some 83) rfl rfl Try.func18 #[.slice Ao73 t120.length co73, .int .i64 1] rfl ?_; (with_reducible refine (laws_markInt64S.calls kj50 (fun k_ => some k_ = (.slice Ao73 t120.length co73 : Value).ownBlock) (.slice Ao73 t120.length co73) t120 1 t138 t139 w _ ?side1 ?side2 A70.out).mono ?_); (case side1 => exact gb_ HB.out); (case side2 => exact Kd.R_tight rfl HO_10.out); rintro e w74 ⟨rfl, hy0, hb, hkp⟩; refine ⟨_, rfl, ?_⟩; replace HO_6 := Aside0.mk (Kd.R_mono (ok' := fun k_ => OB_ k_ (.slice Ao73 t120.length co73) ∧ OB_ k_ (.slice Ao29 t134.length co29)) (Kd.R_keptB (HO_6.out) hkp (fun k_ hk_ hs_ => (hk_.1) hs_)) (fun k_ hk_ => ⟨hk_.1.1, hk_.1.2⟩)); replace HO_117000 := Aside0.mk (Kd.R_mono (ok' := fun k_ => OB_ k_ v110 ∧ OB_ k_ (.slice Ao73 t120.length co73)) (Kd.R_keptB (HO_117000.out) hkp (fun k_ hk_ hs_ => (hk_.2) hs_)) (fun k_ hk_ => ⟨hk_.1.1, hk_.1.2⟩)); replace BK101 := a7_ BK101 hkp HO_10; replace BK116 := a7_ BK116 hkp HO_10; replace HO_10 := Aside0.mk (Kd.R_reok rfl hy0 (fun k_ e_ => HO_10.out.1 k_ e_)); replace HB := Aside0.mk (hb); (try clear hb); (try clear hkp); (try clear hy0)) | ((with_reducible refine gate_callee (f := 19) rfl ?_); refine goesL_ (some 86) rfl rfl Try.func19 (by kernel_rfl) rfl #[.slice Ao73 t139.length co73, .int .i64 1] rfl (by (try simp only [List.map_toArray, List.map_cons, List.map_nil]); first | done | (rw [show t139.length = t120.length from (Kd.R_reads' HO_10.out).1.symm] <;> rfl) | rfl | (simp only [List.length_drop, List.length_take]; rfl)) ?_; (with_reducible refine (laws_heldInt64S.calls kj50 _ _ t139 1 t140 _ ?side1 ?side2 A71.out).mono ?_); (case side1 => exact c1_ HO_10); (case side2 => rw [show t139.length = t120.length from (Kd.R_reads' HO_10.out).1.symm]; exact (Kd.R_reads' HO_10.out).2.1); rintro e w' ⟨rfl, ⟨nd, rfl⟩⟩; refine ⟨_, rfl, ?_⟩))
    go_ret
    exact ⟨t5_, gb_ HB.out⟩
   rw [if_neg c72] at H
   have c72b0 : decide (t140 < 0) = false := decide_eq_false c72
   clear c72
   by_cases c75 : t140 = t138
   rotate_left
   ·rw [if_neg c75] at H
    have c75b0 : (t140 == t138) = false := beq_eq_false_iff_ne.mpr c75
    have c75b1 : (t140 != t138) = true := bne_iff_ne.mpr c75
    obtain rfl := Option.some.inj H
    obtain ⟨Ao99, co99, eo99⟩ := Kd.R_slice HO_10.out
    subst eo99
    go_wp2_with (first | ((with_reducible refine gate_callee (f := 18) rfl ?_); refine gl_ (some 83) rfl rfl Try.func18 #[.slice Ao99 t120.length co99, .int .i64 1] rfl ?_; (with_reducible refine (laws_markInt64S.calls kj50 (fun k_ => some k_ = (.slice Ao99 t120.length co99 : Value).ownBlock) (.slice Ao99 t120.length co99) t120 1 t138 t139 w _ ?side1 ?side2 A70.out).mono ?_); (case side1 => exact gb_ HB.out); (case side2 => exact Kd.R_tight rfl HO_10.out); rintro e w100 ⟨rfl, hy0, hb, hkp⟩; refine ⟨_, rfl, ?_⟩; replace HO_6 := Aside0.mk (Kd.R_mono (ok' := fun k_ => OB_ k_ (.slice Ao99 t120.length co99) ∧ OB_ k_ (.slice Ao29 t134.length co29)) (Kd.R_keptB (HO_6.out) hkp (fun k_ hk_ hs_ => (hk_.1) hs_)) (fun k_ hk_ => ⟨hk_.1.1, hk_.1.2⟩)); replace HO_117000 := Aside0.mk (Kd.R_mono (ok' := fun k_ => OB_ k_ v110 ∧ OB_ k_ (.slice Ao99 t120.length co99)) (Kd.R_keptB (HO_117000.out) hkp (fun k_ hk_ hs_ => (hk_.2) hs_)) (fun k_ hk_ => ⟨hk_.1.1, hk_.1.2⟩)); replace BK101 := a7_ BK101 hkp HO_10; replace BK116 := a7_ BK116 hkp HO_10; replace HO_10 := Aside0.mk (Kd.R_reok rfl hy0 (fun k_ e_ => HO_10.out.1 k_ e_)); replace HB := Aside0.mk (hb); (try clear hb); (try clear hkp); (try clear hy0)) | ((with_reducible refine gate_callee (f := 19) rfl ?_); refine goesL_ (some 86) rfl rfl Try.func19 (by kernel_rfl) rfl #[.slice Ao99 t139.length co99, .int .i64 1] rfl (by (try simp only [List.map_toArray, List.map_cons, List.map_nil]); first | done | (rw [show t139.length = t120.length from (Kd.R_reads' HO_10.out).1.symm] <;> rfl) | rfl | (simp only [List.length_drop, List.length_take]; rfl)) ?_; (with_reducible refine (laws_heldInt64S.calls kj50 _ _ t139 1 t140 _ ?side1 ?side2 A71.out).mono ?_); (case side1 => exact c1_ HO_10); (case side2 => rw [show t139.length = t120.length from (Kd.R_reads' HO_10.out).1.symm]; exact (Kd.R_reads' HO_10.out).2.1); rintro e w' ⟨rfl, ⟨nd, rfl⟩⟩; refine ⟨_, rfl, ?_⟩))
    go_ret
    exact ⟨t5_, gb_ HB.out⟩
   rw [if_pos c75] at H
   have c75b0 : (t140 == t138) = true := beq_iff_eq.mpr c75
   have c75b1 : (t140 != t138) = false := bne_eq_false_iff_eq.mpr c75
   clear c75
   replace H := Option.bind_eq_some_iff.mp H
   obtain ⟨t141, A760, H⟩ := H
   replace H : ((laws_toInt64S.f kj50 l1).bind fun t144 => ((impl_LeastForm.f t141 t144).bind fun bt147 => ((laws_eqInt64S.f kj50 bt147.1 t109).bind fun t151 => (if t151 = true then (laws_FnExactLeastForm.j2 kj50 t139 t138 (bt147.2 != t112)) else (laws_FnExactLeastForm.j2 kj50 t139 t138 true))))) = some r := H
   have A76 := Aside0.mk A760
   clear A760
   replace H := Option.bind_eq_some_iff.mp H
   obtain ⟨t144, A770, H⟩ := H
   replace H : ((impl_LeastForm.f t141 t144).bind fun bt147 => ((laws_eqInt64S.f kj50 bt147.1 t109).bind fun t151 => (if t151 = true then (laws_FnExactLeastForm.j2 kj50 t139 t138 (bt147.2 != t112)) else (laws_FnExactLeastForm.j2 kj50 t139 t138 true)))) = some r := H
   have A77 := Aside0.mk A770
   clear A770
   replace H := Option.bind_eq_some_iff.mp H
   obtain ⟨⟨t147, t150⟩, A780, H⟩ := H
   replace H : ((laws_eqInt64S.f kj50 t147 t109).bind fun t151 => (if t151 = true then (laws_FnExactLeastForm.j2 kj50 t139 t138 (t150 != t112)) else (laws_FnExactLeastForm.j2 kj50 t139 t138 true))) = some r := H
   have A78 := Aside0.mk A780
   clear A780
   have HC79 := Aside0.mk H
   clear H
   obtain ⟨Ao80, co80, eo80⟩ := Kd.R_slice HO_10.out
   subst eo80
   go_upto_region 31 with (first | ((with_reducible refine gate_callee (f := 18) rfl ?_); refine gl_ (some 83) rfl rfl Try.func18 #[.slice Ao80 t120.length co80, .int .i64 1] rfl ?_; (with_reducible refine (laws_markInt64S.calls kj50 (fun k_ => some k_ = (.slice Ao80 t120.length co80 : Value).ownBlock) (.slice Ao80 t120.length co80) t120 1 t138 t139 w _ ?side1 ?side2 A70.out).mono ?_); (case side1 => exact gb_ HB.out); (case side2 => exact Kd.R_tight rfl HO_10.out); rintro e w81 ⟨rfl, hy0, hb, hkp⟩; refine ⟨_, rfl, ?_⟩; replace HO_6 := Aside0.mk (Kd.R_mono (ok' := fun k_ => OB_ k_ (.slice Ao80 t120.length co80) ∧ OB_ k_ (.slice Ao29 t134.length co29)) (Kd.R_keptB (HO_6.out) hkp (fun k_ hk_ hs_ => (hk_.1) hs_)) (fun k_ hk_ => ⟨hk_.1.1, hk_.1.2⟩)); replace HO_117000 := Aside0.mk (Kd.R_mono (ok' := fun k_ => OB_ k_ v110 ∧ OB_ k_ (.slice Ao80 t120.length co80)) (Kd.R_keptB (HO_117000.out) hkp (fun k_ hk_ hs_ => (hk_.2) hs_)) (fun k_ hk_ => ⟨hk_.1.1, hk_.1.2⟩)); replace BK101 := a7_ BK101 hkp HO_10; replace BK116 := a7_ BK116 hkp HO_10; replace HO_10 := Aside0.mk (Kd.R_reok rfl hy0 (fun k_ e_ => HO_10.out.1 k_ e_)); replace HB := Aside0.mk (hb); (try clear hb); (try clear hkp); (try clear hy0)) | ((with_reducible refine gate_callee (f := 19) rfl ?_); refine goesL_ (some 86) rfl rfl Try.func19 (by kernel_rfl) rfl #[.slice Ao80 t139.length co80, .int .i64 1] rfl (by (try simp only [List.map_toArray, List.map_cons, List.map_nil]); first | done | (rw [show t139.length = t120.length from (Kd.R_reads' HO_10.out).1.symm] <;> rfl) | rfl | (simp only [List.length_drop, List.length_take]; rfl)) ?_; (with_reducible refine (laws_heldInt64S.calls kj50 _ _ t139 1 t140 _ ?side1 ?side2 A71.out).mono ?_); (case side1 => exact c1_ HO_10); (case side2 => rw [show t139.length = t120.length from (Kd.R_reads' HO_10.out).1.symm]; exact (Kd.R_reads' HO_10.out).2.1); rintro e w' ⟨rfl, ⟨nd, rfl⟩⟩; refine ⟨_, rfl, ?_⟩; have hnb82 := NB101_116.out; have hnc82 := NB116_101.out; have hcz83_0 := hz_ BK101; have hfz83_0 := blk_frozen BK101.out 0) | ((with_reducible refine gate_callee (f := 8) rfl ?_); refine gl_ (some 94) rfl rfl Try.func8 #[.agg #[.slice A0_0 l0_0.length c0_0]] rfl ?_; (with_reducible refine (laws_toSpace.calls kj50 _ _ l0_0 t141 _ ?side1 ?side2 A76.out).mono ?_); (case side1 => repeat (first | exact (Kd.C_below HR0_0.out (gb_ HB.out)) | (with_reducible refine Kd.C_alloc ?_ _) | (with_reducible refine Kd.C_drewN ?_ _) | (with_reducible refine Kd.C_drew ?_))); (case side2 => exact HC0_0.out); rintro e w84 ⟨v142, rfl, ho0, hb⟩; refine ⟨_, rfl, ?_⟩; have HO143 := Aside0.mk (Kd.R_lower (Kd.R_new' (Kd.R_new' (Kd.R_new' ho0 (Kd.R_lt (rb_ HO_6.out))) (Kd.R_lt (rb_ HO_10.out))) (Kd.R_lt (rb_ HO_117000.out))) (below_size (gb_ HB.out))); replace HO_6 := a5_ HO_6 ho0 hb; replace HO_10 := a5_ HO_10 ho0 hb; replace HO_117000 := a5_ HO_117000 ho0 hb; replace BK101 := a2_ BK101 hb; replace BK116 := a2_ BK116 hb; replace HB := b1_ HB hb; (try clear hb); (try clear hb2); (try clear hk); (try clear hi); (try clear ho0)) | ((with_reducible refine gate_callee (f := 9) rfl ?_); refine gl_ (some 96) rfl rfl Try.func9 #[.slice A1 l1.length c1] rfl ?_; (with_reducible refine (laws_toInt64S.calls kj50 _ _ l1 t144 _ ?side1 ?side2 A77.out).mono ?_); (case side1 => exact c2_ HR1 HB); (case side2 => exact HC1.out); rintro e w85 ⟨v145, rfl, ho0, hb⟩; refine ⟨_, rfl, ?_⟩; have HO146 := Aside0.mk (Kd.R_lower (Kd.R_new' (Kd.R_new' (Kd.R_new' (Kd.R_new' ho0 (Kd.R_lt (rb_ HO_6.out))) (Kd.R_lt (rb_ HO_10.out))) (Kd.R_lt (rb_ HO_117000.out))) (Kd.R_lt (rb_ HO143.out))) (below_size (gb_ HB.out))); replace HO_6 := a5_ HO_6 ho0 hb; replace HO_10 := a5_ HO_10 ho0 hb; replace HO_117000 := a5_ HO_117000 ho0 hb; replace HO143 := a5_ HO143 ho0 hb; replace BK101 := a2_ BK101 hb; replace BK116 := a2_ BK116 hb; replace HB := b1_ HB hb; (try clear hb); (try clear hb2); (try clear hk); (try clear hi); (try clear ho0); obtain ⟨Ao86, co86, eo86⟩ := Kd.R_slice HO143.out; subst eo86; obtain ⟨Ao87, co87, eo87⟩ := Kd.R_slice HO146.out; subst eo87) | ((with_reducible refine gate_callee (f := 16) rfl ?_); refine gl_ (some 97) rfl rfl Try.func16 #[.agg #[.slice Ao86 t141.length co86], .slice Ao87 t144.length co87] rfl ?_; (with_reducible refine (impl_LeastForm.calls _ _ t141 _ _ t144 t147 t150 _ ?side1 ?side2 ?side3 ?side4 A78.out).mono ?_); (case side1 => exact c1_ HO143); (case side2 => exact (Kd.R_reads' HO143.out).2.1); (case side3 => exact c1_ HO146); (case side4 => exact (Kd.R_reads' HO146.out).2.1); rintro e w88 ⟨v148, rfl, ho0, hb⟩; refine ⟨_, rfl, ?_⟩; have HO149 := Aside0.mk (Kd.R_lower (Kd.R_new' (Kd.R_new' (Kd.R_new' (Kd.R_new' (Kd.R_new' ho0 (Kd.R_lt (rb_ HO_6.out))) (Kd.R_lt (rb_ HO_10.out))) (Kd.R_lt (rb_ HO_117000.out))) (Kd.R_lt (rb_ HO143.out))) (Kd.R_lt (rb_ HO146.out))) (below_size (gb_ HB.out))); replace HO_6 := a5_ HO_6 ho0 hb; replace HO_10 := a5_ HO_10 ho0 hb; replace HO_117000 := a5_ HO_117000 ho0 hb; replace HO143 := a5_ HO143 ho0 hb; replace HO146 := a5_ HO146 ho0 hb; replace BK101 := a2_ BK101 hb; replace BK116 := a2_ BK116 hb; replace HB := b1_ HB hb; (try clear hb); (try clear hb2); (try clear hk); (try clear hi); (try clear ho0)))
   (try simp only [Act.put, List.setIfInBounds_toArray, List.set_cons_zero, List.set_cons_succ])
   go_cut [108] (fun cs_108 wc => ∃ (kq : Nat) (x108_78 : Bool), cs_108 = .bool x108_78 ∧ Aside0 (laws_FnExactLeastForm.j2 kq t139 t138 x108_78 = some r) ∧ Aside0 (kq ≤ kj50) ∧ Aside0 (Kd.R (Kd.int .i64) 2 wc w.heap.size (fun k_ => OB_ k_ (.slice Ao29 t134.length co29)) (.slice Ao80 t120.length co80) t139) ∧ Aside0 (Kd.R (Kd.int .i64) 2 wc w.heap.size (fun k_ => OB_ k_ (.slice Ao80 t120.length co80)) (.slice Ao29 t134.length co29) t134) ∧ Aside0 (wc.heap[gb101]? = some (.cells #[(.slice A0_0 l0_0.length c0_0)] 24 (0, 0))) ∧ Aside0 (wc.heap[gb116]? = some (.cells #[(.slice Ao29 t134.length co29)] 28 (0, 0))) ∧ Aside0 (Below w.heap.size w wc))
   case first =>
    have H := HC79.out
    clear HC79
    replace H := Option.bind_eq_some_iff.mp H
    obtain ⟨t151, A890, H⟩ := H
    replace H : (if t151 = true then (laws_FnExactLeastForm.j2 kj50 t139 t138 (t150 != t112)) else (laws_FnExactLeastForm.j2 kj50 t139 t138 true)) = some r := H
    have A89 := Aside0.mk A890
    clear A890
    by_cases c90 : t151 = true
    ·subst c90
     have H1 : (laws_FnExactLeastForm.j2 kj50 t139 t138 (t150 != t112)) = some r := by rw [if_pos rfl] at H; exact H
     clear H
     have H := H1
     clear H1
     have H' := Aside0.mk H
     clear H
     obtain ⟨Ao91, co91, eo91⟩ := Kd.R_slice HO149.out
     subst eo91
     obtain ⟨Ao92, co92, eo92⟩ := Kd.R_slice HO_6.out
     subst eo92
     go_wp2_with (first | ((with_reducible refine gate_callee (f := 12) rfl ?_); refine gl_ (some 102) rfl rfl Try.func12 #[.slice Ao91 t147.length co91, .slice Ao92 t109.length co92] rfl ?_; (with_reducible refine (laws_eqInt64S.calls kj50 _ _ t147 _ _ t109 true _ ?side1 ?side2 ?side3 ?side4 A89.out).mono ?_); (case side1 => exact c1_ HO149); (case side2 => exact (Kd.R_reads' HO149.out).2.1); (case side3 => exact c1_ HO_6); (case side4 => exact (Kd.R_reads' HO_6.out).2.1); rintro e w' ⟨rfl, ⟨nd, rfl⟩⟩; refine ⟨_, rfl, ?_⟩))
     go_meet
     case rel => exact ⟨_, ((t150 != t112)), t2_, H', ⟨by have := HJ15.out; have := HJ50.out; first | omega | exact Nat.le_refl _⟩, ⟨by (try simp only [hl117000_50]); (with_reducible repeat (first | apply Kd.R_alloc | apply Kd.R_drewN | apply Kd.R_drew)); exact Kd.R_mono HO_10.out (fun _ hk => hk.1.1.1.2)⟩, ⟨by (try simp only [hl117000_50]); (with_reducible repeat (first | apply Kd.R_alloc | apply Kd.R_drewN | apply Kd.R_drew)); exact Kd.R_mono HO_117000.out (fun _ hk => hk.1.1.1.2)⟩, ⟨by (try simp only [hl117000_50]); (with_reducible repeat (first | refine blk_drewN ?_ _ | refine blk_drew ?_ | refine blk_alloc ?_ _)); exact BK101.out⟩, ⟨by (try simp only [hl117000_50]); (with_reducible repeat (first | refine blk_drewN ?_ _ | refine blk_drew ?_ | refine blk_alloc ?_ _)); exact BK116.out⟩, ⟨gb_ HB.out⟩⟩
    replace c90 := Bool.eq_false_iff.mpr c90
    subst c90
    have H1 : (laws_FnExactLeastForm.j2 kj50 t139 t138 true) = some r := by rw [if_neg (show ¬ (false = true) by decide)] at H; exact H
    clear H
    have H := H1
    clear H1
    have H' := Aside0.mk H
    clear H
    obtain ⟨Ao93, co93, eo93⟩ := Kd.R_slice HO149.out
    subst eo93
    obtain ⟨Ao94, co94, eo94⟩ := Kd.R_slice HO_6.out
    subst eo94
    go_wp2_with (first | ((with_reducible refine gate_callee (f := 12) rfl ?_); refine gl_ (some 102) rfl rfl Try.func12 #[.slice Ao93 t147.length co93, .slice Ao94 t109.length co94] rfl ?_; (with_reducible refine (laws_eqInt64S.calls kj50 _ _ t147 _ _ t109 false _ ?side1 ?side2 ?side3 ?side4 A89.out).mono ?_); (case side1 => exact c1_ HO149); (case side2 => exact (Kd.R_reads' HO149.out).2.1); (case side3 => exact c1_ HO_6); (case side4 => exact (Kd.R_reads' HO_6.out).2.1); rintro e w' ⟨rfl, ⟨nd, rfl⟩⟩; refine ⟨_, rfl, ?_⟩))
    go_meet
    case rel => exact ⟨_, (true), t2_, H', ⟨by have := HJ15.out; have := HJ50.out; first | omega | exact Nat.le_refl _⟩, ⟨by (try simp only [hl117000_50]); (with_reducible repeat (first | apply Kd.R_alloc | apply Kd.R_drewN | apply Kd.R_drew)); exact Kd.R_mono HO_10.out (fun _ hk => hk.1.1.1.2)⟩, ⟨by (try simp only [hl117000_50]); (with_reducible repeat (first | apply Kd.R_alloc | apply Kd.R_drewN | apply Kd.R_drew)); exact Kd.R_mono HO_117000.out (fun _ hk => hk.1.1.1.2)⟩, ⟨by (try simp only [hl117000_50]); (with_reducible repeat (first | refine blk_drewN ?_ _ | refine blk_drew ?_ | refine blk_alloc ?_ _)); exact BK101.out⟩, ⟨by (try simp only [hl117000_50]); (with_reducible repeat (first | refine blk_drewN ?_ _ | refine blk_drew ?_ | refine blk_alloc ?_ _)); exact BK116.out⟩, ⟨gb_ HB.out⟩⟩
   clear HC79
   try clear c1
   try clear p2
   try clear c3
   try clear c3b0
   try clear c3b1
   try clear c4
   try clear c5
   try clear c6
   try clear c6b0
   try clear c7
   try clear c8
   try clear c9
   try clear c11
   try clear c12
   try clear c15
   try clear c16
   try clear c17
   try clear c18
   try clear c19
   try clear c30
   try clear c37
   try clear c42
   try clear c45
   try clear c48
   try clear c58
   try clear c62
   try clear c62b0
   try clear c64
   try clear c69
   try clear c72
   try clear c72b0
   try clear c75
   try clear c75b0
   try clear c75b1
   try clear c82
   try clear c90
   try clear hcz18_0
   try clear hcz20_0
   try clear hcz26_0
   try clear hcz31_0
   try clear hcz33_0
   try clear hcz59_0
   try clear hcz83_0
   try clear hcz8_0
   try clear hfz18_0
   try clear hfz20_0
   try clear hfz26_0
   try clear hfz31_0
   try clear hfz33_0
   try clear hfz59_0
   try clear hfz83_0
   try clear hfz8_0
   try clear p2
   obtain ⟨kq, x108_78, rfl, HA, HJ78, HO_10, HO_117000, BK101, BK116, HB⟩ := hcut
   have hl10_78 := (Kd.R_reads' HO_10.out).1
   rw [hl10_78] at HO_10
   (try simp only [hl10_78])
   (try simp only [hl10_78] at BK101)
   (try simp only [hl10_78] at BK116)
   (try simp only [hl10_78] at HO_117000)
   cases kq with
   | zero => exact absurd HA.out (by simp [laws_FnExactLeastForm.j2])
   | succ kj78 =>
    have H := HA.out
    clear HA
    simp only [laws_FnExactLeastForm.j2] at H
    by_cases c95 : x108_78 = true
    ·subst c95
     have H1 : (some false) = some r := by rw [if_pos rfl] at H; exact H
     clear H
     have H := H1
     clear H1
     obtain rfl := Option.some.inj H
     go_wp2
     go_ret
     exact ⟨t5_, gb_ HB.out⟩
    replace c95 := Bool.eq_false_iff.mpr c95
    subst c95
    have H1 : ((laws_heldInt64S.f kj78 t139 1).bind fun t152 => (if t152 < 0 then (some false) else (if t152 = t138 then (some true) else (some false)))) = some r := by rw [if_neg (show ¬ (false = true) by decide)] at H; exact H
    clear H
    have H := H1
    clear H1
    replace H := Option.bind_eq_some_iff.mp H
    obtain ⟨t152, A960, H⟩ := H
    replace H : (if t152 < 0 then (some false) else (if t152 = t138 then (some true) else (some false))) = some r := H
    have A96 := Aside0.mk A960
    clear A960
    by_cases c97 : t152 < 0
    ·rw [if_pos c97] at H
     have c97b0 : decide (t152 < 0) = true := decide_eq_true c97
     clear c97
     obtain rfl := Option.some.inj H
     go_wp2_with (first | ((with_reducible refine gate_callee (f := 19) rfl ?_); refine gl_ (some 111) rfl rfl Try.func19 #[.slice Ao80 t139.length co80, .int .i64 1] rfl ?_; (with_reducible refine (laws_heldInt64S.calls kj78 _ _ t139 1 t152 _ ?side1 ?side2 A96.out).mono ?_); (case side1 => exact c1_ HO_10); (case side2 => exact (Kd.R_reads' HO_10.out).2.1); rintro e w' ⟨rfl, ⟨nd, rfl⟩⟩; refine ⟨_, rfl, ?_⟩))
     go_ret
     exact ⟨t5_, gb_ HB.out⟩
    rw [if_neg c97] at H
    have c97b0 : decide (t152 < 0) = false := decide_eq_false c97
    clear c97
    by_cases c98 : t152 = t138
    rotate_left
    ·rw [if_neg c98] at H
     have c98b0 : (t152 == t138) = false := beq_eq_false_iff_ne.mpr c98
     have c98b1 : (t152 != t138) = true := bne_iff_ne.mpr c98
     obtain rfl := Option.some.inj H
     go_wp2_with (first | ((with_reducible refine gate_callee (f := 19) rfl ?_); refine gl_ (some 111) rfl rfl Try.func19 #[.slice Ao80 t139.length co80, .int .i64 1] rfl ?_; (with_reducible refine (laws_heldInt64S.calls kj78 _ _ t139 1 t152 _ ?side1 ?side2 A96.out).mono ?_); (case side1 => exact c1_ HO_10); (case side2 => exact (Kd.R_reads' HO_10.out).2.1); rintro e w' ⟨rfl, ⟨nd, rfl⟩⟩; refine ⟨_, rfl, ?_⟩))
     go_ret
     exact ⟨t5_, gb_ HB.out⟩
    rw [if_pos c98] at H
    have c98b0 : (t152 == t138) = true := beq_iff_eq.mpr c98
    have c98b1 : (t152 != t138) = false := bne_eq_false_iff_eq.mpr c98
    clear c98
    obtain rfl := Option.some.inj H
    go_wp2_with (first | ((with_reducible refine gate_callee (f := 19) rfl ?_); refine gl_ (some 111) rfl rfl Try.func19 #[.slice Ao80 t139.length co80, .int .i64 1] rfl ?_; (with_reducible refine (laws_heldInt64S.calls kj78 _ _ t139 1 t152 _ ?side1 ?side2 A96.out).mono ?_); (case side1 => exact c1_ HO_10); (case side2 => exact (Kd.R_reads' HO_10.out).2.1); rintro e w' ⟨rfl, ⟨nd, rfl⟩⟩; refine ⟨_, rfl, ?_⟩))
    go_ret
    exact ⟨t5_, gb_ HB.out⟩
end Go.Proofs.Ytemjamfcepoefaa.P
set_option linter.unusedVariables false
set_option linter.unusedSimpArgs false
namespace Go.Proofs.Ytemjamfcepoefaa.Q
open Go.RowKit Go.Proofs.Ytemjamfcepoefaa.P Go.Proofs.YtemjamfcepoefaaW.PrintWords CC
theorem specLeastForm_ev (s : List Int) {c : List Int} (hcl : c.length ≤ 1048576) : Ev (fun k => spec_LeastForm.f k s c) (leastFR s c) := by
  unfold spec_LeastForm.f leastFR
  refine Ev.bind (specFew_ev s hcl hcl) ?_
  rw [rF2_same]
  by_cases h : rF1 s c = 0
  · obtain ⟨h1, h2⟩ := rF1_zero h
    obtain ⟨hs, hc, _⟩ := rCode_zero h1
    obtain ⟨g1, g2, g3⟩ := least_rel hs hc h2
    rw [if_pos h]
    refine Ev.iff_pos h ?_
    refine Ev.bind (specLeast_ev hs hc) ?_
    rw [selL_bits g1, g2]
    exact Ev.now _
  · rw [if_neg h]
    exact Ev.iff_neg h (Ev.now _)
theorem implLeastForm_eq (s : List Int) {c : List Int} (hcl : c.length ≤ 1048576) : impl_LeastForm.f s c = some (leastFR s c) := by
  unfold impl_LeastForm.f
  rw [if_pos hcl]
theorem leastFR_len (s c : List Int) : (leastFR s c).1.length ≤ 1048576 := by
  unfold leastFR
  split
  · exact Nat.le_trans (selL_len _ _) (by decide)
  · simp
theorem FnExactLeastForm (l0_0 : List Int) (m0 : l0_0.length ≤ maxLen) (w0 : ∀ x ∈ l0_0, (Lit.int .i64 x).wf = true) (l1 : List Int) (m1 : l1.length ≤ maxLen) (b1 : l1.length * 8 ≤ 140737488351232) (w1 : ∀ x ∈ l1, (Lit.int .i64 x).wf = true) : ∃ k, laws_FnExactLeastForm.f k l0_0 l1 = some true := by
  refine Ev.rounds (r := true) ?_
  unfold laws_FnExactLeastForm.f
  by_cases c1 : (l1.length : Int) > 1048576
  · exact Ev.iff_pos c1 (Ev.now _)
  refine Ev.iff_neg c1 ?_
  have k1 : l1.length ≤ 1048576 := by omega
  have km1 : l1.length < maxLen := by unfold maxLen; omega
  refine Ev.bindc (szSpace_eq _ _ m0 (by omega) (by omega)) ?_
  by_cases h0 : (1048576 : Int) < (l0_0.length : Int)
  · exact Ev.iff_pos (by rw [if_pos h0]; omega) (Ev.now _)
  rw [if_neg h0]
  refine Ev.iff_neg (by omega) ?_
  have hl0 : l0_0.length ≤ 1048576 := by omega
  have hm0 : l0_0.length < maxLen := by unfold maxLen; omega
  have hr0 := leastFR_len l0_0 l1
  repeat' first
    | exact Ev.now _
    | refine Ev.bind (toInt64S_ev _ k1) ?_
    | refine Ev.bind (toSpace_ev _ hl0) ?_
    | refine Ev.bind (specLeastForm_ev _ k1) ?_
    | refine Ev.bind (Ev.const (implLeastForm_eq _ k1)) ?_
    | (refine Ev.bind (eqSpace_ev _ _ ?_) ?_; (· (first | omega | (unfold maxLen; omega) | (simp only [iota_length]; omega) | (simp only [iota_length]; unfold maxLen; omega))))
    | (refine Ev.bind (eqInt64S_ev _ _ ?_) ?_; (· (first | omega | (unfold maxLen; omega) | (simp only [iota_length]; omega) | (simp only [iota_length]; unfold maxLen; omega))))
    | (refine Ev.bind (markSpace_ev _ _ ?_ ?_ ?_) ?_; (· (first | omega | (unfold maxLen; omega) | (simp only [iota_length]; omega) | (simp only [iota_length]; unfold maxLen; omega))); (· (first | omega | (unfold maxLen; omega) | (simp only [iota_length]; omega) | (simp only [iota_length]; unfold maxLen; omega))); (· (first | omega | (unfold maxLen; omega) | (simp only [iota_length]; omega) | (simp only [iota_length]; unfold maxLen; omega))))
    | (refine Ev.bind (markInt64S_ev _ _ ?_ ?_ ?_) ?_; (· (first | omega | (unfold maxLen; omega) | (simp only [iota_length]; omega) | (simp only [iota_length]; unfold maxLen; omega))); (· (first | omega | (unfold maxLen; omega) | (simp only [iota_length]; omega) | (simp only [iota_length]; unfold maxLen; omega))); (· (first | omega | (unfold maxLen; omega) | (simp only [iota_length]; omega) | (simp only [iota_length]; unfold maxLen; omega))))
    | (refine Ev.bind (heldInt64S_ev _ _ ?_ ?_) ?_; (· (first | omega | (unfold maxLen; omega) | (simp only [iota_length]; omega) | (simp only [iota_length]; unfold maxLen; omega))); (· (first | omega | (unfold maxLen; omega) | (simp only [iota_length]; omega) | (simp only [iota_length]; unfold maxLen; omega))))
    | (refine Ev.iff_pos ?_ ?_; (· (first | (simp; done) | omega)))
    | (refine Ev.iff_neg ?_ ?_; (· (first | (simp; done) | omega)))
    | refine Ev.step (show ∀ k, laws_FnExactLeastForm.j0 (k + 1) _ _ _ _ _ _ _ _ _ = _ from fun k => by rw [laws_FnExactLeastForm.j0]) ?_
    | refine Ev.step (show ∀ k, laws_FnExactLeastForm.j1 (k + 1) _ _ _ _ _ _ = _ from fun k => by rw [laws_FnExactLeastForm.j1]) ?_
    | refine Ev.step (show ∀ k, laws_FnExactLeastForm.j2 (k + 1) _ _ _ = _ from fun k => by rw [laws_FnExactLeastForm.j2]) ?_
end Go.Proofs.Ytemjamfcepoefaa.Q
