/- The program's DigitsOf. -/
import Derived.Test.YtjepdabecbmfgaaHDig
import Derived.Test.YtjepdabecbmfgaaQWords
set_option linter.unusedVariables false
set_option linter.unusedSimpArgs false
namespace Go.Proofs.Ytjepdabecbmfgaa.P
open Go.RowKit Go.Proofs.YtjepdabecbmfgaaW.PrintWords Go.Proofs.YtjepdabecbmfgaaW.PrintLast Go.Proofs.YtjepdabecbmfgaaW.PrintMore CC


def rDigitsOf (s : List Int) (x : Int) : List Int × Int := if Q.rWords s [x] = 0 then (dg s x, 0) else ([], Q.rWords s [x])
def impl_DigitsOf.f (l0_0 : List Int) (a1 : Int) : Option (List Int × Int) := some (rDigitsOf l0_0 a1)

theorem isW_sm2 {s : List Int} (hs : isSp s = true) {x : Int} (h : isW s x = true) : 0 ≤ x ∧ x ≤ 1024 := by
  have h1 := (isW_iff s x).1 h
  have h2 := isSp_prd hs
  omega
theorem one_reads1 {w : World} {g : Nat} {t : TypeId} {x : Int} (h : w.heap[g]? = some (.cells #[.int .i64 x] t (0, 0))) : Kd.C (Kd.int .i64) w (some ⟨g, 0, none⟩) 1 [x] :=
  Kd.C_of_reads (d := (0 : Int)) (h1 := fun _ => rfl) ⟨rfl, by omega, fun _ => ⟨_, rfl, fun j hj => by
    obtain rfl : j = 0 := by omega
    rw [add_plain, blk_cell h]
    rfl⟩⟩
theorem dig8_take {s : List Int} (hl : s.length ≤ 8) (x : Int) : (dig8 s x).take s.length = dg s x := by
  rw [dig8_eq hl, List.take_append_of_le_length (by rw [dg_length]; exact Nat.le_refl _), List.take_of_length_le (by rw [dg_length]; exact Nat.le_refl _)]
theorem take_rd8 {d : List Int} {n : Nat} (hn : n < d.length) : d.take (n + 1) = d.take n ++ [rd d (n : Int)] := take_rd d hn
theorem infoI1 : (Try.prog.info? 2).map (fun i => (i.zero, i.size, i.bytes)) = some (some (.int .i64 0), 1, 8) := by kernel_rfl

theorem inR_u8 {s d : List Int} (hs : s.all sizeOk = true) (h : inR s d = true) {k : Nat} (hk : k < s.length) (hd : k < d.length) : 0 ≤ rd d (k : Int) ∧ rd d (k : Int) ≤ 3 := by
  have h1 := inR_rd s d k h hk hd
  have hq : sizeOk (rd s (k : Int)) = true := by
    have : rd s (k : Int) = s[k] := by simp [rd, List.getD_eq_getElem?_getD, hk]
    rw [this]
    exact List.all_eq_true.1 hs _ (List.getElem_mem hk)
  have := (sizeOk_iff _).1 hq
  omega

set_option maxHeartbeats 4000000 in
set_option maxRecDepth 100000 in
theorem DigitsOf_calls (A : Option Addr) (c : Nat) (s : List Int) (x : Int) (w : World) (hr : Kd.C (Kd.int .i64) w A s.length s) (hc : s.length ≤ c) :
    Calls Try.prog 39 #[.agg #[.slice A s.length c], .int .i64 x] w
      fun e w' => ∃ v, e = .returned (.tuple #[v, .int .i64 (rDigitsOf s x).2]) ∧ Kd.R (Kd.int .i64) 2 w' w.heap.size (fun _ => True) v (rDigitsOf s x).1 ∧ Below w.heap.size w w' := by
  have huS := Try.underlying28
  have huD := Try.underlying64
  have HR := Aside0.mk hr
  clear hr
  obtain ⟨kc, hk⟩ := (Q.wordCode_ev s (c := [x]) (by simp)).rounds
  have HK := Aside0.mk hk
  clear hk
  have HX : Aside0 (rDigitsOf s x = if Q.rWords s [x] = 0 then (dg s x, 0) else ([], Q.rWords s [x])) := ⟨rfl⟩
  generalize rDigitsOf s x = R at *
  obtain ⟨i0, hi, hz0, hz1, hz2⟩ := info_parts infoI1
  have HI := Aside0.mk (And.intro hi (And.intro hz0 (And.intro hz1 hz2)))
  clear hi hz0 hz1 hz2
  go_enter Try.func39, Try.ntmps39
  go_wp2_with fail
  have hB : Below w.heap.size w ((w.alloc (.cells #[.slice A s.length c] 28)).alloc (.cells #[.int .i64 x] 2)) := ((Below.refl _ _).alloc (Nat.le_refl _) _).alloc (by simp) _
  have hcell : ((w.alloc (.cells #[.slice A s.length c] 28)).alloc (.cells #[.int .i64 x] 2)).heap[w.heap.size]? = some (.cells #[.slice A s.length c] 28 (0, 0)) := blk_alloc (blk_new _ _) _
  have hone : ((w.alloc (.cells #[.slice A s.length c] 28)).alloc (.cells #[.int .i64 x] 2)).heap[w.heap.size + 1]? = some (.cells #[.int .i64 x] 2 (0, 0)) := by simpa using blk_new (w.alloc (.cells #[.slice A s.length c] 28)) (.cells #[.int .i64 x] 2)
  refine (impl_wordCode.calls kc A c s _ 1 [x] (Q.rWords s [x]) _ (Kd.C_below HR.out hB) hc (one_reads1 hone) (by simp) HK.out).mono ?_
  rintro e w1 ⟨rfl, hb⟩
  have K1 := Aside0.mk (blk_below hcell hb)
  have B1 := Aside0.mk (below_then hB hB.size hb)
  clear hB hcell hone hb
  by_cases h0 : Q.rWords s [x] = 0
  · obtain ⟨hs, hw⟩ := Q.rWords_zero h0
    have hw := hw x (by simp)
    obtain ⟨x0, x1⟩ := isW_sm2 hs hw
    have I1 := Aside0.mk (dig8_inR hs x)
    have HS := Aside0.mk hs
    have hl := isSp_len hs
    have HE : Aside0 (R = (dg s x, 0)) := ⟨by rw [HX.out, if_pos h0]⟩
    have HT : Aside0 ((dig8 s x).take s.length = dg s x) := ⟨dig8_take hl x⟩
    have t1 : (Q.rWords s [x] != 0) = false := by rw [h0]; rfl
    clear HX h0 hs hw
    have hcz : w1.cell? ⟨w.heap.size, 0, none⟩ = some (.slice A s.length c) := blk_cell K1.out 0
    go_wp2_with fail
    refine (digitsOf_calls A c s x _ (Kd.C_below HR.out B1.out) hc HS.out x0 x1).mono ?_
    rintro e w2 ⟨rfl, hb⟩
    have K2 := Aside0.mk (blk_below K1.out hb)
    have B2 := Aside0.mk (below_then B1.out B1.out.size hb)
    clear K1 B1 hb hcz
    have hd8 : dloop s s.length x (List.replicate 8 0) = dig8 s x := rfl
    rw [hd8]
    clear hd8
    have E8 := Aside0.mk (dig8_length s x)
    generalize dig8 s x = d at *
    obtain ⟨y0, y1, y2, y3, y4, y5, y6, y7, hd⟩ := eight E8.out
    have ea : arr8 d = .agg #[.int .u8 y0, .int .u8 y1, .int .u8 y2, .int .u8 y3, .int .u8 y4, .int .u8 y5, .int .u8 y6, .int .u8 y7] := by rw [hd]; rfl
    have hna : (nums .u8 d).toArray = #[.int .u8 y0, .int .u8 y1, .int .u8 y2, .int .u8 y3, .int .u8 y4, .int .u8 y5, .int .u8 y6, .int .u8 y7] := by rw [hd]; rfl
    have HN : Aside0 ((nums .u8 d).toArray = #[.int .u8 y0, .int .u8 y1, .int .u8 y2, .int .u8 y3, .int .u8 y4, .int .u8 y5, .int .u8 y6, .int .u8 y7]) := ⟨hna⟩
    rw [ea]
    clear ea hd hna
    have hcz2 : ∀ o1, (w2.alloc o1).cell? ⟨w.heap.size, 0, none⟩ = some (.slice A s.length c) := fun o1 => blk_cell (blk_alloc K2.out o1) 0
    have hcz3 : ∀ o1 o2, ((w2.alloc o1).alloc o2).cell? ⟨w.heap.size, 0, none⟩ = some (.slice A s.length c) := fun o1 o2 => blk_cell (blk_alloc (blk_alloc K2.out o1) o2) 0
    go_wp2_with fail
    have bO : ((w2.alloc (.cells #[] 2)).alloc (.cells #[.int .u8 y0, .int .u8 y1, .int .u8 y2, .int .u8 y3, .int .u8 y4, .int .u8 y5, .int .u8 y6, .int .u8 y7] 64)).ownsRow w.heap.size 2 1 (.slice (some ⟨w2.heap.size, 0, none⟩) 0 0) 0 [] :=
      ⟨rfl, .inr ⟨w2.heap.size, 0, #[], rfl, B2.out.size, blk_alloc (blk_new w2 (.cells #[] 2)) _, by omega, by unfold maxLen; omega, rfl, rfl⟩⟩
    have bD : ((w2.alloc (.cells #[] 2)).alloc (.cells #[.int .u8 y0, .int .u8 y1, .int .u8 y2, .int .u8 y3, .int .u8 y4, .int .u8 y5, .int .u8 y6, .int .u8 y7] 64)).heap[w2.heap.size + 1]? = some (.cells (nums .u8 d).toArray 64 (0, 0)) := by
      rw [HN.out]
      simpa using blk_new (w2.alloc (.cells #[] 2)) (.cells #[.int .u8 y0, .int .u8 y1, .int .u8 y2, .int .u8 y3, .int .u8 y4, .int .u8 y5, .int .u8 y6, .int .u8 y7] 64)
    have bB : Below w.heap.size w ((w2.alloc (.cells #[] 2)).alloc (.cells #[.int .u8 y0, .int .u8 y1, .int .u8 y2, .int .u8 y3, .int .u8 y4, .int .u8 y5, .int .u8 y6, .int .u8 y7] 64)) := below_alloc (below_alloc B2.out _) _
    have BO := Aside0.mk bO
    have BD := Aside0.mk bD
    have BB := Aside0.mk bB
    have hg : w.heap.size ≤ w2.heap.size := B2.out.size
    clear bO bD bB hcz2 hcz3 HN K2 B2
    generalize (w2.alloc (.cells #[] 2)).alloc (.cells #[.int .u8 y0, .int .u8 y1, .int .u8 y2, .int .u8 y3, .int .u8 y4, .int .u8 y5, .int .u8 y6, .int .u8 y7] 64) = W0 at *
    generalize w2.heap.size = g2 at *
    go_loopw [8, 24] (fun v i W => ∃ (n : Nat), n ≤ s.length ∧ i = .int .i64 n ∧ Aside0 (W.ownsRow w.heap.size 2 1 v n (nums .i64 (d.take n))) ∧ Aside0 (W.heap[g2 + 1]? = some (.cells (nums .u8 d).toArray 64 (0, 0))) ∧ Aside0 (Below w.heap.size w W)) (fun _ i _ => s.length - (intOf i).toNat)
    case atStart => exact ⟨0, by omega, rfl, ⟨BO.out⟩, BD, BB⟩
    case round =>
      clear BO BD BB
      obtain ⟨n, hn, rfl, HO, HD, HB⟩ := hrel
      by_cases hlt : n < s.length
      · have hd8 : n < d.length := by have := E8.out; omega
        have hy := cell8 HD.out (i := n) hd8
        obtain ⟨r0, r1⟩ := inR_u8 (isSp_all HS.out) I1.out hlt hd8
        have HL := Aside0.mk (take_rd8 hd8)
        have hlen : (d.take n).length ≤ n := List.length_take_le _ _
        clear hd8
        generalize rd d (n : Int) = y at *
        go_wp2_with (at_builtin; obtain ⟨hi, hz0, hz1, hz2⟩ := HI.out; refine wpList_append_own _ rfl _ _ 23 rfl w.heap.size 2 i0 (.int .i64 0) 1 8 Try.underlying23 hi hz0 hz1 hz2 rfl (by decide) _ n (nums .i64 (d.take n)) rfl (HO.out.alloc _) ⟨wr.heap.size, 0, none⟩ 1 1 [.int .i64 y] rfl ?c0 ?c1 ?c2 ?c3 ?c4 ?c5 ?_; clear hi hz0 hz1 hz2)
        case c0 => rfl
        case c1 =>
          intro j u hj
          have hb := blk_cell (blk_new wr (.cells #[.int .i64 y] 2)) j
          rw [add_plain, hb]
          simpa using hj
        case c2 => intro u hu; simp only [List.mem_cons, List.not_mem_nil, or_false] at hu; rcases hu with rfl; rfl
        case c3 => unfold maxLen; omega
        case c4 => omega
        case c5 => have := HB.out.size; simp; omega
        intro v' w3 O3 G3 _
        have O4 : Aside0 (w3.ownsRow w.heap.size 2 1 v' (n + 1) (nums .i64 (d.take (n + 1)))) := ⟨by rw [HL.out, nums_append]; exact O3⟩
        have D3 := Aside0.mk (blk_grown (blk_alloc HD.out _) G3 (own_ne HO.out HD.out (by decide)))
        have B3 := Aside0.mk (pw_below_grown (below_alloc HB.out _) _ (by have := HB.out.size; simp; omega) G3 (fun k hk => own_base HO.out k hk))
        clear O3 G3 HO HD HB HL
        go_wp2
        go_roundw
        case rel => exact ⟨n + 1, by omega, by go_num, O4, D3, B3⟩
        case measure => simp [intOf]; omega
      · have hn : n = s.length := by omega
        subst hn
        go_wp2
        go_ret2
        rw [HE.out]
        refine ⟨_, rfl, ?_, HB.out⟩
        have hO := HO.out
        rw [HT.out] at hO
        exact Kd.R_of_own (by rw [dg_length]; exact hO) (fun _ _ => trivial)
  · have HE : Aside0 (R = ([], Q.rWords s [x])) := ⟨by rw [HX.out, if_neg h0]⟩
    have t1 : (Q.rWords s [x] != 0) = true := bne_iff_ne.mpr h0
    clear HX h0
    go_wp2
    go_ret2
    rw [HE.out]
    exact ⟨_, rfl, Kd.R_nil _ _ _ _ _, B1.out⟩

theorem impl_DigitsOf.calls (A0_0 : Option Addr) (c0_0 : Nat) (l0_0 : List Int) (a1 : Int) (r1 : List Int) (r2 : Int) (w : World) (hr0_0 : Kd.C (Kd.int .i64) w A0_0 l0_0.length l0_0) (hc0_0 : l0_0.length ≤ c0_0) (h : impl_DigitsOf.f l0_0 a1 = some (r1, r2)) :
    Calls Try.prog 39 #[.agg #[.slice A0_0 l0_0.length c0_0], .int .i64 a1] w fun e w' => ∃ v0_ : Value, e = .returned (.tuple #[v0_, .int .i64 r2]) ∧ Kd.R (Kd.int .i64) 2 w' w.heap.size (fun _ => True) v0_ r1 ∧ Below w.heap.size w w' := by
  unfold impl_DigitsOf.f at h
  have e := Option.some.inj h
  have := DigitsOf_calls A0_0 c0_0 l0_0 a1 w hr0_0 hc0_0
  rw [e] at this
  exact this
end Go.Proofs.Ytjepdabecbmfgaa.P
