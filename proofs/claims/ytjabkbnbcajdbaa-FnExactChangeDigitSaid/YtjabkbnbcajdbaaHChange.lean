/- The program's ChangeDigit. -/
import Derived.Test.YtjabkbnbcajdbaaHUpd
import Derived.Test.YtjabkbnbcajdbaaQWords
import Derived.Test.YtjabkbnbcajdbaaFimplisPlace
set_option linter.unusedVariables false
set_option linter.unusedSimpArgs false
namespace Go.Proofs.Ytjabkbnbcajdbaa.P
open Go.RowKit Go.Proofs.YtjabkbnbcajdbaaW.PrintWords Go.Proofs.YtjabkbnbcajdbaaW.PrintLast Go.Proofs.YtjabkbnbcajdbaaW.PrintMore CC

def rChange (s : List Int) (x i d : Int) : Int × Int :=
  if Q.rWords s [x] = 0 then if 0 ≤ i ∧ i < s.length ∧ 0 ≤ d ∧ d < rd s i then (hor 0 s ((dig8 s x).set i.toNat d), 0) else (0, 2) else (0, Q.rWords s [x])
def impl_ChangeDigit.f (l0_0 : List Int) (a1 a2 a3 : Int) : Option (Int × Int) := some (rChange l0_0 a1 a2 a3)

theorem isW_sm4 {s : List Int} (hs : isSp s = true) {x : Int} (h : isW s x = true) : 0 ≤ x ∧ x ≤ 1024 := by
  have h1 := (isW_iff s x).1 h
  have h2 := isSp_prd hs
  omega
theorem one_reads2 {w : World} {g : Nat} {t : TypeId} {x : Int} (h : w.heap[g]? = some (.cells #[.int .i64 x] t (0, 0))) : Kd.C (Kd.int .i64) w (some ⟨g, 0, none⟩) 1 [x] :=
  Kd.C_of_reads (d := (0 : Int)) (h1 := fun _ => rfl) ⟨rfl, by omega, fun _ => ⟨_, rfl, fun j hj => by
    obtain rfl : j = 0 := by omega
    rw [add_plain, blk_cell h]
    rfl⟩⟩
theorem isPlace_eq (s : List Int) (hl : s.length ≤ 8) (i : Int) : impl_isPlace.f s i = some (decide (0 ≤ i ∧ i < s.length)) := by
  unfold impl_isPlace.f impl_places.f
  by_cases h : i ≥ 0
  · rw [if_pos h]
    simp
    omega
  · rw [if_neg h]
    simp
    omega
theorem set_inR {s d : List Int} (h : inR s d = true) {n : Nat} (hn : n < s.length) {x : Int} (h0 : 0 ≤ x) (h1 : x < rd s (n : Int)) : inR s (d.set n x) = true := by
  refine inR_of _ _ fun k hk hk2 => ?_
  have hk3 : k < d.length := by simpa using hk2
  have old := inR_rd s d k h hk hk3
  by_cases e : k = n
  · subst e
    have : rd (d.set k x) (k : Int) = x := by simp [rd, List.getD_eq_getElem?_getD, hk3]
    rw [this]
    exact ⟨h0, h1⟩
  · have : rd (d.set n x) (k : Int) = rd d (k : Int) := by
      simp only [rd, Int.toNat_natCast, List.getD_eq_getElem?_getD]
      rw [List.getElem?_set_ne (fun z => e z.symm)]
    rw [this]
    exact old

set_option maxHeartbeats 8000000 in
set_option maxRecDepth 100000 in
theorem ChangeDigit_calls (A : Option Addr) (c : Nat) (s : List Int) (x i d : Int) (w : World) (hr : Kd.C (Kd.int .i64) w A s.length s) (hc : s.length ≤ c) :
    Calls Try.prog 18 #[.agg #[.slice A s.length c], .int .i64 x, .int .i64 i, .int .i64 d] w
      fun e w' => e = .returned (.tuple #[.int .i64 (rChange s x i d).1, .int .i64 (rChange s x i d).2]) ∧ Below w.heap.size w w' := by
  have huS := Try.underlying28
  have huD := Try.underlying56
  have HR := Aside0.mk hr
  clear hr
  obtain ⟨kc, hk⟩ := (Q.wordCode_ev s (c := [x]) (by simp)).rounds
  have HK := Aside0.mk hk
  clear hk
  have HX : Aside0 (rChange s x i d = if Q.rWords s [x] = 0 then if 0 ≤ i ∧ i < s.length ∧ 0 ≤ d ∧ d < rd s i then (hor 0 s ((dig8 s x).set i.toNat d), 0) else (0, 2) else (0, Q.rWords s [x])) := ⟨rfl⟩
  generalize rChange s x i d = R at *
  go_enter Try.func18, Try.ntmps18
  go_wp2_with fail
  have hB : Below w.heap.size w ((w.alloc (.cells #[.slice A s.length c] 28)).alloc (.cells #[.int .i64 x] 2)) := ((Below.refl _ _).alloc (Nat.le_refl _) _).alloc (by simp) _
  have hcell : ((w.alloc (.cells #[.slice A s.length c] 28)).alloc (.cells #[.int .i64 x] 2)).heap[w.heap.size]? = some (.cells #[.slice A s.length c] 28 (0, 0)) := blk_alloc (blk_new _ _) _
  have hone : ((w.alloc (.cells #[.slice A s.length c] 28)).alloc (.cells #[.int .i64 x] 2)).heap[w.heap.size + 1]? = some (.cells #[.int .i64 x] 2 (0, 0)) := by simpa using blk_new (w.alloc (.cells #[.slice A s.length c] 28)) (.cells #[.int .i64 x] 2)
  refine (impl_wordCode.calls kc A c s _ 1 [x] (Q.rWords s [x]) _ (Kd.C_below HR.out hB) hc (one_reads2 hone) (by simp) HK.out).mono ?_
  rintro e w1 ⟨rfl, hb⟩
  have K1 := Aside0.mk (blk_below hcell hb)
  have B1 := Aside0.mk (below_then hB hB.size hb)
  clear hB hcell hone hb
  by_cases h0 : Q.rWords s [x] = 0
  · obtain ⟨hs, hw⟩ := Q.rWords_zero h0
    have hw := hw x (by simp)
    obtain ⟨x0, x1⟩ := isW_sm4 hs hw
    have I1 := Aside0.mk (dig8_inR hs x)
    have HS := Aside0.mk hs
    have hl := isSp_len hs
    have HX2 : Aside0 (R = if 0 ≤ i ∧ i < s.length ∧ 0 ≤ d ∧ d < rd s i then (hor 0 s ((dig8 s x).set i.toNat d), 0) else (0, 2)) := ⟨by rw [HX.out, if_pos h0]⟩
    have HP := Aside0.mk (isPlace_eq s hl i)
    have t1 : (Q.rWords s [x] != 0) = false := by rw [h0]; rfl
    clear HX h0 hs hw
    have hcz : w1.cell? ⟨w.heap.size, 0, none⟩ = some (.slice A s.length c) := blk_cell K1.out 0
    by_cases hp : 0 ≤ i ∧ i < s.length
    · rw [decide_eq_true hp] at HP
      obtain ⟨n, rfl⟩ : ∃ n : Nat, i = (n : Int) := ⟨i.toNat, by omega⟩
      have hn : n < s.length := by omega
      clear hp
      obtain ⟨ad, e, _⟩ := Kd.at_int HR.out (n : Int) (by omega) (by omega)
      subst e
      obtain ⟨q0, q1⟩ := size_rd (isSp_all HS.out) hn
      have hx := rd_cell HR.out B1.out n hn
      go_wp2_with fail
      refine (impl_isPlace.calls _ c s (n : Int) true _ (Kd.C_below HR.out B1.out) hc HP.out).mono ?_
      rintro e w2 ⟨rfl, hb⟩
      have K2 := Aside0.mk (blk_below K1.out hb)
      have B2 := Aside0.mk (below_then B1.out B1.out.size hb)
      have hcz2 : w2.cell? ⟨w.heap.size, 0, none⟩ = some (.slice (some ad) s.length c) := blk_cell K2.out 0
      have hx2 := rd_cell HR.out B2.out n hn
      clear K1 B1 hb hcz hx
      by_cases hd0 : d < 0
      · have HE : Aside0 (R = (0, 2)) := ⟨by rw [HX2.out, if_neg (by rintro ⟨_, _, h1, h2⟩; omega)]⟩
        have t2 : decide (d < 0) = true := decide_eq_true hd0
        clear hd0 HX2
        go_wp2
        go_ret2
        refine ⟨?_, B2.out⟩
        rw [HE.out]
        rfl
      have t2 : decide (d < 0) = false := decide_eq_false hd0
      by_cases hd1 : d < rd s (n : Int)
      · have HE : Aside0 (R = (hor 0 s ((dig8 s x).set n d), 0)) := ⟨by rw [HX2.out, if_pos (by omega), Int.toNat_natCast]⟩
        have I2 := Aside0.mk (set_inR I1.out hn (x := d) (by omega) hd1)
        have t3 : decide (rd s (n : Int) ≤ d) = false := decide_eq_false (by omega)
        have d0 : 0 ≤ d := by omega
        have d1 : d ≤ 3 := by omega
        clear hd0 hd1 HX2 hw
        generalize rd s (n : Int) = q at *
        go_wp2_with fail
        refine (digitsOf_calls (some ad) c s x _ (Kd.C_below HR.out B2.out) hc HS.out x0 x1).mono ?_
        rintro e w3 ⟨rfl, hb⟩
        have K3 := Aside0.mk (blk_below K2.out hb)
        have B3 := Aside0.mk (below_then B2.out B2.out.size hb)
        clear K2 B2 hb hcz2 hx2
        have hd8 : dloop s s.length x (List.replicate 8 0) = dig8 s x := rfl
        rw [hd8]
        clear hd8
        have E8 := Aside0.mk (dig8_length s x)
        generalize dig8 s x = e8 at *
        obtain ⟨y0, y1, y2, y3, y4, y5, y6, y7, hd⟩ := eight E8.out
        have ea : arr8 e8 = .agg #[.int .u8 y0, .int .u8 y1, .int .u8 y2, .int .u8 y3, .int .u8 y4, .int .u8 y5, .int .u8 y6, .int .u8 y7] := by rw [hd]; rfl
        have hna : (nums .u8 e8).toArray = #[.int .u8 y0, .int .u8 y1, .int .u8 y2, .int .u8 y3, .int .u8 y4, .int .u8 y5, .int .u8 y6, .int .u8 y7] := by rw [hd]; rfl
        have HN : Aside0 ((nums .u8 e8).toArray = #[.int .u8 y0, .int .u8 y1, .int .u8 y2, .int .u8 y3, .int .u8 y4, .int .u8 y5, .int .u8 y6, .int .u8 y7]) := ⟨hna⟩
        rw [ea]
        clear ea hd hna
        have bD : (w3.alloc (.cells #[.int .u8 y0, .int .u8 y1, .int .u8 y2, .int .u8 y3, .int .u8 y4, .int .u8 y5, .int .u8 y6, .int .u8 y7] 56)).heap[w3.heap.size]? = some (.cells (nums .u8 e8).toArray 56 (0, 0)) := by
          rw [HN.out]
          exact blk_new w3 _
        have hce := cell8 bD (i := n) (by have := E8.out; omega)
        have hfe := blk_frozen bD n
        have hset : ([.int .u8 y0, .int .u8 y1, .int .u8 y2, .int .u8 y3, .int .u8 y4, .int .u8 y5, .int .u8 y6, .int .u8 y7].set n (.int .u8 d)).toArray = (nums .u8 (e8.set n d)).toArray := by
          have h1 : (nums .u8 e8) = [.int .u8 y0, .int .u8 y1, .int .u8 y2, .int .u8 y3, .int .u8 y4, .int .u8 y5, .int .u8 y6, .int .u8 y7] := by simpa using HN.out
          rw [← h1]
          simp [nums, List.map_set]
        have bS := Aside0.mk (blk_new w3 (.cells ([.int .u8 y0, .int .u8 y1, .int .u8 y2, .int .u8 y3, .int .u8 y4, .int .u8 y5, .int .u8 y6, .int .u8 y7].set n (.int .u8 d)).toArray 56))
        rw [hset] at bS
        have HSET := Aside0.mk hset
        have bK := Aside0.mk (blk_alloc K3.out (.cells ([.int .u8 y0, .int .u8 y1, .int .u8 y2, .int .u8 y3, .int .u8 y4, .int .u8 y5, .int .u8 y6, .int .u8 y7].set n (.int .u8 d)).toArray 56))
        have bB := Aside0.mk (below_alloc B3.out (.cells ([.int .u8 y0, .int .u8 y1, .int .u8 y2, .int .u8 y3, .int .u8 y4, .int .u8 y5, .int .u8 y6, .int .u8 y7].set n (.int .u8 d)).toArray 56))
        clear hset
        have E9 := Aside0.mk (show (e8.set n d).length = 8 by have := E8.out; simpa using this)
        have hn8 : n < 8 := by omega
        clear bD HN K3 B3
        have hkz : (w3.alloc (.cells ([.int .u8 y0, .int .u8 y1, .int .u8 y2, .int .u8 y3, .int .u8 y4, .int .u8 y5, .int .u8 y6, .int .u8 y7].set n (.int .u8 d)).toArray 56)).cell? ⟨w.heap.size, 0, none⟩ = some (.slice (some ad) s.length c) := blk_cell bK.out 0
        obtain ⟨z0, z1, z2, z3, z4, z5, z6, z7, hz⟩ := eight E9.out
        have hzz : (w3.alloc (.cells ([.int .u8 y0, .int .u8 y1, .int .u8 y2, .int .u8 y3, .int .u8 y4, .int .u8 y5, .int .u8 y6, .int .u8 y7].set n (.int .u8 d)).toArray 56)).heap[w3.heap.size]? = some (.cells (nums .u8 [z0, z1, z2, z3, z4, z5, z6, z7]).toArray 56 (0, 0)) := by rw [← hz, HSET.out]; exact bS.out
        have kz0 : (w3.alloc (.cells ([.int .u8 y0, .int .u8 y1, .int .u8 y2, .int .u8 y3, .int .u8 y4, .int .u8 y5, .int .u8 y6, .int .u8 y7].set n (.int .u8 d)).toArray 56)).cell? ⟨w3.heap.size, 0, none⟩ = some (.int .u8 z0) := blk_cell hzz 0
        have kz1 : (w3.alloc (.cells ([.int .u8 y0, .int .u8 y1, .int .u8 y2, .int .u8 y3, .int .u8 y4, .int .u8 y5, .int .u8 y6, .int .u8 y7].set n (.int .u8 d)).toArray 56)).cell? ⟨w3.heap.size, 1, none⟩ = some (.int .u8 z1) := blk_cell hzz 1
        have kz2 : (w3.alloc (.cells ([.int .u8 y0, .int .u8 y1, .int .u8 y2, .int .u8 y3, .int .u8 y4, .int .u8 y5, .int .u8 y6, .int .u8 y7].set n (.int .u8 d)).toArray 56)).cell? ⟨w3.heap.size, 2, none⟩ = some (.int .u8 z2) := blk_cell hzz 2
        have kz3 : (w3.alloc (.cells ([.int .u8 y0, .int .u8 y1, .int .u8 y2, .int .u8 y3, .int .u8 y4, .int .u8 y5, .int .u8 y6, .int .u8 y7].set n (.int .u8 d)).toArray 56)).cell? ⟨w3.heap.size, 3, none⟩ = some (.int .u8 z3) := blk_cell hzz 3
        have kz4 : (w3.alloc (.cells ([.int .u8 y0, .int .u8 y1, .int .u8 y2, .int .u8 y3, .int .u8 y4, .int .u8 y5, .int .u8 y6, .int .u8 y7].set n (.int .u8 d)).toArray 56)).cell? ⟨w3.heap.size, 4, none⟩ = some (.int .u8 z4) := blk_cell hzz 4
        have kz5 : (w3.alloc (.cells ([.int .u8 y0, .int .u8 y1, .int .u8 y2, .int .u8 y3, .int .u8 y4, .int .u8 y5, .int .u8 y6, .int .u8 y7].set n (.int .u8 d)).toArray 56)).cell? ⟨w3.heap.size, 5, none⟩ = some (.int .u8 z5) := blk_cell hzz 5
        have kz6 : (w3.alloc (.cells ([.int .u8 y0, .int .u8 y1, .int .u8 y2, .int .u8 y3, .int .u8 y4, .int .u8 y5, .int .u8 y6, .int .u8 y7].set n (.int .u8 d)).toArray 56)).cell? ⟨w3.heap.size, 6, none⟩ = some (.int .u8 z6) := blk_cell hzz 6
        have kz7 : (w3.alloc (.cells ([.int .u8 y0, .int .u8 y1, .int .u8 y2, .int .u8 y3, .int .u8 y4, .int .u8 y5, .int .u8 y6, .int .u8 y7].set n (.int .u8 d)).toArray 56)).cell? ⟨w3.heap.size, 7, none⟩ = some (.int .u8 z7) := blk_cell hzz 7
        have HZ := Aside0.mk hz
        clear hz hzz bS bK
        go_wp2_with fail
        have ea : arr8 (e8.set n d) = .agg #[.int .u8 z0, .int .u8 z1, .int .u8 z2, .int .u8 z3, .int .u8 z4, .int .u8 z5, .int .u8 z6, .int .u8 z7] := by rw [HZ.out]; rfl
        rw [← ea]
        clear ea
        refine (wordOf_calls (some ad) c s (e8.set n d) _ (Kd.C_below HR.out bB.out) hc HS.out E9.out I2.out).mono ?_
        rintro e w4 ⟨rfl, hb⟩
        have B4 := Aside0.mk (below_then bB.out bB.out.size hb)
        clear bB hb
        go_wp2
        go_ret2
        refine ⟨?_, B4.out⟩
        rw [HE.out]
        rfl
      · have HE : Aside0 (R = (0, 2)) := ⟨by rw [HX2.out, if_neg (by rintro ⟨_, _, h1, h2⟩; omega)]⟩
        have t3 : decide (rd s (n : Int) ≤ d) = true := decide_eq_true (by omega)
        clear hd0 hd1 HX2
        generalize rd s (n : Int) = q at *
        go_wp2
        go_ret2
        refine ⟨?_, B2.out⟩
        rw [HE.out]
        rfl
    · rw [decide_eq_false hp] at HP
      have HE : Aside0 (R = (0, 2)) := ⟨by rw [HX2.out, if_neg (by rintro ⟨h1, h2, _⟩; exact hp ⟨h1, h2⟩)]⟩
      clear hp HX2
      go_wp2_with fail
      refine (impl_isPlace.calls A c s i false _ (Kd.C_below HR.out B1.out) hc HP.out).mono ?_
      rintro e w2 ⟨rfl, hb⟩
      have B2 := Aside0.mk (below_then B1.out B1.out.size hb)
      clear B1 hb hcz
      go_wp2
      go_ret2
      refine ⟨?_, B2.out⟩
      rw [HE.out]
      rfl
  · have HE : Aside0 (R = (0, Q.rWords s [x])) := ⟨by rw [HX.out, if_neg h0]⟩
    have t1 : (Q.rWords s [x] != 0) = true := bne_iff_ne.mpr h0
    clear HX h0
    go_wp2
    go_ret2
    refine ⟨?_, B1.out⟩
    rw [HE.out]
    rfl

theorem impl_ChangeDigit.calls (A0_0 : Option Addr) (c0_0 : Nat) (l0_0 : List Int) (a1 : Int) (a2 : Int) (a3 : Int) (r1 : Int) (r2 : Int) (w : World) (hr0_0 : Kd.C (Kd.int .i64) w A0_0 l0_0.length l0_0) (hc0_0 : l0_0.length ≤ c0_0) (h : impl_ChangeDigit.f l0_0 a1 a2 a3 = some (r1, r2)) :
    Calls Try.prog 18 #[.agg #[.slice A0_0 l0_0.length c0_0], .int .i64 a1, .int .i64 a2, .int .i64 a3] w fun e w' => e = .returned (.tuple #[.int .i64 r1, .int .i64 r2]) ∧ Below w.heap.size w w' := by
  unfold impl_ChangeDigit.f at h
  have e := Option.some.inj h
  have := ChangeDigit_calls A0_0 c0_0 l0_0 a1 a2 a3 w hr0_0 hc0_0
  rw [e] at this
  exact this
end Go.Proofs.Ytjabkbnbcajdbaa.P
