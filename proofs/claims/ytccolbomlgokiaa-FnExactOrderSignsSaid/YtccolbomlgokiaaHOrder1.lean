/- Orders of signs: what the function that the program's OrderSigns hands on returns. -/
import Derived.Test.YtccolbomlgokiaaHUpd
import Derived.Test.YtccolbomlgokiaaHDig
import Derived.Test.YtccolbomlgokiaaQBase
set_option linter.unusedVariables false
set_option linter.unusedSimpArgs false
namespace Go.Proofs.Ytccolbomlgokiaa.P
open Go.RowKit Go.Proofs.YtccolbomlgokiaaW.PrintWords Go.Proofs.YtccolbomlgokiaaW.PrintLast Go.Proofs.YtccolbomlgokiaaW.PrintMore CC

theorem set_inRo {s d : List Int} (h : inR s d = true) {n : Nat} (hn : n < s.length) {x : Int} (h0 : 0 ≤ x) (h1 : x < rd s (n : Int)) : inR s (d.set n x) = true := by
  refine inR_of _ _ fun k hk hk2 => ?_
  have hk3 : k < d.length := by simpa using hk2
  have old := inR_rd s d k h hk hk3
  by_cases e : k = n
  · subst e
    have : rd (d.set k x) (k : Int) = x := by simp [rd, List.getD_eq_getElem?_getD, hk3]
    rw [this]
    exact ⟨h0, h1⟩
  · have : rd (d.set n x) (k : Int) = rd d (k : Int) := by
      simp only [rd, Int.toNat_natCast, List.getD_eq_getElem?_getD]
      rw [List.getElem?_set_ne (fun z => e z.symm)]
    rw [this]
    exact old
theorem cell_lto {w : World} {k i : Nat} {v : Value} (h : w.cell? ⟨k, i, none⟩ = some v) : k < w.heap.size := by
  by_cases hk : k < w.heap.size
  · exact hk
  · have : w.heap[k]? = none := Array.getElem?_eq_none (by omega)
    simp [World.cell?, this] at h
/-- The word with another sign at a place. -/
def sgW (s : List Int) (n : Nat) (p : List Int) (x : Int) : Int := hor 0 s ((dig8 s x).set n (rd p (rd (dig8 s x) (n : Int))))

set_option maxHeartbeats 3000000 in
set_option maxRecDepth 100000 in
theorem order1_calls (gs gp gi n : Nat) (A : Option Addr) (c : Nat) (s : List Int) (A2 : Option Addr) (c2 : Nat) (p : List Int) (x : Int) (w : World) (hr : Kd.C (Kd.int .i64) w A s.length s) (hc : s.length ≤ c) (hr2 : Kd.C (Kd.int .i64) w A2 p.length p) (hc2 : p.length ≤ c2) (hs : isSp s = true) (h0 : 0 ≤ x) (h1 : x ≤ 1024)
    (hn : n < s.length) (hpl : (p.length : Int) = rd s (n : Int)) (hp : ∀ j : Nat, j < p.length → 0 ≤ rd p (j : Int) ∧ rd p (j : Int) < p.length)
    (ks : w.cell? ⟨gs, 0, none⟩ = some (.slice A s.length c)) (kp : w.cell? ⟨gp, 0, none⟩ = some (.slice A2 p.length c2)) (ki : w.cell? ⟨gi, 0, none⟩ = some (.int .i64 (n : Int))) :
    Calls Try.prog 46 #[.int .i64 x, .pointer (some ⟨gs, 0, none⟩), .pointer (some ⟨gp, 0, none⟩), .pointer (some ⟨gi, 0, none⟩)] w
      fun e w' => e = .returned (.int .i64 (sgW s n p x)) ∧ Below w.heap.size w w' := by
  have huS := Try.underlying28
  have huD := Try.underlying58
  have HR := Aside0.mk hr
  have HR2 := Aside0.mk hr2
  have HS := Aside0.mk hs
  have HPL := Aside0.mk hpl
  have HPP := Aside0.mk hp
  have hsl := isSp_len hs
  obtain ⟨q0, q1⟩ := size_rd (isSp_all hs) hn
  have I1 := Aside0.mk (dig8_inR hs x)
  have E8 := Aside0.mk (dig8_length s x)
  have HX : Aside0 (sgW s n p x = hor 0 s ((dig8 s x).set n (rd p (rd (dig8 s x) (n : Int))))) := ⟨rfl⟩
  clear hr hr2 hs hpl hp
  go_enter Try.func46, Try.ntmps46
  go_wp2_with fail
  refine (digitsOf_calls A c s x _ HR.out hc HS.out h0 h1).mono ?_
  rintro e w3 ⟨rfl, hb⟩
  have B3 := Aside0.mk hb
  have ks3 := pw_cell_below hb ks
  have kp3 := pw_cell_below hb kp
  have ki3 := pw_cell_below hb ki
  clear ks kp ki hb
  have hd8 : dloop s s.length x (List.replicate 8 0) = dig8 s x := rfl
  rw [hd8]
  clear hd8
  have hyb := inR_rd s (dig8 s x) n I1.out hn (by have := E8.out; omega)
  generalize dig8 s x = e8 at *
  obtain ⟨y0, y1, y2, y3, y4, y5, y6, y7, hd⟩ := eight E8.out
  have ea : arr8 e8 = .agg #[.int .u8 y0, .int .u8 y1, .int .u8 y2, .int .u8 y3, .int .u8 y4, .int .u8 y5, .int .u8 y6, .int .u8 y7] := by rw [hd]; rfl
  have HN : Aside0 ((nums .u8 e8).toArray = #[.int .u8 y0, .int .u8 y1, .int .u8 y2, .int .u8 y3, .int .u8 y4, .int .u8 y5, .int .u8 y6, .int .u8 y7]) := ⟨by rw [hd]; rfl⟩
  rw [ea]
  clear ea hd
  go_wp2_with fail
  have bD : (w3.alloc (.cells #[.int .u8 y0, .int .u8 y1, .int .u8 y2, .int .u8 y3, .int .u8 y4, .int .u8 y5, .int .u8 y6, .int .u8 y7] 58)).heap[w3.heap.size]? = some (.cells (nums .u8 e8).toArray 58 (0, 0)) := by
    rw [HN.out]
    exact blk_new w3 _
  have hce := cell8 bD (i := n) (by have := E8.out; omega)
  have hfe := blk_frozen bD n
  have HBD := Aside0.mk bD
  have BB := below_alloc B3.out (.cells #[.int .u8 y0, .int .u8 y1, .int .u8 y2, .int .u8 y3, .int .u8 y4, .int .u8 y5, .int .u8 y6, .int .u8 y7] 58)
  have hb2 : Below w3.heap.size w3 (w3.alloc (.cells #[.int .u8 y0, .int .u8 y1, .int .u8 y2, .int .u8 y3, .int .u8 y4, .int .u8 y5, .int .u8 y6, .int .u8 y7] 58)) := (Below.refl _ _).alloc (Nat.le_refl _) _
  have ks4 := pw_cell_below hb2 ks3
  have kp4 := pw_cell_below hb2 kp3
  have ki4 := pw_cell_below hb2 ki3
  have hgs := cell_lto ks3
  have hgd : w.heap.size ≤ w3.heap.size := B3.out.size
  clear bD hb2 ks3 kp3 ki3
  have HY := Aside0.mk (rfl : rd e8 (n : Int) = rd e8 (n : Int))
  obtain ⟨ny, hny⟩ : ∃ ny : Nat, rd e8 (n : Int) = (ny : Int) := ⟨(rd e8 (n : Int)).toNat, by omega⟩
  have hnp : ny < p.length := by have := HPL.out; omega
  obtain ⟨ad2, e2, _⟩ := Kd.at_int HR2.out (ny : Int) (by omega) (by omega)
  subst e2
  have hx2 := rd_cell HR2.out BB ny hnp
  have hv := HPP.out ny hnp
  have hpl4 : p.length ≤ 4 := by have := HPL.out; omega
  have HNY := Aside0.mk hny
  have hLN : Aside0 ((ny : Int) < rd s (n : Int)) := ⟨by rw [← HPL.out]; omega⟩
  rw [hny] at hce
  have HBB := Aside0.mk BB
  have I2 := Aside0.mk (set_inRo I1.out hn (x := rd p (ny : Int)) hv.1 (by rw [← HPL.out]; exact hv.2))
  clear hny BB HY hyb
  generalize hvv : rd p (ny : Int) = v at *
  generalize w3.alloc (.cells #[.int .u8 y0, .int .u8 y1, .int .u8 y2, .int .u8 y3, .int .u8 y4, .int .u8 y5, .int .u8 y6, .int .u8 y7] 58) = W at *
  generalize w3.heap.size = gd at *
  go_region
  have h8 := Aside0.mk (blk_drew (blk_set8 HBD.out n v))
  have B5 := Aside0.mk (below_drew (below_set HBB.out (j := n) (v := .int .u8 v) hgd))
  have ks5 : ((W.setCell ⟨gd, n, none⟩ (.int .u8 v)).drew).cell? ⟨gs, 0, none⟩ = some (.slice A s.length c) := by
    show (W.setCell ⟨gd, n, none⟩ (.int .u8 v)).cell? ⟨gs, 0, none⟩ = _
    rw [World.cell?_setCell_other]
    · exact ks4
    · intro e
      injection e with e1
      omega
  have E9 := Aside0.mk (show (e8.set n v).length = 8 by have := E8.out; simpa using this)
  clear ks4 kp4 ki4 hce hfe HBD HBB hx2
  generalize (W.setCell ⟨gd, n, none⟩ (.int .u8 v)).drew = W5 at *
  obtain ⟨z0, z1, z2, z3, z4, z5, z6, z7, hz⟩ := eight E9.out
  have HZ := Aside0.mk hz
  have h8' := h8.out
  rw [hz] at h8'
  have k0 : W5.cell? ⟨gd, 0, none⟩ = some (.int .u8 z0) := blk_cell h8' 0
  have k1 : W5.cell? ⟨gd, 1, none⟩ = some (.int .u8 z1) := blk_cell h8' 1
  have k2 : W5.cell? ⟨gd, 2, none⟩ = some (.int .u8 z2) := blk_cell h8' 2
  have k3 : W5.cell? ⟨gd, 3, none⟩ = some (.int .u8 z3) := blk_cell h8' 3
  have k4 : W5.cell? ⟨gd, 4, none⟩ = some (.int .u8 z4) := blk_cell h8' 4
  have k5 : W5.cell? ⟨gd, 5, none⟩ = some (.int .u8 z5) := blk_cell h8' 5
  have k6 : W5.cell? ⟨gd, 6, none⟩ = some (.int .u8 z6) := blk_cell h8' 6
  have k7 : W5.cell? ⟨gd, 7, none⟩ = some (.int .u8 z7) := blk_cell h8' 7
  clear h8' hz h8
  go_wp2_with fail
  have ea : arr8 (e8.set n v) = .agg #[.int .u8 z0, .int .u8 z1, .int .u8 z2, .int .u8 z3, .int .u8 z4, .int .u8 z5, .int .u8 z6, .int .u8 z7] := by rw [HZ.out]; rfl
  rw [← ea]
  clear ea
  refine (wordOf_calls A c s (e8.set n v) _ (Kd.C_below HR.out B5.out) hc HS.out E9.out I2.out).mono ?_
  rintro e w4 ⟨rfl, hb⟩
  have B4 := Aside0.mk (below_then B5.out B5.out.size hb)
  clear B5 hb
  go_wp2
  go_ret
  exact ⟨by rw [HX.out, HNY.out, hvv]; rfl, B4.out⟩
end Go.Proofs.Ytccolbomlgokiaa.P
