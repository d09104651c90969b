/- The text of a code: what the program's codeText returns. -/
import Derived.Test.YthcodiknghfmmaaHAllOf
import Derived.Test.YthcodiknghfmmaaHRows
import Derived.Test.YthcodiknghfmmaaHDig
import Derived.Test.YthcodiknghfmmaaQBase
import Derived.Test.YthcodiknghfmmaaShelfJ
set_option linter.unusedVariables false
set_option linter.unusedSimpArgs false
namespace Go.Proofs.Ythcodiknghfmmaa.P
open Go.RowKit Go.Proofs.YthcodiknghfmmaaW.PrintWords Go.Proofs.YthcodiknghfmmaaW.PrintLast Go.Proofs.YthcodiknghfmmaaW.PrintMore CC

/-- The bytes of a word's text. -/
def wtx (s : List Int) (x : Int) : List Int := ((dig8 s x).take s.length).map fun q => 48 + q
theorem infoU : (Try.prog.info? 5).map (fun i => (i.zero, i.size, i.bytes)) = some (some (.int .u8 0), 1, 1) := by kernel_rfl
theorem infoS : (Try.prog.info? 9).map (fun i => (i.zero, i.size, i.bytes)) = some (some (.string ⟨#[]⟩), 1, 16) := by kernel_rfl
/-- The strings as the row holds them. -/
def wstrs (s C : List Int) (n : Nat) : List Value := (C.take n).map fun x => .string (strOfNums (wtx s x))
theorem wstrs_succ (s C : List Int) {n : Nat} (h : n < C.length) : wstrs s C (n + 1) = wstrs s C n ++ [.string (strOfNums (wtx s (rd C (n : Int))))] := by
  unfold wstrs
  rw [take_rdO h, List.map_append]
  rfl
theorem wtx_len {s : List Int} (hs : isSp s = true) (x : Int) : (strOfNums (wtx s x)).data.toList.length ≤ 8 := by
  have := isSp_len hs
  simp [strOfNums, wtx]
  omega
theorem joinTail_len (sep : List UInt8) (B : Nat) : ∀ (r : List (List UInt8)), (∀ l ∈ r, l.length ≤ B) → (Lib.joinTail sep r).length ≤ r.length * (sep.length + B)
  | [], _ => by simp [Lib.joinTail]
  | l :: r, h => by
    have ih := joinTail_len sep B r (fun l hl => h l (by simp [hl]))
    have h1 := h l (by simp)
    unfold Lib.joinTail at *
    rw [List.map_cons, List.flatten_cons, List.length_append, List.length_append, List.length_cons, Nat.succ_mul]
    omega
theorem join_len {s : List Int} (hs : isSp s = true) {C : List Int} (hC : C.length ≤ 1048576) : (Lib.join (C.map ((fun (y : ByteArray) => y.data.toList) ∘ fun x => strOfNums (wtx s x))) ([44] : List UInt8)).length ≤ 140737488355328 := by
  cases C with
  | nil => simp [Lib.join_nil]
  | cons x r =>
    rw [List.map_cons, Lib.join_cons, List.length_append]
    have h2 := joinTail_len [44] 8 (r.map ((fun (y : ByteArray) => y.data.toList) ∘ fun x => strOfNums (wtx s x))) (fun l hl => by
      simp only [List.mem_map] at hl
      obtain ⟨z, _, rfl⟩ := hl
      exact wtx_len hs z)
    rw [List.length_map, List.length_singleton] at h2
    have h3 : (((fun (y : ByteArray) => y.data.toList) ∘ fun x => strOfNums (wtx s x)) x).length ≤ 8 := wtx_len hs x
    simp only [List.length_cons] at hC
    omega
theorem inR_u8c {s d : List Int} (hs : s.all sizeOk = true) (h : inR s d = true) {k : Nat} (hk : k < s.length) (hd : k < d.length) : 0 ≤ rd d (k : Int) ∧ rd d (k : Int) ≤ 3 := by
  have h1 := inR_rd s d k h hk hd
  have hq : sizeOk (rd s (k : Int)) = true := by
    have : rd s (k : Int) = s[k] := by simp [rd, List.getD_eq_getElem?_getD, hk]
    rw [this]
    exact List.all_eq_true.1 hs _ (List.getElem_mem hk)
  have := (sizeOk_iff _).1 hq
  omega
theorem bts_succ (d : List Int) {m : Nat} (h : m < d.length) : (d.take (m + 1)).map (fun q => 48 + q) = (d.take m).map (fun q => 48 + q) ++ [48 + rd d (m : Int)] := by
  rw [take_rdO h, List.map_append]
  rfl
set_option maxHeartbeats 3000000 in
set_option maxRecDepth 100000 in
theorem codeText_calls (A : Option Addr) (c : Nat) (s : List Int) (A1 : Option Addr) (c1 : Nat) (C : List Int) (w : World) (hr : Kd.C (Kd.int .i64) w A s.length s) (hc : s.length ≤ c) (hr1 : Kd.C (Kd.int .i64) w A1 C.length C) (hc1 : C.length ≤ c1) (hs : isSp s = true) (hC : C.all (isW s) = true) (hCl : C.length ≤ 1048576) (hCp : 1 ≤ C.length) :
    Calls Try.prog 68 #[.agg #[.slice A s.length c], .slice A1 C.length c1] w
      fun e w' => e = .returned (.string ⟨(Lib.join (C.map fun x => (strOfNums (wtx s x)).data.toList) [44]).toArray⟩) ∧ Below w.heap.size w w' := by
  have huS := Try.underlying28
  have huD := Try.underlying52
  have HR := Aside0.mk hr
  have HR1 := Aside0.mk hr1
  have HS := Aside0.mk hs
  have HC := Aside0.mk hC
  clear hr hr1 hs hC
  go_enter Try.func68, Try.ntmps68
  have hcell : (w.alloc (.cells #[.slice A s.length c] 28)).heap[w.heap.size]? = some (.cells #[.slice A s.length c] 28 (0, 0)) := blk_new _ _
  have hB : Below w.heap.size w (w.alloc (.cells #[.slice A s.length c] 28)) := (Below.refl _ _).alloc (Nat.le_refl _) _
  have hcz : (w.alloc (.cells #[.slice A s.length c] 28)).cell? ⟨w.heap.size, 0, none⟩ = some (.slice A s.length c) := blk_cell hcell 0
  obtain ⟨u0, hu, hu0, hu1, hu2⟩ := info_parts infoU
  have HU := Aside0.mk (And.intro hu (And.intro hu0 (And.intro hu1 hu2)))
  clear hu hu0 hu1 hu2
  obtain ⟨t0, ht, ht0, ht1, ht2⟩ := info_parts infoS
  have HTI := Aside0.mk (And.intro ht (And.intro ht0 (And.intro ht1 ht2)))
  clear ht ht0 ht1 ht2
  go_wp2_with fail
  have hB2 : Below w.heap.size w ((w.alloc (.cells #[.slice A s.length c] 28)).alloc (.cells #[] 9)) := below_alloc hB _
  have hP0 : ((w.alloc (.cells #[.slice A s.length c] 28)).alloc (.cells #[] 9)).ownsRow w.heap.size 9 1 (.slice (some ⟨w.heap.size + 1, 0, none⟩) 0 0) 0 (wstrs s C 0) :=
    ⟨rfl, .inr ⟨w.heap.size + 1, 0, #[], rfl, by omega, by simpa using blk_new (w.alloc (.cells #[.slice A s.length c] 28)) (.cells #[] 9), by omega, by unfold maxLen; omega, rfl, rfl⟩⟩
  refine (digitsOfAll_calls A c s A1 c1 C _ (Kd.C_below HR.out hB2) hc (Kd.C_below HR1.out hB2) hc1 HS.out HC.out hCl).mono ?_
  rintro e w1 ⟨v1, rfl, hO, hb⟩
  obtain ⟨g, cap, rfl, hcap⟩ : ∃ g cap, v1 = .slice (some ⟨g, 0, none⟩) C.length cap ∧ C.length ≤ cap := by
    rcases hO.2 with ⟨_, h⟩ | ⟨g, cap, _, h, _, _, h2, _⟩
    · omega
    · exact ⟨g, cap, h, h2⟩
  have HCAP := Aside0.mk hcap
  have KS := Aside0.mk (blk_below (blk_alloc hcell _) hb)
  have HB1 := Aside0.mk (below_then hB2 hB2.size hb)
  have HL1 := Aside0.mk (own_weaken hO hB2.size)
  have HP1 := Aside0.mk (pw_own_below hP0 hb)
  clear hcell hB hB2 hcz hO hb hcap hP0
  go_wp2_with fail
  go_loopw [5, 15] (fun v i W => ∃ (n : Nat) (vo : Value), n ≤ C.length ∧ vo = v ∧ i = .int .i64 n ∧ Aside0 (W.ownsRow w.heap.size 9 1 vo n (wstrs s C n)) ∧ Aside0 (W.ownsRow w.heap.size 52 8 (.slice (some ⟨g, 0, none⟩) C.length cap) C.length (flat8 (allOf s C C.length))) ∧ Aside0 (W.heap[w.heap.size]? = some (.cells #[.slice A s.length c] 28 (0, 0))) ∧ Aside0 (Below w.heap.size w W)) (fun _ i _ => C.length - (intOf i).toNat)
  case atStart => exact ⟨0, _, by omega, rfl, rfl, HP1, HL1, KS, HB1⟩
  case round =>
    clear HP1 HL1 KS HB1
    obtain ⟨n, vo, hn, rfl, rfl, HP, HL, KS, HB⟩ := hrel
    by_cases hlt : n < C.length
    · have HW := Aside0.mk (wstrs_succ s C hlt)
      have hge := allOf_get s C hlt
      have E8 := Aside0.mk (dig8_length s (rd C (n : Int)))
      have I1 := Aside0.mk (dig8_inR HS.out (rd C (n : Int)))
      have HWT : Aside0 (wtx s (rd C (n : Int)) = ((dig8 s (rd C (n : Int))).take s.length).map fun q => 48 + q) := ⟨rfl⟩
      generalize dig8 s (rd C (n : Int)) = d at *
      generalize rd C (n : Int) = x at *
      obtain ⟨y0, y1, y2, y3, y4, y5, y6, y7, hd⟩ := eight E8.out
      have HN : Aside0 ((nums .u8 d).toArray = #[.int .u8 y0, .int .u8 y1, .int .u8 y2, .int .u8 y3, .int .u8 y4, .int .u8 y5, .int .u8 y6, .int .u8 y7]) := ⟨by rw [hd]; rfl⟩
      rw [hd] at hge
      obtain ⟨k0, k1, k2, k3, k4, k5, k6, k7⟩ := row8g HL.out (allOf_len s C _) hge
      clear hge hd
      have hcz3 : ∀ o1 o2, ((wr.alloc o1).alloc o2).cell? ⟨w.heap.size, 0, none⟩ = some (.slice A s.length c) := fun o1 o2 => blk_cell (blk_alloc (blk_alloc KS.out o1) o2) 0
      go_wp2_with fail
      clear hcz3 k0 k1 k2 k3 k4 k5 k6 k7
      have hsz := HB.out.size
      have BD : ((wr.alloc (.cells #[.int .u8 y0, .int .u8 y1, .int .u8 y2, .int .u8 y3, .int .u8 y4, .int .u8 y5, .int .u8 y6, .int .u8 y7] 52)).alloc (.cells #[] 5)).heap[wr.heap.size]? = some (.cells (nums .u8 d).toArray 52 (0, 0)) := by
        rw [HN.out]
        exact blk_alloc (blk_new wr (.cells #[.int .u8 y0, .int .u8 y1, .int .u8 y2, .int .u8 y3, .int .u8 y4, .int .u8 y5, .int .u8 y6, .int .u8 y7] 52)) (.cells #[] 5)
      have BO : ((wr.alloc (.cells #[.int .u8 y0, .int .u8 y1, .int .u8 y2, .int .u8 y3, .int .u8 y4, .int .u8 y5, .int .u8 y6, .int .u8 y7] 52)).alloc (.cells #[] 5)).ownsRow w.heap.size 5 1 (.slice (some ⟨wr.heap.size + 1, 0, none⟩) 0 0) 0 (nums .u8 ((d.take 0).map fun q => 48 + q)) :=
        ⟨rfl, .inr ⟨wr.heap.size + 1, 0, #[], rfl, by omega, by simpa using blk_new (wr.alloc (.cells #[.int .u8 y0, .int .u8 y1, .int .u8 y2, .int .u8 y3, .int .u8 y4, .int .u8 y5, .int .u8 y6, .int .u8 y7] 52)) (.cells #[] 5), by omega, by unfold maxLen; omega, rfl, rfl⟩⟩
      have HD1 := Aside0.mk BD
      have HO1 := Aside0.mk BO
      have HP1 := Aside0.mk (own_alloc (own_alloc HP.out (.cells #[.int .u8 y0, .int .u8 y1, .int .u8 y2, .int .u8 y3, .int .u8 y4, .int .u8 y5, .int .u8 y6, .int .u8 y7] 52)) (.cells #[] 5))
      have HL1 := Aside0.mk (own_alloc (own_alloc HL.out (.cells #[.int .u8 y0, .int .u8 y1, .int .u8 y2, .int .u8 y3, .int .u8 y4, .int .u8 y5, .int .u8 y6, .int .u8 y7] 52)) (.cells #[] 5))
      have KS1 := Aside0.mk (blk_alloc (blk_alloc KS.out (.cells #[.int .u8 y0, .int .u8 y1, .int .u8 y2, .int .u8 y3, .int .u8 y4, .int .u8 y5, .int .u8 y6, .int .u8 y7] 52)) (.cells #[] 5))
      have HB1 := Aside0.mk (below_alloc (below_alloc HB.out (.cells #[.int .u8 y0, .int .u8 y1, .int .u8 y2, .int .u8 y3, .int .u8 y4, .int .u8 y5, .int .u8 y6, .int .u8 y7] 52)) (.cells #[] 5))
      clear BD BO HP HL KS HB
      generalize (wr.alloc (.cells #[.int .u8 y0, .int .u8 y1, .int .u8 y2, .int .u8 y3, .int .u8 y4, .int .u8 y5, .int .u8 y6, .int .u8 y7] 52)).alloc (.cells #[] 5) = W1 at *
      generalize wr.heap.size = gd at *
      have hsl := isSp_len HS.out
      go_loopw [8, 23] (fun v i W => ∃ (m : Nat) (vb : Value), m ≤ s.length ∧ vb = v ∧ i = .int .i64 m ∧ Aside0 (W.ownsRow w.heap.size 5 1 vb m (nums .u8 ((d.take m).map fun q => 48 + q))) ∧ Aside0 (W.heap[gd]? = some (.cells (nums .u8 d).toArray 52 (0, 0))) ∧ Aside0 (W.ownsRow w.heap.size 9 1 vo n (wstrs s C n)) ∧ Aside0 (W.ownsRow w.heap.size 52 8 (.slice (some ⟨g, 0, none⟩) C.length cap) C.length (flat8 (allOf s C C.length))) ∧ Aside0 (W.heap[w.heap.size]? = some (.cells #[.slice A s.length c] 28 (0, 0))) ∧ Aside0 (Below w.heap.size w W)) (fun _ i _ => s.length - (intOf i).toNat)
      case atStart => exact ⟨0, _, by omega, rfl, rfl, HO1, HD1, HP1, HL1, KS1, HB1⟩
      case round =>
        clear HO1 HD1 HP1 HL1 KS1 HB1
        obtain ⟨m, vb, hm, rfl, rfl, HO, HD, HP, HL, KS, HB⟩ := hrel
        by_cases hlt2 : m < s.length
        · have hd8 : m < d.length := by have := E8.out; omega
          have hy := cell8 HD.out (i := m) hd8
          obtain ⟨r0, r1⟩ := inR_u8c (isSp_all HS.out) I1.out hlt2 hd8
          have HS1 := Aside0.mk (bts_succ d hd8)
          have hlen : (d.take m).length ≤ m := List.length_take_le _ _
          clear hd8
          generalize rd d (m : Int) = y at *
          go_wp2_with (at_builtin; obtain ⟨hi, hz0, hz1, hz2⟩ := HU.out; refine wpList_append_own _ rfl _ _ 88 rfl w.heap.size 5 u0 (.int .u8 0) 1 1 Try.underlying88 hi hz0 hz1 hz2 rfl (by decide) _ m (nums .u8 ((d.take m).map fun q => 48 + q)) rfl (HO.out.alloc _) ⟨wr.heap.size, 0, none⟩ 1 1 [.int .u8 (48 + y)] rfl ?c0 ?c1 ?c2 ?c3 ?c4 ?c5 ?_; clear hi hz0 hz1 hz2)
          case c0 => rfl
          case c1 =>
            intro j u hj
            have hb := blk_cell (blk_new wr (.cells #[.int .u8 (48 + y)] 5)) j
            rw [add_plain, hb]
            simpa using hj
          case c2 => intro u hu; simp only [List.mem_cons, List.not_mem_nil, or_false] at hu; rcases hu with rfl; rfl
          case c3 => unfold maxLen; omega
          case c4 => omega
          case c5 => have := HB.out.size; simp; omega
          intro v' w3 O3 G3 _
          have O4 : Aside0 (w3.ownsRow w.heap.size 5 1 v' (m + 1) (nums .u8 ((d.take (m + 1)).map fun q => 48 + q))) := ⟨by rw [HS1.out, nums_append, List.map_take]; exact O3⟩
          have D3 := Aside0.mk (blk_grown (blk_alloc HD.out _) G3 (own_ne HO.out HD.out (by decide)))
          have P3 := Aside0.mk (own_other (own_alloc HP.out _) G3 (own_type_ne HP.out HO.out (by decide)))
          have L3 := Aside0.mk (own_other (own_alloc HL.out _) G3 (own_type_ne HL.out HO.out (by decide)))
          have S3 := Aside0.mk (blk_grown (blk_alloc KS.out _) G3 (own_ne HO.out KS.out (by decide)))
          have B3 := Aside0.mk (pw_below_grown (below_alloc HB.out _) _ (by have := HB.out.size; simp; omega) G3 (fun k hk => own_base HO.out k hk))
          clear O3 G3 HO HD HP HL KS HB
          go_wp2
          go_roundw
          case rel => exact ⟨m + 1, _, by omega, rfl, by go_num, O4, D3, P3, L3, S3, B3⟩
          case measure => simp [intOf]; omega
        · have hm2 : m = s.length := by omega
          subst hm2
          have hO := HO.out
          rw [← HWT.out] at hO
          have hcv := own_string (P := Try.prog) (src := 88) (e := 5) (dst := 9) Try.underlying88 Try.underlying5 Try.underlying9 hO
          clear hO
          go_wp2_with (at_builtin; obtain ⟨hi, hz0, hz1, hz2⟩ := HTI.out; refine wpList_append_own _ rfl _ _ 86 rfl w.heap.size 9 t0 (.string ⟨#[]⟩) 1 16 Try.underlying86 hi hz0 hz1 hz2 rfl (by decide) _ n (wstrs s C n) rfl (HP.out.alloc _) ⟨wr.heap.size, 0, none⟩ 1 1 [.string (strOfNums (wtx s x))] rfl ?c0 ?c1 ?c2 ?c3 ?c4 ?c5 ?_; clear hi hz0 hz1 hz2)
          case c0 => rfl
          case c1 =>
            intro j u hj
            have hb := blk_cell (blk_new wr (.cells #[.string (strOfNums (wtx s x))] 9)) j
            rw [add_plain, hb]
            simpa using hj
          case c2 => intro u hu; simp only [List.mem_cons, List.not_mem_nil, or_false] at hu; rcases hu with rfl; rfl
          case c3 => unfold maxLen; omega
          case c4 => omega
          case c5 => have := HB.out.size; simp; omega
          intro v' w3 O3 G3 _
          have O4 : Aside0 (w3.ownsRow w.heap.size 9 1 v' (n + 1) (wstrs s C (n + 1))) := ⟨by rw [HW.out]; exact O3⟩
          have L3 := Aside0.mk (own_other (own_alloc HL.out _) G3 (own_type_ne HL.out HP.out (by decide)))
          have S3 := Aside0.mk (blk_grown (blk_alloc KS.out _) G3 (own_ne HP.out KS.out (by decide)))
          have B3 := Aside0.mk (pw_below_grown (below_alloc HB.out _) _ (by have := HB.out.size; simp; omega) G3 (fun k hk => own_base HP.out k hk))
          clear O3 G3 HO HD HP HL KS HB hcv
          go_wp2
          go_roundw
          case rel => exact ⟨n + 1, _, by omega, rfl, by go_num, O4, L3, S3, B3⟩
          case measure => simp [intOf]; omega
    · have hn2 : n = C.length := by omega
      subst hn2
      obtain ⟨A2, c2, rfl⟩ := own_slice HP.out
      have HF : Aside0 (∃ gp, A2 = some ⟨gp, 0, none⟩ ∧ gp < wr.heap.size ∧ C.length ≤ c2 ∧ ∀ (j : Nat) y, (C.map fun x => strOfNums (wtx s x))[j]? = some y → wr.cell? ⟨gp, 0 + j, none⟩ = some (.string y)) := ⟨by
        rcases HP.out.2 with ⟨_, h⟩ | ⟨gp, cap', cur, hv, _, hb, hn2, _⟩
        · omega
        · injection hv with e1 e2 e3
          subst e1 e3
          refine ⟨gp, rfl, blk_lt hb, hn2, fun j y hy => ?_⟩
          have := HP.out.cells (g := gp) rfl j (.string y) (by
            unfold wstrs
            rw [List.take_length, List.getElem?_map]
            rw [List.getElem?_map] at hy
            cases hc : C[j]? with
            | none => rw [hc] at hy; cases hy
            | some z => rw [hc] at hy; simp only [Option.map_some, Option.some.injEq] at hy ⊢; rw [hy])
          rw [add_plain] at this
          rw [Nat.zero_add]
          exact this⟩
      obtain ⟨gp, rfl, hgp, hcp, hcells⟩ := HF.out
      have hj := Try.strings_Join gp 0 c2 (C.map fun x => strOfNums (wtx s x)) ⟨#[44]⟩ wr hcells hgp (by rw [List.length_map]; omega) (by rw [List.length_map]; exact hcp) (by rw [List.map_map]; exact join_len HS.out hCl)
      rw [List.length_map, List.map_map] at hj
      clear HF hcells
      go_wp2_with fail
      refine hj.mono ?_
      rintro e w2 ⟨rfl, hb⟩
      have HB2 := Aside0.mk (below_then HB.out HB.out.size hb)
      clear hj hb
      go_wp2
      go_ret
      exact ⟨rfl, HB2.out⟩

/-- What the program's codeText returns where it is asked of words of a space. -/
def cText (s C : List Int) : ByteArray := ⟨(Lib.join (C.map fun x => (strOfNums (wtx s x)).data.toList) [44]).toArray⟩
def impl_codeText.f (l0_0 l1 : List Int) : Option ByteArray := if isSp l0_0 = true ∧ l1.all (isW l0_0) = true ∧ 1 ≤ l1.length ∧ l1.length ≤ 1048576 then some (cText l0_0 l1) else none

theorem impl_codeText.calls (A0_0 : Option Addr) (c0_0 : Nat) (l0_0 : List Int) (A1 : Option Addr) (c1 : Nat) (l1 : List Int) (r : ByteArray) (w : World) (hr0_0 : Kd.C (Kd.int .i64) w A0_0 l0_0.length l0_0) (hc0_0 : l0_0.length ≤ c0_0) (hr1 : Kd.C (Kd.int .i64) w A1 l1.length l1) (hc1 : l1.length ≤ c1) (h : impl_codeText.f l0_0 l1 = some r) :
    Calls Try.prog 68 #[.agg #[.slice A0_0 l0_0.length c0_0], .slice A1 l1.length c1] w fun e w' => e = .returned (.string r) ∧ Below w.heap.size w w' := by
  unfold impl_codeText.f at h
  split at h
  · rename_i hc
    obtain rfl := Option.some.inj h
    exact codeText_calls A0_0 c0_0 l0_0 A1 c1 l1 w hr0_0 hc0_0 hr1 hc1 hc.1 hc.2.1 hc.2.2.2 hc.2.2.1
  · cases h
end Go.Proofs.Ythcodiknghfmmaa.P
