/- A word without a place: what the functions that the program's TakeOutPlace and KeepSign hand on return. -/
import Derived.Test.YtbhgnphdhkmliaaHWithout
import Derived.Test.YtbhgnphdhkmliaaHDig
import Derived.Test.YtbhgnphdhkmliaaQBase
set_option linter.unusedVariables false
set_option linter.unusedSimpArgs false
namespace Go.Proofs.Ytbhgnphdhkmliaa.P
open Go.RowKit Go.Proofs.YtbhgnphdhkmliaaW.PrintWords Go.Proofs.YtbhgnphdhkmliaaW.PrintLast Go.Proofs.YtbhgnphdhkmliaaW.PrintMore CC

theorem prd_erase : ∀ (s : List Int) (n : Nat), s.all sizeOk = true → 1 ≤ prd (s.eraseIdx n) ∧ prd (s.eraseIdx n) ≤ prd s
  | [], n, _ => by simp [prd]
  | q :: s, 0, h => by
    simp only [List.all_cons, Bool.and_eq_true, sizeOk_iff] at h
    have := prd_pos s h.2
    simp only [List.eraseIdx_cons_zero, prd]
    rcases h.1 with rfl | rfl | rfl <;> omega
  | q :: s, n + 1, h => by
    simp only [List.all_cons, Bool.and_eq_true, sizeOk_iff] at h
    have := prd_erase s n h.2
    simp only [List.eraseIdx_cons_succ, prd]
    rcases h.1 with rfl | rfl | rfl <;> omega
theorem isSp_erase {s : List Int} (h : isSp s = true) (n : Nat) (h2 : 2 ≤ s.length) : isSp (s.eraseIdx n) = true := by
  have h0 := (isSp_iff s).1 h
  have h1 := prd_erase s n h0.2.2.1
  have h3 := List.length_eraseIdx_le s n
  have h4 := List.le_length_eraseIdx s n
  refine (isSp_iff _).2 ⟨by omega, by omega, ?_, by omega⟩
  rw [List.all_eq_true]
  intro x hx
  exact List.all_eq_true.1 h0.2.2.1 x (List.mem_of_mem_eraseIdx hx)
theorem inR_erase : ∀ (s d : List Int) (n : Nat), inR s d = true → inR (s.eraseIdx n) (d.eraseIdx n) = true
  | [], _, _, _ => by simp [inR]
  | _ :: _, [], _, _ => by
    simp only [List.eraseIdx_nil]
    unfold inR
    split <;> simp_all
  | q :: s, x :: d, 0, h => by
    simp only [inR, Bool.and_eq_true] at h
    exact h.2
  | q :: s, x :: d, n + 1, h => by
    simp only [inR, Bool.and_eq_true] at h
    simp only [List.eraseIdx_cons_succ, inR, Bool.and_eq_true]
    exact ⟨h.1, inR_erase s d n h.2⟩
theorem inR_snoc0 : ∀ (s d : List Int), inR s d = true → s.all sizeOk = true → inR s (d ++ [0]) = true
  | [], _, _, _ => by simp [inR]
  | q :: s, [], _, h => by
    simp only [List.all_cons, Bool.and_eq_true, sizeOk_iff] at h
    have : inR s [] = true := by cases s <;> rfl
    simp only [List.nil_append, inR, this, Bool.and_true, Bool.and_eq_true, decide_eq_true_eq]
    omega
  | q :: s, x :: d, h, hs => by
    simp only [List.all_cons, Bool.and_eq_true] at hs
    simp only [inR, Bool.and_eq_true] at h
    simp only [List.cons_append, inR, Bool.and_eq_true]
    exact ⟨h.1, inR_snoc0 s d h.2 hs.2⟩
/-- A word without a place. -/
def outW (s : List Int) (n : Nat) (x : Int) : Int := hor 0 (s.eraseIdx n) ((dig8 s x).eraseIdx n ++ [0])

set_option maxHeartbeats 4000000 in
set_option maxRecDepth 100000 in
theorem «TakeOutPlace$1».out_calls (gx gs gi n : Nat) (AX : Option Addr) (cX : Nat) (A : Option Addr) (c : Nat) (s : List Int) (x : Int) (w : World) (hrX : Kd.C (Kd.int .i64) w AX (s.eraseIdx n).length (s.eraseIdx n)) (hcX : (s.eraseIdx n).length ≤ cX) (hr : Kd.C (Kd.int .i64) w A s.length s) (hc : s.length ≤ c) (hs : isSp s = true) (h2 : 2 ≤ s.length) (hn : n < s.length) (h0 : 0 ≤ x) (h1 : x ≤ 1024)
    (kx : w.cell? ⟨gx, 0, none⟩ = some (.slice AX (s.eraseIdx n).length cX)) (ks : w.cell? ⟨gs, 0, none⟩ = some (.slice A s.length c)) (ki : w.cell? ⟨gi, 0, none⟩ = some (.int .i64 (n : Int))) :
    Calls Try.prog 61 #[.int .i64 x, .pointer (some ⟨gx, 0, none⟩), .pointer (some ⟨gs, 0, none⟩), .pointer (some ⟨gi, 0, none⟩)] w
      fun e w' => e = .returned (.int .i64 (outW s n x)) ∧ Below w.heap.size w w' := by
  have huS := Try.underlying26
  have huD := Try.underlying60
  have HR := Aside0.mk hr
  have HRX := Aside0.mk hrX
  have HS := Aside0.mk hs
  have HSX := Aside0.mk (isSp_erase hs n h2)
  have I1 := Aside0.mk (inR_snoc0 _ _ (inR_erase _ _ n (dig8_inR hs x)) (isSp_all HSX.out))
  have hsl := isSp_len hs
  have hn8 : n < 8 := by omega
  have E9 : Aside0 (((dig8 s x).eraseIdx n ++ [0]).length = 8) := ⟨by rw [List.length_append, List.length_eraseIdx_of_lt (by rw [dig8_length]; omega), dig8_length]; rfl⟩
  have E8 := Aside0.mk (dig8_length s x)
  have HX : Aside0 (outW s n x = hor 0 (s.eraseIdx n) ((dig8 s x).eraseIdx n ++ [0])) := ⟨rfl⟩
  obtain ⟨sx, hsx⟩ : ∃ sx, sx = s.eraseIdx n := ⟨_, rfl⟩
  rw [← hsx] at HRX HSX I1 HX hcX kx
  clear hr hrX hs hsx
  go_enter Try.func61, Try.ntmps61
  go_wp2_with fail
  have hB : Below w.heap.size w w := Below.refl _ _
  have hd8 : dloop s s.length x (List.replicate 8 0) = dig8 s x := rfl
  go_region_held3 (fun w' => w'.cell? ⟨gx, 0, none⟩ = some (.slice AX sx.length cX) ∧ w'.cell? ⟨gs, 0, none⟩ = some (.slice A s.length c) ∧ w'.cell? ⟨gi, 0, none⟩ = some (.int .i64 (n : Int)) ∧ Below w.heap.size w w') (first | exact ⟨kx, ks, ki, below_drew hB⟩ | exact (And.imp (pw_cell_below hb) (And.imp (pw_cell_below hb) (And.imp (pw_cell_below hb) (fun hS => below_then hS hS.size hb)))) (by assumption))
    (first
      | (go_at_call 47; refine (digitsOf_calls A c s _ _ ?k1 hc HS.out (by omega) (by omega)).mono ?_; (case k1 => exact Kd.C_below HR.out (by first | assumption | exact (by assumption : _ ∧ _ ∧ _ ∧ Below _ _ _).2.2.2)); rintro e w' ⟨rfl, hb⟩)
      | (go_at_call 62; refine (without_calls (dig8 s x) E8.out n hn8 _).mono ?_; rintro e w' ⟨rfl, hb⟩)
      | (go_at_call 54; refine (wordOf_calls AX cX sx ((dig8 s x).eraseIdx n ++ [0]) _ ?k1 hcX HSX.out E9.out I1.out).mono ?_; (case k1 => exact Kd.C_below HRX.out (by first | assumption | exact (by assumption : _ ∧ _ ∧ _ ∧ Below _ _ _).2.2.2)); rintro e w' ⟨rfl, hb⟩))
  all_goals
    obtain ⟨_, _, _, hBB⟩ := (by assumption : World.cell? _ ⟨gx, 0, none⟩ = some (Value.slice AX sx.length cX) ∧ _)
    go_wp2
    go_ret
    exact ⟨by rw [HX.out]; rfl, hBB⟩
set_option maxHeartbeats 4000000 in
set_option maxRecDepth 100000 in
theorem «KeepSign$2».out_calls (gx gs gi n : Nat) (AX : Option Addr) (cX : Nat) (A : Option Addr) (c : Nat) (s : List Int) (x : Int) (w : World) (hrX : Kd.C (Kd.int .i64) w AX (s.eraseIdx n).length (s.eraseIdx n)) (hcX : (s.eraseIdx n).length ≤ cX) (hr : Kd.C (Kd.int .i64) w A s.length s) (hc : s.length ≤ c) (hs : isSp s = true) (h2 : 2 ≤ s.length) (hn : n < s.length) (h0 : 0 ≤ x) (h1 : x ≤ 1024)
    (kx : w.cell? ⟨gx, 0, none⟩ = some (.slice AX (s.eraseIdx n).length cX)) (ks : w.cell? ⟨gs, 0, none⟩ = some (.slice A s.length c)) (ki : w.cell? ⟨gi, 0, none⟩ = some (.int .i64 (n : Int))) :
    Calls Try.prog 74 #[.int .i64 x, .pointer (some ⟨gx, 0, none⟩), .pointer (some ⟨gs, 0, none⟩), .pointer (some ⟨gi, 0, none⟩)] w
      fun e w' => e = .returned (.int .i64 (outW s n x)) ∧ Below w.heap.size w w' := by
  have huS := Try.underlying26
  have huD := Try.underlying60
  have HR := Aside0.mk hr
  have HRX := Aside0.mk hrX
  have HS := Aside0.mk hs
  have HSX := Aside0.mk (isSp_erase hs n h2)
  have I1 := Aside0.mk (inR_snoc0 _ _ (inR_erase _ _ n (dig8_inR hs x)) (isSp_all HSX.out))
  have hsl := isSp_len hs
  have hn8 : n < 8 := by omega
  have E9 : Aside0 (((dig8 s x).eraseIdx n ++ [0]).length = 8) := ⟨by rw [List.length_append, List.length_eraseIdx_of_lt (by rw [dig8_length]; omega), dig8_length]; rfl⟩
  have E8 := Aside0.mk (dig8_length s x)
  have HX : Aside0 (outW s n x = hor 0 (s.eraseIdx n) ((dig8 s x).eraseIdx n ++ [0])) := ⟨rfl⟩
  obtain ⟨sx, hsx⟩ : ∃ sx, sx = s.eraseIdx n := ⟨_, rfl⟩
  rw [← hsx] at HRX HSX I1 HX hcX kx
  clear hr hrX hs hsx
  go_enter Try.func74, Try.ntmps74
  go_wp2_with fail
  have hB : Below w.heap.size w w := Below.refl _ _
  have hd8 : dloop s s.length x (List.replicate 8 0) = dig8 s x := rfl
  go_region_held3 (fun w' => w'.cell? ⟨gx, 0, none⟩ = some (.slice AX sx.length cX) ∧ w'.cell? ⟨gs, 0, none⟩ = some (.slice A s.length c) ∧ w'.cell? ⟨gi, 0, none⟩ = some (.int .i64 (n : Int)) ∧ Below w.heap.size w w') (first | exact ⟨kx, ks, ki, below_drew hB⟩ | exact (And.imp (pw_cell_below hb) (And.imp (pw_cell_below hb) (And.imp (pw_cell_below hb) (fun hS => below_then hS hS.size hb)))) (by assumption))
    (first
      | (go_at_call 47; refine (digitsOf_calls A c s _ _ ?k1 hc HS.out (by omega) (by omega)).mono ?_; (case k1 => exact Kd.C_below HR.out (by first | assumption | exact (by assumption : _ ∧ _ ∧ _ ∧ Below _ _ _).2.2.2)); rintro e w' ⟨rfl, hb⟩)
      | (go_at_call 62; refine (without_calls (dig8 s x) E8.out n hn8 _).mono ?_; rintro e w' ⟨rfl, hb⟩)
      | (go_at_call 54; refine (wordOf_calls AX cX sx ((dig8 s x).eraseIdx n ++ [0]) _ ?k1 hcX HSX.out E9.out I1.out).mono ?_; (case k1 => exact Kd.C_below HRX.out (by first | assumption | exact (by assumption : _ ∧ _ ∧ _ ∧ Below _ _ _).2.2.2)); rintro e w' ⟨rfl, hb⟩))
  all_goals
    obtain ⟨_, _, _, hBB⟩ := (by assumption : World.cell? _ ⟨gx, 0, none⟩ = some (Value.slice AX sx.length cX) ∧ _)
    go_wp2
    go_ret
    exact ⟨by rw [HX.out]; rfl, hBB⟩
end Go.Proofs.Ytbhgnphdhkmliaa.P
