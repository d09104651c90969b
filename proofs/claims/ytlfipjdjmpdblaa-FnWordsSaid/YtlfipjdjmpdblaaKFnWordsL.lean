/- What the law FnWords needs, part 12: words, walks of functions (each says that a call returns what the plain Lean function beside it says), plain lemmas. -/
import Derived.Test.YtlfipjdjmpdblaaKFnWordsK
namespace Go.Proofs.Ytlfipjdjmpdblaa.P
open Go.RowKit Go.Proofs.YtlfipjdjmpdblaaW.PrintWords Go.Proofs.YtlfipjdjmpdblaaW.PrintLast Go.Proofs.YtlfipjdjmpdblaaW.PrintMore
attribute [local go_sem] max2_int min2_int max_two min_two max_three min_three max_four min_four
set_option linter.unusedVariables false
set_option linter.unusedSimpArgs false
mutual
def laws_FnWords.j0 : Nat → List Int → Int → Int → Int → Int → Int → Int → Int → List Int → Bool → List Int → Option (Bool)
  | 0, _, _, _, _, _, _, _, _, _, _, _ => none
  | k + 1, x0, x4, x5, x6, x7, x10, x14, x18, x22, x197, x108000 => if x197 = true then (some false) else (if x7 = 0 then ((impl_WordOf.f k x108000 x22).bind fun bt135 => ((impl_SumOfWords.f k x108000 x5 x14).bind fun bt137 => ((impl_SumOfWords.f k x108000 x4 x14).bind fun bt139 => ((impl_WeightOf.f k x108000 bt139.1).bind fun bt141 => ((impl_DistanceOf.f k x108000 x5 x4).bind fun bt143 => ((impl_DistanceOf.f k x108000 x4 x6).bind fun bt145 => (if bt135.2 = 0 then (if bt137.2 = 0 then (if bt139.2 = 0 then (if bt141.2 = 0 then (if bt143.2 = 0 then (if bt145.2 = 0 then (if bt135.1 = x5 then (if bt137.1 = 0 then (if bt141.1 = x10 then (if bt143.1 = x10 then (if bt145.1 = x18 then (if ((x10 == 0) != (x4 == x5)) = true then (some false) else (laws_FnWords.j1 k x0)) else (some false)) else (some false)) else (some false)) else (some false)) else (some false)) else (some false)) else (some false)) else (some false)) else (some false)) else (some false)) else (some false)))))))) else (laws_FnWords.j1 k x0))
def laws_FnWords.j1 : Nat → List Int → Option (Bool)
  | 0, _ => none
  | k + 1, x0 => (spec_DrawBallOf.f k x0).bind fun bt147 => ((impl_BallOf.f k bt147.1 bt147.2.1 bt147.2.2).bind fun bt153 => ((spec_BallOf.f k bt147.1 bt147.2.1 bt147.2.2).bind fun bt157 => ((impl_SphereOf.f bt147.1 bt147.2.1 bt147.2.2).bind fun bt161 => ((spec_SphereOf.f k bt147.1 bt147.2.1 bt147.2.2).bind fun bt165 => ((impl_BallSize.f k bt147.1 bt147.2.2).bind fun bt169 => ((spec_BallSize.f k bt147.1 bt147.2.2).bind fun bt171 => (if bt153.2 = bt157.2 then ((laws_likeInts.f k bt153.1 bt157.1).bind fun t173 => (if t173 = true then (if bt161.2 = bt165.2 then ((laws_likeInts.f k bt161.1 bt165.1).bind fun t174 => (if t174 = true then (if bt169.2 = bt171.2 then (laws_FnWords.j2 k x0 bt153.1 bt153.2 bt161.1 bt169.1 (bt169.1 != bt171.1)) else (laws_FnWords.j2 k x0 bt153.1 bt153.2 bt161.1 bt169.1 true)) else (laws_FnWords.j2 k x0 bt153.1 bt153.2 bt161.1 bt169.1 true))) else (laws_FnWords.j2 k x0 bt153.1 bt153.2 bt161.1 bt169.1 true)) else (laws_FnWords.j2 k x0 bt153.1 bt153.2 bt161.1 bt169.1 true))) else (laws_FnWords.j2 k x0 bt153.1 bt153.2 bt161.1 bt169.1 true))))))))
def laws_FnWords.j2 : Nat → List Int → List Int → Int → List Int → Int → Bool → Option (Bool)
  | 0, _, _, _, _, _, _ => none
  | k + 1, x0, x41, x42, x45, x49, x369 => if x369 = true then (some false) else (if x42 = 0 then (if (x41.length : Int) = x49 then (laws_FnWords.j3 k x0 x41 x45 (decide ((x45.length : Int) > (x41.length : Int)))) else (laws_FnWords.j3 k x0 x41 x45 true)) else (laws_FnWords.j5 k x0))
def laws_FnWords.j5 : Nat → List Int → Option (Bool)
  | 0, _ => none
  | k + 1, x0 => (spec_DrawChangeDigit.f k x0).bind fun bt177 => ((impl_ChangeDigit.f bt177.1 bt177.2.1 bt177.2.2.1 bt177.2.2.2).bind fun bt184 => ((spec_ChangeDigit.f k bt177.1 bt177.2.1 bt177.2.2.1 bt177.2.2.2).bind fun bt186 => ((spec_DrawWordOf.f k x0).bind fun bt188 => ((impl_WordOf.f k bt188.1 bt188.2).bind fun bt195 => ((spec_WordOf.f k bt188.1 bt188.2).bind fun bt197 => (if bt184.2 = bt186.2 then (if bt184.1 = bt186.1 then (if bt195.2 = bt197.2 then (laws_FnWords.j6 k bt177.2.1 bt184.1 bt184.2 (bt195.1 != bt197.1) bt177.1) else (laws_FnWords.j6 k bt177.2.1 bt184.1 bt184.2 true bt177.1)) else (laws_FnWords.j6 k bt177.2.1 bt184.1 bt184.2 true bt177.1)) else (laws_FnWords.j6 k bt177.2.1 bt184.1 bt184.2 true bt177.1)))))))
def laws_FnWords.j6 : Nat → Int → Int → Int → Bool → List Int → Option (Bool)
  | 0, _, _, _, _, _ => none
  | k + 1, x55, x58, x59, x453, x184000 => if x453 = true then (some false) else (if x59 = 0 then ((impl_DistanceOf.f k x184000 x55 x58).bind fun bt199 => (if bt199.2 = 0 then (some (decide (bt199.1 ≤ 1))) else (some false))) else (some true))
def laws_FnWords.j3 : Nat → List Int → List Int → List Int → Bool → Option (Bool)
  | 0, _, _, _, _ => none
  | k + 1, x0, x41, x45, x382 => if x382 = true then (some false) else (laws_FnWords.l0 k x0 x41 x45 (x45.length : Int) 0)
def laws_FnWords.l0 : Nat → List Int → List Int → List Int → Int → Int → Option (Bool)
  | 0, _, _, _, _, _ => none
  | k + 1, x0, x41, x45, x384, x385 => if x385 < x384 then (if 0 ≤ x385 then (if x385 < (x45.length : Int) then ((laws_hasInt.f k x41 (rd x45 x385)).bind fun t176 => (if t176 = true then (laws_FnWords.l0 k x0 x41 x45 x384 (wrap64 (x385 + 1))) else (some false))) else (none)) else (none)) else (laws_FnWords.j5 k x0)
end
def laws_FnWords.f (k : Nat) (l0 : List Int) : Option (Bool) := (laws_big.f l0).bind fun t101 => (if t101 = true then (some true) else ((spec_DrawSumOfWords.f k l0).bind fun bt102 => ((impl_SumOfWords.f k bt102.1 bt102.2.1 bt102.2.2).bind fun bt108 => ((spec_SumOfWords.f k bt102.1 bt102.2.1 bt102.2.2).bind fun bt110 => ((impl_DistanceOf.f k bt102.1 bt102.2.1 bt102.2.2).bind fun bt112 => ((spec_DistanceOf.f k bt102.1 bt102.2.1 bt102.2.2).bind fun bt114 => ((impl_OppositeWord.f bt102.1 bt102.2.2).bind fun bt116 => ((spec_OppositeWord.f k bt102.1 bt102.2.2).bind fun bt118 => ((impl_WeightOf.f k bt102.1 bt102.2.2).bind fun bt120 => ((spec_WeightOf.f k bt102.1 bt102.2.2).bind fun bt122 => ((impl_DigitsOf.f bt102.1 bt102.2.2).bind fun bt124 => ((spec_DigitsOf.f k bt102.1 bt102.2.2).bind fun bt128 => (if bt108.2 = bt110.2 then (if bt108.1 = bt110.1 then (if bt112.2 = bt114.2 then (if bt112.1 = bt114.1 then (if bt116.2 = bt118.2 then (if bt116.1 = bt118.1 then (if bt120.2 = bt122.2 then (if bt120.1 = bt122.1 then (if bt124.2 = bt128.2 then ((laws_likeInts.f k bt124.1 bt128.1).bind fun t132 => (if t132 = true then ((impl_IsSpace.f k bt102.1).bind fun t133 => ((spec_IsSpace.f k bt102.1).bind fun t134 => (laws_FnWords.j0 k l0 bt102.2.1 bt102.2.2 bt108.1 bt108.2 bt112.1 bt116.1 bt120.1 bt124.1 (t133 != t134) bt102.1))) else (laws_FnWords.j0 k l0 bt102.2.1 bt102.2.2 bt108.1 bt108.2 bt112.1 bt116.1 bt120.1 bt124.1 true bt102.1))) else (laws_FnWords.j0 k l0 bt102.2.1 bt102.2.2 bt108.1 bt108.2 bt112.1 bt116.1 bt120.1 bt124.1 true bt102.1)) else (laws_FnWords.j0 k l0 bt102.2.1 bt102.2.2 bt108.1 bt108.2 bt112.1 bt116.1 bt120.1 bt124.1 true bt102.1)) else (laws_FnWords.j0 k l0 bt102.2.1 bt102.2.2 bt108.1 bt108.2 bt112.1 bt116.1 bt120.1 bt124.1 true bt102.1)) else (laws_FnWords.j0 k l0 bt102.2.1 bt102.2.2 bt108.1 bt108.2 bt112.1 bt116.1 bt120.1 bt124.1 true bt102.1)) else (laws_FnWords.j0 k l0 bt102.2.1 bt102.2.2 bt108.1 bt108.2 bt112.1 bt116.1 bt120.1 bt124.1 true bt102.1)) else (laws_FnWords.j0 k l0 bt102.2.1 bt102.2.2 bt108.1 bt108.2 bt112.1 bt116.1 bt120.1 bt124.1 true bt102.1)) else (laws_FnWords.j0 k l0 bt102.2.1 bt102.2.2 bt108.1 bt108.2 bt112.1 bt116.1 bt120.1 bt124.1 true bt102.1)) else (laws_FnWords.j0 k l0 bt102.2.1 bt102.2.2 bt108.1 bt108.2 bt112.1 bt116.1 bt120.1 bt124.1 true bt102.1)) else (laws_FnWords.j0 k l0 bt102.2.1 bt102.2.2 bt108.1 bt108.2 bt112.1 bt116.1 bt120.1 bt124.1 true bt102.1))))))))))))))
def laws_FnWords.T14 : Bool × List (List Nat × List Nat) := (true, [([], []), ([], []), ([0, 1], [0, 1]), ([2], [2]), ([3], [3]), ([3], [3]), ([4, 5, 3], [3, 4, 5]), ([3, 6], [3, 6]), ([7, 3], [7]), ([8], [8]), ([8], [8]), ([9, 10, 8], [8, 9, 10]), ([8, 11], [8, 11]), ([12, 8], [12]), ([13], [13]), ([13], [13]), ([14, 15, 13], [13, 14, 15]), ([13, 16], [13, 16]), ([17, 13], [17]), ([18], [18]), ([18], [18]), ([19, 20, 18], [18, 19, 20]), ([18, 21], [18, 21]), ([22, 18], [22]), ([23], [23]), ([23], [23]), ([24, 25, 23], [23, 24, 25]), ([23, 26], [23, 26]), ([27, 23], [27]), ([28], [28]), ([28], [28]), ([29, 30, 28], [28, 29, 30]), ([28, 31], [28, 31]), ([32, 28], [32]), ([33], [33]), ([33], [33]), ([34, 35, 33], [33, 34, 35]), ([33, 36], [33, 36]), ([37, 33], [37]), ([38], [38]), ([38], [38]), ([39, 40, 38], [38, 39, 40]), ([38, 41], [38, 41]), ([42, 38], [42]), ([43], [43]), ([43], [43]), ([44, 45, 43, 43], [43, 44, 45]), ([46, 43], [43, 46]), ([43, 47], [43, 47]), ([48, 46], [48]), ([49], [49]), ([50, 49, 49], [49, 50]), ([49], [49]), ([52, 51, 49], [49, 52]), ([51, 53, 49], [49, 51, 53]), ([49, 54], [49, 54])])
def laws_FnWords.B14 : List Nat := [0, 0, 3, 7, 15, 15, 63, 127, 255, 511, 511, 2047, 4095, 8191, 16383, 16383, 65535, 131071, 262143, 524287, 524287, 2097151, 4194303, 8388607, 16777215, 16777215, 67108863, 134217727, 268435455, 536870911, 536870911, 2147483647, 4294967295, 8589934591, 17179869183, 17179869183, 68719476735, 137438953471, 274877906943, 549755813887, 549755813887, 2199023255551, 4398046511103, 8796093022207, 17592186044415, 17592186044415, 70368744177663, 140737488355327, 281474976710655, 562949953421311, 1125899906842623, 2251799813685247, 1125899906842623, 9007199254740991, 18014398509481983, 36028797018963967]
theorem laws_FnWords.tab14 : rtab .any (opsOf Try.f3 14) = laws_FnWords.T14 := by kernel_rfl
theorem laws_FnWords.bits14 : waitsOk laws_FnWords.T14.2 laws_FnWords.B14 = true := by kernel_rfl
theorem laws_FnWords.no {Q : Prop} {r : Bool} (hr : r = true) {o : Option Bool} (H : o = some r) (h : ¬ (o = some true) := by first | (simp; done) | (unfold laws_FnWords.j0; split <;> (simp; done)) | (unfold laws_FnWords.j1; split <;> (simp; done)) | (unfold laws_FnWords.j2; split <;> (simp; done)) | (unfold laws_FnWords.j3; split <;> (simp; done)) | (unfold laws_FnWords.j5; split <;> (simp; done)) | (unfold laws_FnWords.j6; split <;> (simp; done)) | (simp; unfold laws_FnWords.j0; split <;> (simp; done)) | (simp; unfold laws_FnWords.j1; split <;> (simp; done)) | (simp; unfold laws_FnWords.j2; split <;> (simp; done)) | (simp; unfold laws_FnWords.j3; split <;> (simp; done)) | (simp; unfold laws_FnWords.j5; split <;> (simp; done)) | (simp; unfold laws_FnWords.j6; split <;> (simp; done))) : Q := absurd (hr ▸ H) h
set_option maxHeartbeats 8000000 in
set_option maxRecDepth 100000 in
theorem laws_FnWords.calls (k : Nat) (A0 : Option Addr) (c0 : Nat) (l0 : List Int) (r : Bool) (hr_ : r = true) (w : World) (hr0 : Kd.C (Kd.int .u8) w A0 l0.length l0) (hc0 : l0.length ≤ c0) (h : laws_FnWords.f k l0 = some r) :
  Calls Try.prog 3 #[.slice A0 l0.length c0] w fun e w' => e = .returned (.bool r) ∧ Below w.heap.size w w' := by
 have hu26 := Try.underlying26
 have HR0 := Aside0.mk hr0
 have HC0 := Aside0.mk hc0
 clear hr0 hc0
 have HB := Aside0.mk (Below.refl w.heap.size w)
 have H : ((laws_big.f l0).bind fun t101 => (if t101 = true then (some true) else ((spec_DrawSumOfWords.f k l0).bind fun bt102 => ((impl_SumOfWords.f k bt102.1 bt102.2.1 bt102.2.2).bind fun bt108 => ((spec_SumOfWords.f k bt102.1 bt102.2.1 bt102.2.2).bind fun bt110 => ((impl_DistanceOf.f k bt102.1 bt102.2.1 bt102.2.2).bind fun bt112 => ((spec_DistanceOf.f k bt102.1 bt102.2.1 bt102.2.2).bind fun bt114 => ((impl_OppositeWord.f bt102.1 bt102.2.2).bind fun bt116 => ((spec_OppositeWord.f k bt102.1 bt102.2.2).bind fun bt118 => ((impl_WeightOf.f k bt102.1 bt102.2.2).bind fun bt120 => ((spec_WeightOf.f k bt102.1 bt102.2.2).bind fun bt122 => ((impl_DigitsOf.f bt102.1 bt102.2.2).bind fun bt124 => ((spec_DigitsOf.f k bt102.1 bt102.2.2).bind fun bt128 => (if bt108.2 = bt110.2 then (if bt108.1 = bt110.1 then (if bt112.2 = bt114.2 then (if bt112.1 = bt114.1 then (if bt116.2 = bt118.2 then (if bt116.1 = bt118.1 then (if bt120.2 = bt122.2 then (if bt120.1 = bt122.1 then (if bt124.2 = bt128.2 then ((laws_likeInts.f k bt124.1 bt128.1).bind fun t132 => (if t132 = true then ((impl_IsSpace.f k bt102.1).bind fun t133 => ((spec_IsSpace.f k bt102.1).bind fun t134 => (laws_FnWords.j0 k l0 bt102.2.1 bt102.2.2 bt108.1 bt108.2 bt112.1 bt116.1 bt120.1 bt124.1 (t133 != t134) bt102.1))) else (laws_FnWords.j0 k l0 bt102.2.1 bt102.2.2 bt108.1 bt108.2 bt112.1 bt116.1 bt120.1 bt124.1 true bt102.1))) else (laws_FnWords.j0 k l0 bt102.2.1 bt102.2.2 bt108.1 bt108.2 bt112.1 bt116.1 bt120.1 bt124.1 true bt102.1)) else (laws_FnWords.j0 k l0 bt102.2.1 bt102.2.2 bt108.1 bt108.2 bt112.1 bt116.1 bt120.1 bt124.1 true bt102.1)) else (laws_FnWords.j0 k l0 bt102.2.1 bt102.2.2 bt108.1 bt108.2 bt112.1 bt116.1 bt120.1 bt124.1 true bt102.1)) else (laws_FnWords.j0 k l0 bt102.2.1 bt102.2.2 bt108.1 bt108.2 bt112.1 bt116.1 bt120.1 bt124.1 true bt102.1)) else (laws_FnWords.j0 k l0 bt102.2.1 bt102.2.2 bt108.1 bt108.2 bt112.1 bt116.1 bt120.1 bt124.1 true bt102.1)) else (laws_FnWords.j0 k l0 bt102.2.1 bt102.2.2 bt108.1 bt108.2 bt112.1 bt116.1 bt120.1 bt124.1 true bt102.1)) else (laws_FnWords.j0 k l0 bt102.2.1 bt102.2.2 bt108.1 bt108.2 bt112.1 bt116.1 bt120.1 bt124.1 true bt102.1)) else (laws_FnWords.j0 k l0 bt102.2.1 bt102.2.2 bt108.1 bt108.2 bt112.1 bt116.1 bt120.1 bt124.1 true bt102.1)) else (laws_FnWords.j0 k l0 bt102.2.1 bt102.2.2 bt108.1 bt108.2 bt112.1 bt116.1 bt120.1 bt124.1 true bt102.1))))))))))))))) = some r := h
 clear h
 replace H := Option.bind_eq_some_iff.mp H
 obtain ⟨t101, A20, H⟩ := H
 replace H : (if t101 = true then (some true) else ((spec_DrawSumOfWords.f k l0).bind fun bt102 => ((impl_SumOfWords.f k bt102.1 bt102.2.1 bt102.2.2).bind fun bt108 => ((spec_SumOfWords.f k bt102.1 bt102.2.1 bt102.2.2).bind fun bt110 => ((impl_DistanceOf.f k bt102.1 bt102.2.1 bt102.2.2).bind fun bt112 => ((spec_DistanceOf.f k bt102.1 bt102.2.1 bt102.2.2).bind fun bt114 => ((impl_OppositeWord.f bt102.1 bt102.2.2).bind fun bt116 => ((spec_OppositeWord.f k bt102.1 bt102.2.2).bind fun bt118 => ((impl_WeightOf.f k bt102.1 bt102.2.2).bind fun bt120 => ((spec_WeightOf.f k bt102.1 bt102.2.2).bind fun bt122 => ((impl_DigitsOf.f bt102.1 bt102.2.2).bind fun bt124 => ((spec_DigitsOf.f k bt102.1 bt102.2.2).bind fun bt128 => (if bt108.2 = bt110.2 then (if bt108.1 = bt110.1 then (if bt112.2 = bt114.2 then (if bt112.1 = bt114.1 then (if bt116.2 = bt118.2 then (if bt116.1 = bt118.1 then (if bt120.2 = bt122.2 then (if bt120.1 = bt122.1 then (if bt124.2 = bt128.2 then ((laws_likeInts.f k bt124.1 bt128.1).bind fun t132 => (if t132 = true then ((impl_IsSpace.f k bt102.1).bind fun t133 => ((spec_IsSpace.f k bt102.1).bind fun t134 => (laws_FnWords.j0 k l0 bt102.2.1 bt102.2.2 bt108.1 bt108.2 bt112.1 bt116.1 bt120.1 bt124.1 (t133 != t134) bt102.1))) else (laws_FnWords.j0 k l0 bt102.2.1 bt102.2.2 bt108.1 bt108.2 bt112.1 bt116.1 bt120.1 bt124.1 true bt102.1))) else (laws_FnWords.j0 k l0 bt102.2.1 bt102.2.2 bt108.1 bt108.2 bt112.1 bt116.1 bt120.1 bt124.1 true bt102.1)) else (laws_FnWords.j0 k l0 bt102.2.1 bt102.2.2 bt108.1 bt108.2 bt112.1 bt116.1 bt120.1 bt124.1 true bt102.1)) else (laws_FnWords.j0 k l0 bt102.2.1 bt102.2.2 bt108.1 bt108.2 bt112.1 bt116.1 bt120.1 bt124.1 true bt102.1)) else (laws_FnWords.j0 k l0 bt102.2.1 bt102.2.2 bt108.1 bt108.2 bt112.1 bt116.1 bt120.1 bt124.1 true bt102.1)) else (laws_FnWords.j0 k l0 bt102.2.1 bt102.2.2 bt108.1 bt108.2 bt112.1 bt116.1 bt120.1 bt124.1 true bt102.1)) else (laws_FnWords.j0 k l0 bt102.2.1 bt102.2.2 bt108.1 bt108.2 bt112.1 bt116.1 bt120.1 bt124.1 true bt102.1)) else (laws_FnWords.j0 k l0 bt102.2.1 bt102.2.2 bt108.1 bt108.2 bt112.1 bt116.1 bt120.1 bt124.1 true bt102.1)) else (laws_FnWords.j0 k l0 bt102.2.1 bt102.2.2 bt108.1 bt108.2 bt112.1 bt116.1 bt120.1 bt124.1 true bt102.1)) else (laws_FnWords.j0 k l0 bt102.2.1 bt102.2.2 bt108.1 bt108.2 bt112.1 bt116.1 bt120.1 bt124.1 true bt102.1)))))))))))))) = some r := H
 have A2 := Aside0.mk A20
 clear A20
 by_cases c3 : t101 = true
 ·subst c3
  have H1 : (some true) = some r := by rw [if_pos rfl] at H; exact H
  clear H
  have H := H1
  clear H1
  obtain rfl := Option.some.inj H
  go_enter Try.func3, Try.ntmps3
  go_wp2_with (first | ((with_reducible refine gate_callee (f := 6) rfl ?_); refine goesL_ (some 71) rfl rfl Try.func6 (by kernel_rfl) rfl #[.slice A0 l0.length c0] rfl (by (try simp only [List.map_toArray, List.map_cons, List.map_nil]); first | done | rfl | (simp only [List.length_drop, List.length_take]; rfl)) ?_; (with_reducible refine (laws_big.calls _ _ l0 true _ ?side1 ?side2 A2.out).mono ?_); (case side1 => repeat (first | exact HR0.out | (with_reducible refine Kd.C_alloc ?_ _) | (with_reducible refine Kd.C_drewN ?_ _) | (with_reducible refine Kd.C_drew ?_))); (case side2 => exact HC0.out); rintro e w' ⟨rfl, ⟨nd, rfl⟩⟩; refine ⟨_, rfl, ?_⟩))
  go_ret
  exact ⟨by first | rfl | (simp [errW_none, errW_some] <;> rfl) | (simp [*, errW_none, errW_some] <;> rfl), gb_ HB.out⟩
 ·replace c3 := Bool.eq_false_iff.mpr c3
  subst c3
  have H1 : ((spec_DrawSumOfWords.f k l0).bind fun bt102 => ((impl_SumOfWords.f k bt102.1 bt102.2.1 bt102.2.2).bind fun bt108 => ((spec_SumOfWords.f k bt102.1 bt102.2.1 bt102.2.2).bind fun bt110 => ((impl_DistanceOf.f k bt102.1 bt102.2.1 bt102.2.2).bind fun bt112 => ((spec_DistanceOf.f k bt102.1 bt102.2.1 bt102.2.2).bind fun bt114 => ((impl_OppositeWord.f bt102.1 bt102.2.2).bind fun bt116 => ((spec_OppositeWord.f k bt102.1 bt102.2.2).bind fun bt118 => ((impl_WeightOf.f k bt102.1 bt102.2.2).bind fun bt120 => ((spec_WeightOf.f k bt102.1 bt102.2.2).bind fun bt122 => ((impl_DigitsOf.f bt102.1 bt102.2.2).bind fun bt124 => ((spec_DigitsOf.f k bt102.1 bt102.2.2).bind fun bt128 => (if bt108.2 = bt110.2 then (if bt108.1 = bt110.1 then (if bt112.2 = bt114.2 then (if bt112.1 = bt114.1 then (if bt116.2 = bt118.2 then (if bt116.1 = bt118.1 then (if bt120.2 = bt122.2 then (if bt120.1 = bt122.1 then (if bt124.2 = bt128.2 then ((laws_likeInts.f k bt124.1 bt128.1).bind fun t132 => (if t132 = true then ((impl_IsSpace.f k bt102.1).bind fun t133 => ((spec_IsSpace.f k bt102.1).bind fun t134 => (laws_FnWords.j0 k l0 bt102.2.1 bt102.2.2 bt108.1 bt108.2 bt112.1 bt116.1 bt120.1 bt124.1 (t133 != t134) bt102.1))) else (laws_FnWords.j0 k l0 bt102.2.1 bt102.2.2 bt108.1 bt108.2 bt112.1 bt116.1 bt120.1 bt124.1 true bt102.1))) else (laws_FnWords.j0 k l0 bt102.2.1 bt102.2.2 bt108.1 bt108.2 bt112.1 bt116.1 bt120.1 bt124.1 true bt102.1)) else (laws_FnWords.j0 k l0 bt102.2.1 bt102.2.2 bt108.1 bt108.2 bt112.1 bt116.1 bt120.1 bt124.1 true bt102.1)) else (laws_FnWords.j0 k l0 bt102.2.1 bt102.2.2 bt108.1 bt108.2 bt112.1 bt116.1 bt120.1 bt124.1 true bt102.1)) else (laws_FnWords.j0 k l0 bt102.2.1 bt102.2.2 bt108.1 bt108.2 bt112.1 bt116.1 bt120.1 bt124.1 true bt102.1)) else (laws_FnWords.j0 k l0 bt102.2.1 bt102.2.2 bt108.1 bt108.2 bt112.1 bt116.1 bt120.1 bt124.1 true bt102.1)) else (laws_FnWords.j0 k l0 bt102.2.1 bt102.2.2 bt108.1 bt108.2 bt112.1 bt116.1 bt120.1 bt124.1 true bt102.1)) else (laws_FnWords.j0 k l0 bt102.2.1 bt102.2.2 bt108.1 bt108.2 bt112.1 bt116.1 bt120.1 bt124.1 true bt102.1)) else (laws_FnWords.j0 k l0 bt102.2.1 bt102.2.2 bt108.1 bt108.2 bt112.1 bt116.1 bt120.1 bt124.1 true bt102.1)) else (laws_FnWords.j0 k l0 bt102.2.1 bt102.2.2 bt108.1 bt108.2 bt112.1 bt116.1 bt120.1 bt124.1 true bt102.1))))))))))))) = some r := by rw [if_neg (show ¬ (false = true) by decide)] at H; exact H
  clear H
  have H := H1
  clear H1
  replace H := Option.bind_eq_some_iff.mp H
  obtain ⟨⟨t102, t105, t106⟩, A40, H⟩ := H
  replace H : ((impl_SumOfWords.f k t102 t105 t106).bind fun bt108 => ((spec_SumOfWords.f k t102 t105 t106).bind fun bt110 => ((impl_DistanceOf.f k t102 t105 t106).bind fun bt112 => ((spec_DistanceOf.f k t102 t105 t106).bind fun bt114 => ((impl_OppositeWord.f t102 t106).bind fun bt116 => ((spec_OppositeWord.f k t102 t106).bind fun bt118 => ((impl_WeightOf.f k t102 t106).bind fun bt120 => ((spec_WeightOf.f k t102 t106).bind fun bt122 => ((impl_DigitsOf.f t102 t106).bind fun bt124 => ((spec_DigitsOf.f k t102 t106).bind fun bt128 => (if bt108.2 = bt110.2 then (if bt108.1 = bt110.1 then (if bt112.2 = bt114.2 then (if bt112.1 = bt114.1 then (if bt116.2 = bt118.2 then (if bt116.1 = bt118.1 then (if bt120.2 = bt122.2 then (if bt120.1 = bt122.1 then (if bt124.2 = bt128.2 then ((laws_likeInts.f k bt124.1 bt128.1).bind fun t132 => (if t132 = true then ((impl_IsSpace.f k t102).bind fun t133 => ((spec_IsSpace.f k t102).bind fun t134 => (laws_FnWords.j0 k l0 t105 t106 bt108.1 bt108.2 bt112.1 bt116.1 bt120.1 bt124.1 (t133 != t134) t102))) else (laws_FnWords.j0 k l0 t105 t106 bt108.1 bt108.2 bt112.1 bt116.1 bt120.1 bt124.1 true t102))) else (laws_FnWords.j0 k l0 t105 t106 bt108.1 bt108.2 bt112.1 bt116.1 bt120.1 bt124.1 true t102)) else (laws_FnWords.j0 k l0 t105 t106 bt108.1 bt108.2 bt112.1 bt116.1 bt120.1 bt124.1 true t102)) else (laws_FnWords.j0 k l0 t105 t106 bt108.1 bt108.2 bt112.1 bt116.1 bt120.1 bt124.1 true t102)) else (laws_FnWords.j0 k l0 t105 t106 bt108.1 bt108.2 bt112.1 bt116.1 bt120.1 bt124.1 true t102)) else (laws_FnWords.j0 k l0 t105 t106 bt108.1 bt108.2 bt112.1 bt116.1 bt120.1 bt124.1 true t102)) else (laws_FnWords.j0 k l0 t105 t106 bt108.1 bt108.2 bt112.1 bt116.1 bt120.1 bt124.1 true t102)) else (laws_FnWords.j0 k l0 t105 t106 bt108.1 bt108.2 bt112.1 bt116.1 bt120.1 bt124.1 true t102)) else (laws_FnWords.j0 k l0 t105 t106 bt108.1 bt108.2 bt112.1 bt116.1 bt120.1 bt124.1 true t102)) else (laws_FnWords.j0 k l0 t105 t106 bt108.1 bt108.2 bt112.1 bt116.1 bt120.1 bt124.1 true t102)))))))))))) = some r := H
  have A4 := Aside0.mk A40
  clear A40
  replace H := Option.bind_eq_some_iff.mp H
  obtain ⟨⟨t108, t109⟩, A50, H⟩ := H
  replace H : ((spec_SumOfWords.f k t102 t105 t106).bind fun bt110 => ((impl_DistanceOf.f k t102 t105 t106).bind fun bt112 => ((spec_DistanceOf.f k t102 t105 t106).bind fun bt114 => ((impl_OppositeWord.f t102 t106).bind fun bt116 => ((spec_OppositeWord.f k t102 t106).bind fun bt118 => ((impl_WeightOf.f k t102 t106).bind fun bt120 => ((spec_WeightOf.f k t102 t106).bind fun bt122 => ((impl_DigitsOf.f t102 t106).bind fun bt124 => ((spec_DigitsOf.f k t102 t106).bind fun bt128 => (if t109 = bt110.2 then (if t108 = bt110.1 then (if bt112.2 = bt114.2 then (if bt112.1 = bt114.1 then (if bt116.2 = bt118.2 then (if bt116.1 = bt118.1 then (if bt120.2 = bt122.2 then (if bt120.1 = bt122.1 then (if bt124.2 = bt128.2 then ((laws_likeInts.f k bt124.1 bt128.1).bind fun t132 => (if t132 = true then ((impl_IsSpace.f k t102).bind fun t133 => ((spec_IsSpace.f k t102).bind fun t134 => (laws_FnWords.j0 k l0 t105 t106 t108 t109 bt112.1 bt116.1 bt120.1 bt124.1 (t133 != t134) t102))) else (laws_FnWords.j0 k l0 t105 t106 t108 t109 bt112.1 bt116.1 bt120.1 bt124.1 true t102))) else (laws_FnWords.j0 k l0 t105 t106 t108 t109 bt112.1 bt116.1 bt120.1 bt124.1 true t102)) else (laws_FnWords.j0 k l0 t105 t106 t108 t109 bt112.1 bt116.1 bt120.1 bt124.1 true t102)) else (laws_FnWords.j0 k l0 t105 t106 t108 t109 bt112.1 bt116.1 bt120.1 bt124.1 true t102)) else (laws_FnWords.j0 k l0 t105 t106 t108 t109 bt112.1 bt116.1 bt120.1 bt124.1 true t102)) else (laws_FnWords.j0 k l0 t105 t106 t108 t109 bt112.1 bt116.1 bt120.1 bt124.1 true t102)) else (laws_FnWords.j0 k l0 t105 t106 t108 t109 bt112.1 bt116.1 bt120.1 bt124.1 true t102)) else (laws_FnWords.j0 k l0 t105 t106 t108 t109 bt112.1 bt116.1 bt120.1 bt124.1 true t102)) else (laws_FnWords.j0 k l0 t105 t106 t108 t109 bt112.1 bt116.1 bt120.1 bt124.1 true t102)) else (laws_FnWords.j0 k l0 t105 t106 t108 t109 bt112.1 bt116.1 bt120.1 bt124.1 true t102))))))))))) = some r := H
  have A5 := Aside0.mk A50
  clear A50
  replace H := Option.bind_eq_some_iff.mp H
  obtain ⟨⟨t110, t111⟩, A60, H⟩ := H
  replace H : ((impl_DistanceOf.f k t102 t105 t106).bind fun bt112 => ((spec_DistanceOf.f k t102 t105 t106).bind fun bt114 => ((impl_OppositeWord.f t102 t106).bind fun bt116 => ((spec_OppositeWord.f k t102 t106).bind fun bt118 => ((impl_WeightOf.f k t102 t106).bind fun bt120 => ((spec_WeightOf.f k t102 t106).bind fun bt122 => ((impl_DigitsOf.f t102 t106).bind fun bt124 => ((spec_DigitsOf.f k t102 t106).bind fun bt128 => (if t109 = t111 then (if t108 = t110 then (if bt112.2 = bt114.2 then (if bt112.1 = bt114.1 then (if bt116.2 = bt118.2 then (if bt116.1 = bt118.1 then (if bt120.2 = bt122.2 then (if bt120.1 = bt122.1 then (if bt124.2 = bt128.2 then ((laws_likeInts.f k bt124.1 bt128.1).bind fun t132 => (if t132 = true then ((impl_IsSpace.f k t102).bind fun t133 => ((spec_IsSpace.f k t102).bind fun t134 => (laws_FnWords.j0 k l0 t105 t106 t108 t109 bt112.1 bt116.1 bt120.1 bt124.1 (t133 != t134) t102))) else (laws_FnWords.j0 k l0 t105 t106 t108 t109 bt112.1 bt116.1 bt120.1 bt124.1 true t102))) else (laws_FnWords.j0 k l0 t105 t106 t108 t109 bt112.1 bt116.1 bt120.1 bt124.1 true t102)) else (laws_FnWords.j0 k l0 t105 t106 t108 t109 bt112.1 bt116.1 bt120.1 bt124.1 true t102)) else (laws_FnWords.j0 k l0 t105 t106 t108 t109 bt112.1 bt116.1 bt120.1 bt124.1 true t102)) else (laws_FnWords.j0 k l0 t105 t106 t108 t109 bt112.1 bt116.1 bt120.1 bt124.1 true t102)) else (laws_FnWords.j0 k l0 t105 t106 t108 t109 bt112.1 bt116.1 bt120.1 bt124.1 true t102)) else (laws_FnWords.j0 k l0 t105 t106 t108 t109 bt112.1 bt116.1 bt120.1 bt124.1 true t102)) else (laws_FnWords.j0 k l0 t105 t106 t108 t109 bt112.1 bt116.1 bt120.1 bt124.1 true t102)) else (laws_FnWords.j0 k l0 t105 t106 t108 t109 bt112.1 bt116.1 bt120.1 bt124.1 true t102)) else (laws_FnWords.j0 k l0 t105 t106 t108 t109 bt112.1 bt116.1 bt120.1 bt124.1 true t102)))))))))) = some r := H
  have A6 := Aside0.mk A60
  clear A60
  replace H := Option.bind_eq_some_iff.mp H
  obtain ⟨⟨t112, t113⟩, A70, H⟩ := H
  replace H : ((spec_DistanceOf.f k t102 t105 t106).bind fun bt114 => ((impl_OppositeWord.f t102 t106).bind fun bt116 => ((spec_OppositeWord.f k t102 t106).bind fun bt118 => ((impl_WeightOf.f k t102 t106).bind fun bt120 => ((spec_WeightOf.f k t102 t106).bind fun bt122 => ((impl_DigitsOf.f t102 t106).bind fun bt124 => ((spec_DigitsOf.f k t102 t106).bind fun bt128 => (if t109 = t111 then (if t108 = t110 then (if t113 = bt114.2 then (if t112 = bt114.1 then (if bt116.2 = bt118.2 then (if bt116.1 = bt118.1 then (if bt120.2 = bt122.2 then (if bt120.1 = bt122.1 then (if bt124.2 = bt128.2 then ((laws_likeInts.f k bt124.1 bt128.1).bind fun t132 => (if t132 = true then ((impl_IsSpace.f k t102).bind fun t133 => ((spec_IsSpace.f k t102).bind fun t134 => (laws_FnWords.j0 k l0 t105 t106 t108 t109 t112 bt116.1 bt120.1 bt124.1 (t133 != t134) t102))) else (laws_FnWords.j0 k l0 t105 t106 t108 t109 t112 bt116.1 bt120.1 bt124.1 true t102))) else (laws_FnWords.j0 k l0 t105 t106 t108 t109 t112 bt116.1 bt120.1 bt124.1 true t102)) else (laws_FnWords.j0 k l0 t105 t106 t108 t109 t112 bt116.1 bt120.1 bt124.1 true t102)) else (laws_FnWords.j0 k l0 t105 t106 t108 t109 t112 bt116.1 bt120.1 bt124.1 true t102)) else (laws_FnWords.j0 k l0 t105 t106 t108 t109 t112 bt116.1 bt120.1 bt124.1 true t102)) else (laws_FnWords.j0 k l0 t105 t106 t108 t109 t112 bt116.1 bt120.1 bt124.1 true t102)) else (laws_FnWords.j0 k l0 t105 t106 t108 t109 t112 bt116.1 bt120.1 bt124.1 true t102)) else (laws_FnWords.j0 k l0 t105 t106 t108 t109 t112 bt116.1 bt120.1 bt124.1 true t102)) else (laws_FnWords.j0 k l0 t105 t106 t108 t109 t112 bt116.1 bt120.1 bt124.1 true t102)) else (laws_FnWords.j0 k l0 t105 t106 t108 t109 t112 bt116.1 bt120.1 bt124.1 true t102))))))))) = some r := H
  have A7 := Aside0.mk A70
  clear A70
  replace H := Option.bind_eq_some_iff.mp H
  obtain ⟨⟨t114, t115⟩, A80, H⟩ := H
  replace H : ((impl_OppositeWord.f t102 t106).bind fun bt116 => ((spec_OppositeWord.f k t102 t106).bind fun bt118 => ((impl_WeightOf.f k t102 t106).bind fun bt120 => ((spec_WeightOf.f k t102 t106).bind fun bt122 => ((impl_DigitsOf.f t102 t106).bind fun bt124 => ((spec_DigitsOf.f k t102 t106).bind fun bt128 => (if t109 = t111 then (if t108 = t110 then (if t113 = t115 then (if t112 = t114 then (if bt116.2 = bt118.2 then (if bt116.1 = bt118.1 then (if bt120.2 = bt122.2 then (if bt120.1 = bt122.1 then (if bt124.2 = bt128.2 then ((laws_likeInts.f k bt124.1 bt128.1).bind fun t132 => (if t132 = true then ((impl_IsSpace.f k t102).bind fun t133 => ((spec_IsSpace.f k t102).bind fun t134 => (laws_FnWords.j0 k l0 t105 t106 t108 t109 t112 bt116.1 bt120.1 bt124.1 (t133 != t134) t102))) else (laws_FnWords.j0 k l0 t105 t106 t108 t109 t112 bt116.1 bt120.1 bt124.1 true t102))) else (laws_FnWords.j0 k l0 t105 t106 t108 t109 t112 bt116.1 bt120.1 bt124.1 true t102)) else (laws_FnWords.j0 k l0 t105 t106 t108 t109 t112 bt116.1 bt120.1 bt124.1 true t102)) else (laws_FnWords.j0 k l0 t105 t106 t108 t109 t112 bt116.1 bt120.1 bt124.1 true t102)) else (laws_FnWords.j0 k l0 t105 t106 t108 t109 t112 bt116.1 bt120.1 bt124.1 true t102)) else (laws_FnWords.j0 k l0 t105 t106 t108 t109 t112 bt116.1 bt120.1 bt124.1 true t102)) else (laws_FnWords.j0 k l0 t105 t106 t108 t109 t112 bt116.1 bt120.1 bt124.1 true t102)) else (laws_FnWords.j0 k l0 t105 t106 t108 t109 t112 bt116.1 bt120.1 bt124.1 true t102)) else (laws_FnWords.j0 k l0 t105 t106 t108 t109 t112 bt116.1 bt120.1 bt124.1 true t102)) else (laws_FnWords.j0 k l0 t105 t106 t108 t109 t112 bt116.1 bt120.1 bt124.1 true t102)))))))) = some r := H
  have A8 := Aside0.mk A80
  clear A80
  replace H := Option.bind_eq_some_iff.mp H
  obtain ⟨⟨t116, t117⟩, A90, H⟩ := H
  replace H : ((spec_OppositeWord.f k t102 t106).bind fun bt118 => ((impl_WeightOf.f k t102 t106).bind fun bt120 => ((spec_WeightOf.f k t102 t106).bind fun bt122 => ((impl_DigitsOf.f t102 t106).bind fun bt124 => ((spec_DigitsOf.f k t102 t106).bind fun bt128 => (if t109 = t111 then (if t108 = t110 then (if t113 = t115 then (if t112 = t114 then (if t117 = bt118.2 then (if t116 = bt118.1 then (if bt120.2 = bt122.2 then (if bt120.1 = bt122.1 then (if bt124.2 = bt128.2 then ((laws_likeInts.f k bt124.1 bt128.1).bind fun t132 => (if t132 = true then ((impl_IsSpace.f k t102).bind fun t133 => ((spec_IsSpace.f k t102).bind fun t134 => (laws_FnWords.j0 k l0 t105 t106 t108 t109 t112 t116 bt120.1 bt124.1 (t133 != t134) t102))) else (laws_FnWords.j0 k l0 t105 t106 t108 t109 t112 t116 bt120.1 bt124.1 true t102))) else (laws_FnWords.j0 k l0 t105 t106 t108 t109 t112 t116 bt120.1 bt124.1 true t102)) else (laws_FnWords.j0 k l0 t105 t106 t108 t109 t112 t116 bt120.1 bt124.1 true t102)) else (laws_FnWords.j0 k l0 t105 t106 t108 t109 t112 t116 bt120.1 bt124.1 true t102)) else (laws_FnWords.j0 k l0 t105 t106 t108 t109 t112 t116 bt120.1 bt124.1 true t102)) else (laws_FnWords.j0 k l0 t105 t106 t108 t109 t112 t116 bt120.1 bt124.1 true t102)) else (laws_FnWords.j0 k l0 t105 t106 t108 t109 t112 t116 bt120.1 bt124.1 true t102)) else (laws_FnWords.j0 k l0 t105 t106 t108 t109 t112 t116 bt120.1 bt124.1 true t102)) else (laws_FnWords.j0 k l0 t105 t106 t108 t109 t112 t116 bt120.1 bt124.1 true t102)) else (laws_FnWords.j0 k l0 t105 t106 t108 t109 t112 t116 bt120.1 bt124.1 true t102))))))) = some r := H
  have A9 := Aside0.mk A90
  clear A90
  replace H := Option.bind_eq_some_iff.mp H
  obtain ⟨⟨t118, t119⟩, A100, H⟩ := H
  replace H : ((impl_WeightOf.f k t102 t106).bind fun bt120 => ((spec_WeightOf.f k t102 t106).bind fun bt122 => ((impl_DigitsOf.f t102 t106).bind fun bt124 => ((spec_DigitsOf.f k t102 t106).bind fun bt128 => (if t109 = t111 then (if t108 = t110 then (if t113 = t115 then (if t112 = t114 then (if t117 = t119 then (if t116 = t118 then (if bt120.2 = bt122.2 then (if bt120.1 = bt122.1 then (if bt124.2 = bt128.2 then ((laws_likeInts.f k bt124.1 bt128.1).bind fun t132 => (if t132 = true then ((impl_IsSpace.f k t102).bind fun t133 => ((spec_IsSpace.f k t102).bind fun t134 => (laws_FnWords.j0 k l0 t105 t106 t108 t109 t112 t116 bt120.1 bt124.1 (t133 != t134) t102))) else (laws_FnWords.j0 k l0 t105 t106 t108 t109 t112 t116 bt120.1 bt124.1 true t102))) else (laws_FnWords.j0 k l0 t105 t106 t108 t109 t112 t116 bt120.1 bt124.1 true t102)) else (laws_FnWords.j0 k l0 t105 t106 t108 t109 t112 t116 bt120.1 bt124.1 true t102)) else (laws_FnWords.j0 k l0 t105 t106 t108 t109 t112 t116 bt120.1 bt124.1 true t102)) else (laws_FnWords.j0 k l0 t105 t106 t108 t109 t112 t116 bt120.1 bt124.1 true t102)) else (laws_FnWords.j0 k l0 t105 t106 t108 t109 t112 t116 bt120.1 bt124.1 true t102)) else (laws_FnWords.j0 k l0 t105 t106 t108 t109 t112 t116 bt120.1 bt124.1 true t102)) else (laws_FnWords.j0 k l0 t105 t106 t108 t109 t112 t116 bt120.1 bt124.1 true t102)) else (laws_FnWords.j0 k l0 t105 t106 t108 t109 t112 t116 bt120.1 bt124.1 true t102)) else (laws_FnWords.j0 k l0 t105 t106 t108 t109 t112 t116 bt120.1 bt124.1 true t102)))))) = some r := H
  have A10 := Aside0.mk A100
  clear A100
  replace H := Option.bind_eq_some_iff.mp H
  obtain ⟨⟨t120, t121⟩, A110, H⟩ := H
  replace H : ((spec_WeightOf.f k t102 t106).bind fun bt122 => ((impl_DigitsOf.f t102 t106).bind fun bt124 => ((spec_DigitsOf.f k t102 t106).bind fun bt128 => (if t109 = t111 then (if t108 = t110 then (if t113 = t115 then (if t112 = t114 then (if t117 = t119 then (if t116 = t118 then (if t121 = bt122.2 then (if t120 = bt122.1 then (if bt124.2 = bt128.2 then ((laws_likeInts.f k bt124.1 bt128.1).bind fun t132 => (if t132 = true then ((impl_IsSpace.f k t102).bind fun t133 => ((spec_IsSpace.f k t102).bind fun t134 => (laws_FnWords.j0 k l0 t105 t106 t108 t109 t112 t116 t120 bt124.1 (t133 != t134) t102))) else (laws_FnWords.j0 k l0 t105 t106 t108 t109 t112 t116 t120 bt124.1 true t102))) else (laws_FnWords.j0 k l0 t105 t106 t108 t109 t112 t116 t120 bt124.1 true t102)) else (laws_FnWords.j0 k l0 t105 t106 t108 t109 t112 t116 t120 bt124.1 true t102)) else (laws_FnWords.j0 k l0 t105 t106 t108 t109 t112 t116 t120 bt124.1 true t102)) else (laws_FnWords.j0 k l0 t105 t106 t108 t109 t112 t116 t120 bt124.1 true t102)) else (laws_FnWords.j0 k l0 t105 t106 t108 t109 t112 t116 t120 bt124.1 true t102)) else (laws_FnWords.j0 k l0 t105 t106 t108 t109 t112 t116 t120 bt124.1 true t102)) else (laws_FnWords.j0 k l0 t105 t106 t108 t109 t112 t116 t120 bt124.1 true t102)) else (laws_FnWords.j0 k l0 t105 t106 t108 t109 t112 t116 t120 bt124.1 true t102)) else (laws_FnWords.j0 k l0 t105 t106 t108 t109 t112 t116 t120 bt124.1 true t102))))) = some r := H
  have A11 := Aside0.mk A110
  clear A110
  replace H := Option.bind_eq_some_iff.mp H
  obtain ⟨⟨t122, t123⟩, A120, H⟩ := H
  replace H : ((impl_DigitsOf.f t102 t106).bind fun bt124 => ((spec_DigitsOf.f k t102 t106).bind fun bt128 => (if t109 = t111 then (if t108 = t110 then (if t113 = t115 then (if t112 = t114 then (if t117 = t119 then (if t116 = t118 then (if t121 = t123 then (if t120 = t122 then (if bt124.2 = bt128.2 then ((laws_likeInts.f k bt124.1 bt128.1).bind fun t132 => (if t132 = true then ((impl_IsSpace.f k t102).bind fun t133 => ((spec_IsSpace.f k t102).bind fun t134 => (laws_FnWords.j0 k l0 t105 t106 t108 t109 t112 t116 t120 bt124.1 (t133 != t134) t102))) else (laws_FnWords.j0 k l0 t105 t106 t108 t109 t112 t116 t120 bt124.1 true t102))) else (laws_FnWords.j0 k l0 t105 t106 t108 t109 t112 t116 t120 bt124.1 true t102)) else (laws_FnWords.j0 k l0 t105 t106 t108 t109 t112 t116 t120 bt124.1 true t102)) else (laws_FnWords.j0 k l0 t105 t106 t108 t109 t112 t116 t120 bt124.1 true t102)) else (laws_FnWords.j0 k l0 t105 t106 t108 t109 t112 t116 t120 bt124.1 true t102)) else (laws_FnWords.j0 k l0 t105 t106 t108 t109 t112 t116 t120 bt124.1 true t102)) else (laws_FnWords.j0 k l0 t105 t106 t108 t109 t112 t116 t120 bt124.1 true t102)) else (laws_FnWords.j0 k l0 t105 t106 t108 t109 t112 t116 t120 bt124.1 true t102)) else (laws_FnWords.j0 k l0 t105 t106 t108 t109 t112 t116 t120 bt124.1 true t102)) else (laws_FnWords.j0 k l0 t105 t106 t108 t109 t112 t116 t120 bt124.1 true t102)))) = some r := H
  have A12 := Aside0.mk A120
  clear A120
  replace H := Option.bind_eq_some_iff.mp H
  obtain ⟨⟨t124, t127⟩, A130, H⟩ := H
  replace H : ((spec_DigitsOf.f k t102 t106).bind fun bt128 => (if t109 = t111 then (if t108 = t110 then (if t113 = t115 then (if t112 = t114 then (if t117 = t119 then (if t116 = t118 then (if t121 = t123 then (if t120 = t122 then (if t127 = bt128.2 then ((laws_likeInts.f k t124 bt128.1).bind fun t132 => (if t132 = true then ((impl_IsSpace.f k t102).bind fun t133 => ((spec_IsSpace.f k t102).bind fun t134 => (laws_FnWords.j0 k l0 t105 t106 t108 t109 t112 t116 t120 t124 (t133 != t134) t102))) else (laws_FnWords.j0 k l0 t105 t106 t108 t109 t112 t116 t120 t124 true t102))) else (laws_FnWords.j0 k l0 t105 t106 t108 t109 t112 t116 t120 t124 true t102)) else (laws_FnWords.j0 k l0 t105 t106 t108 t109 t112 t116 t120 t124 true t102)) else (laws_FnWords.j0 k l0 t105 t106 t108 t109 t112 t116 t120 t124 true t102)) else (laws_FnWords.j0 k l0 t105 t106 t108 t109 t112 t116 t120 t124 true t102)) else (laws_FnWords.j0 k l0 t105 t106 t108 t109 t112 t116 t120 t124 true t102)) else (laws_FnWords.j0 k l0 t105 t106 t108 t109 t112 t116 t120 t124 true t102)) else (laws_FnWords.j0 k l0 t105 t106 t108 t109 t112 t116 t120 t124 true t102)) else (laws_FnWords.j0 k l0 t105 t106 t108 t109 t112 t116 t120 t124 true t102)) else (laws_FnWords.j0 k l0 t105 t106 t108 t109 t112 t116 t120 t124 true t102))) = some r := H
  have A13 := Aside0.mk A130
  clear A130
  replace H := Option.bind_eq_some_iff.mp H
  obtain ⟨⟨t128, t131⟩, A140, H⟩ := H
  replace H : (if t109 = t111 then (if t108 = t110 then (if t113 = t115 then (if t112 = t114 then (if t117 = t119 then (if t116 = t118 then (if t121 = t123 then (if t120 = t122 then (if t127 = t131 then ((laws_likeInts.f k t124 t128).bind fun t132 => (if t132 = true then ((impl_IsSpace.f k t102).bind fun t133 => ((spec_IsSpace.f k t102).bind fun t134 => (laws_FnWords.j0 k l0 t105 t106 t108 t109 t112 t116 t120 t124 (t133 != t134) t102))) else (laws_FnWords.j0 k l0 t105 t106 t108 t109 t112 t116 t120 t124 true t102))) else (laws_FnWords.j0 k l0 t105 t106 t108 t109 t112 t116 t120 t124 true t102)) else (laws_FnWords.j0 k l0 t105 t106 t108 t109 t112 t116 t120 t124 true t102)) else (laws_FnWords.j0 k l0 t105 t106 t108 t109 t112 t116 t120 t124 true t102)) else (laws_FnWords.j0 k l0 t105 t106 t108 t109 t112 t116 t120 t124 true t102)) else (laws_FnWords.j0 k l0 t105 t106 t108 t109 t112 t116 t120 t124 true t102)) else (laws_FnWords.j0 k l0 t105 t106 t108 t109 t112 t116 t120 t124 true t102)) else (laws_FnWords.j0 k l0 t105 t106 t108 t109 t112 t116 t120 t124 true t102)) else (laws_FnWords.j0 k l0 t105 t106 t108 t109 t112 t116 t120 t124 true t102)) else (laws_FnWords.j0 k l0 t105 t106 t108 t109 t112 t116 t120 t124 true t102)) = some r := H
  have A14 := Aside0.mk A140
  clear A140
  have HC15 := Aside0.mk H
  clear H
  go_enter Try.func3, Try.ntmps3
  go_upto_region 14 with (first | ((with_reducible refine gate_callee (f := 6) rfl ?_); refine goesL_ (some 71) rfl rfl Try.func6 (by kernel_rfl) rfl #[.slice A0 l0.length c0] rfl (by (try simp only [List.map_toArray, List.map_cons, List.map_nil]); first | done | rfl | (simp only [List.length_drop, List.length_take]; rfl)) ?_; (with_reducible refine (laws_big.calls _ _ l0 false _ ?side1 ?side2 A2.out).mono ?_); (case side1 => repeat (first | exact HR0.out | (with_reducible refine Kd.C_alloc ?_ _) | (with_reducible refine Kd.C_drewN ?_ _) | (with_reducible refine Kd.C_drew ?_))); (case side2 => exact HC0.out); rintro e w' ⟨rfl, ⟨nd, rfl⟩⟩; refine ⟨_, rfl, ?_⟩) | ((with_reducible refine gate_callee (f := 7) rfl ?_); refine goesL_ (some 74) rfl rfl Try.func7 (by kernel_rfl) rfl #[.slice A0 l0.length c0] rfl (by (try simp only [List.map_toArray, List.map_cons, List.map_nil]); first | done | rfl | (simp only [List.length_drop, List.length_take]; rfl)) ?_; (with_reducible refine (spec_DrawSumOfWords.calls k _ _ l0 t102 t105 t106 _ ?side1 ?side2 A4.out).mono ?_); (case side1 => repeat (first | exact HR0.out | (with_reducible refine Kd.C_alloc ?_ _) | (with_reducible refine Kd.C_drewN ?_ _) | (with_reducible refine Kd.C_drew ?_))); (case side2 => exact HC0.out); rintro e w16 ⟨v103, rfl, ho0, hb⟩; refine ⟨_, rfl, ?_⟩; have n0_ := Aside0.mk (Kd.R_lower ho0 (below_size (gb_ HB.out))); have n1_ := Aside0.mk (below_step (gb_ HB.out) hb); clear HB; have HO104 := n0_; have HB := n1_; clear n0_ n1_; (try clear hb); (try clear hb2); (try clear hk); (try clear hi); (try clear ho0)) | ((with_reducible refine gate_dst (N := 3) rfl ?_); refine box_event ?hg (N := 3) ?hd (cs := #[.slice none 0 0]) (t := 26) ?hr ?_; (case hd => rfl); (case hg => rfl); (case hr => first | (go_simp; done) | (go_simp; rfl)); intro gb107 hg w17 hbox hb; have n0_ := Aside0.mk (Kd.R_below (rb_ HO104.out) hb); have n1_ := Aside0.mk (below_step (gb_ HB.out) hb); have n2_ := Aside0.mk (hbox); have n3_ := Aside0.mk ((by rw [hg]; exact (below_size (gb_ HB.out)) : w.heap.size ≤ gb107)); have n4_ := Aside0.mk ((by rw [hg]; exact (below_size (gb_ HB.out)) : w.heap.size ≤ gb107)); clear HO104 HB; have HO104 := n0_; have HB := n1_; have BK107 := n2_; have GW107 := n3_; have GE107 := n4_; clear n0_ n1_ n2_ n3_ n4_ hb hbox hg; obtain ⟨Ao18, co18, eo18⟩ := Kd.R_slice HO104.out; subst eo18; have hcz19_0 : w17.cell? ⟨gb107, 0, none⟩ = some (.slice none 0 0) := (blk_cell BK107.out 0).trans rfl; have hfz19_0 := blk_frozen BK107.out 0) | ((with_reducible refine gate_callee (f := 8) rfl ?_); refine goesL_ (some 82) rfl rfl Try.func8 (by kernel_rfl) rfl #[.agg #[.slice Ao18 t102.length co18], .int .i64 t105, .int .i64 t106] rfl (by (try simp only [List.map_toArray, List.map_cons, List.map_nil]); first | done | rfl | (simp only [List.length_drop, List.length_take]; rfl)) ?_; (with_reducible refine (impl_SumOfWords.calls k _ _ t102 t105 t106 t108 t109 _ ?side1 ?side2 A5.out).mono ?_); (case side1 => refine (Kd.R_reads' (e := 2) (base := w.heap.size) (ok := fun _ => True) (n := t102.length) (c := co18) ?_).2.2; exact (rb_ (Kd.R_mono (Kd.R_far (p := ⟨gb107, 0, none⟩) (Kd.R_types HO104.out BK107.out (by decide)) (fun _ hk => hk.2) (.slice Ao18 t102.length co18)) (fun _ _ => trivial)))); (case side2 => exact (Kd.R_reads' HO104.out).2.1); rintro e w20 ⟨rfl, hb⟩; refine ⟨_, rfl, ?_⟩; have n0_ := Aside0.mk (Kd.R_below (rb_ (Kd.R_mono (Kd.R_far (p := ⟨gb107, 0, none⟩) (Kd.R_types HO104.out BK107.out (by decide)) (fun _ hk => hk.2) (.slice Ao18 t102.length co18)) (fun _ h_ => h_.1))) hb); have n1_ := Aside0.mk (blk_below (g := gb107) (o := .cells #[.slice Ao18 t102.length co18] 26 (0, 0)) (by (with_reducible repeat (first | refine blk_drewN ?_ _ | refine blk_drew ?_ | refine blk_alloc ?_ _)); refine blk_put (cs := #[.slice none 0 0]) ?_ 0 _ rfl; (with_reducible repeat (first | refine blk_drewN ?_ _ | refine blk_drew ?_ | refine blk_alloc ?_ _)); exact BK107.out) hb); have n2_ := Aside0.mk (below_step (gb_ HB.out) hb); clear HO104 BK107 HB; have HO104 := n0_; have BK107 := n1_; have HB := n2_; clear n0_ n1_ n2_; (try clear hb); (try clear hb2); (try clear hk); (try clear hi); have hcz21_0 : w20.cell? ⟨gb107, 0, none⟩ = some (.slice Ao18 t102.length co18) := (blk_cell BK107.out 0).trans rfl; have hfz21_0 := blk_frozen BK107.out 0) | ((with_reducible refine gate_callee (f := 9) rfl ?_); refine goesL_ (some 89) rfl rfl Try.func9 (by kernel_rfl) rfl #[.agg #[.slice Ao18 t102.length co18], .int .i64 t105, .int .i64 t106] rfl (by (try simp only [List.map_toArray, List.map_cons, List.map_nil]); first | done | rfl | (simp only [List.length_drop, List.length_take]; rfl)) ?_; (with_reducible refine (spec_SumOfWords.calls k _ _ t102 t105 t106 t110 t111 _ ?side1 ?side2 A6.out).mono ?_); (case side1 => repeat (first | exact (Kd.R_reads' HO104.out).2.2 | (with_reducible refine Kd.C_alloc ?_ _) | (with_reducible refine Kd.C_drewN ?_ _) | (with_reducible refine Kd.C_drew ?_))); (case side2 => exact (Kd.R_reads' HO104.out).2.1); rintro e w22 ⟨rfl, hb⟩; refine ⟨_, rfl, ?_⟩; have n0_ := Aside0.mk (Kd.R_below (rb_ HO104.out) hb); have n1_ := Aside0.mk (blk_below (g := gb107) (o := .cells #[.slice Ao18 t102.length co18] 26 (0, 0)) (bb_ BK107.out) hb); have n2_ := Aside0.mk (below_step (gb_ HB.out) hb); clear HO104 BK107 HB; have HO104 := n0_; have BK107 := n1_; have HB := n2_; clear n0_ n1_ n2_; (try clear hb); (try clear hb2); (try clear hk); (try clear hi); have hcz23_0 : w22.cell? ⟨gb107, 0, none⟩ = some (.slice Ao18 t102.length co18) := (blk_cell BK107.out 0).trans rfl; have hfz23_0 := blk_frozen BK107.out 0) | ((with_reducible refine gate_callee (f := 10) rfl ?_); refine goesL_ (some 96) rfl rfl Try.func10 (by kernel_rfl) rfl #[.agg #[.slice Ao18 t102.length co18], .int .i64 t105, .int .i64 t106] rfl (by (try simp only [List.map_toArray, List.map_cons, List.map_nil]); first | done | rfl | (simp only [List.length_drop, List.length_take]; rfl)) ?_; (with_reducible refine (impl_DistanceOf.calls k _ _ t102 t105 t106 t112 t113 _ ?side1 ?side2 A7.out).mono ?_); (case side1 => repeat (first | exact (Kd.R_reads' HO104.out).2.2 | (with_reducible refine Kd.C_alloc ?_ _) | (with_reducible refine Kd.C_drewN ?_ _) | (with_reducible refine Kd.C_drew ?_))); (case side2 => exact (Kd.R_reads' HO104.out).2.1); rintro e w24 ⟨rfl, hb⟩; refine ⟨_, rfl, ?_⟩; have n0_ := Aside0.mk (Kd.R_below (rb_ HO104.out) hb); have n1_ := Aside0.mk (blk_below (g := gb107) (o := .cells #[.slice Ao18 t102.length co18] 26 (0, 0)) (bb_ BK107.out) hb); have n2_ := Aside0.mk (below_step (gb_ HB.out) hb); clear HO104 BK107 HB; have HO104 := n0_; have BK107 := n1_; have HB := n2_; clear n0_ n1_ n2_; (try clear hb); (try clear hb2); (try clear hk); (try clear hi); have hcz25_0 : w24.cell? ⟨gb107, 0, none⟩ = some (.slice Ao18 t102.length co18) := (blk_cell BK107.out 0).trans rfl; have hfz25_0 := blk_frozen BK107.out 0) | ((with_reducible refine gate_callee (f := 11) rfl ?_); refine goesL_ (some 103) rfl rfl Try.func11 (by kernel_rfl) rfl #[.agg #[.slice Ao18 t102.length co18], .int .i64 t105, .int .i64 t106] rfl (by (try simp only [List.map_toArray, List.map_cons, List.map_nil]); first | done | rfl | (simp only [List.length_drop, List.length_take]; rfl)) ?_; (with_reducible refine (spec_DistanceOf.calls k _ _ t102 t105 t106 t114 t115 _ ?side1 ?side2 A8.out).mono ?_); (case side1 => repeat (first | exact (Kd.R_reads' HO104.out).2.2 | (with_reducible refine Kd.C_alloc ?_ _) | (with_reducible refine Kd.C_drewN ?_ _) | (with_reducible refine Kd.C_drew ?_))); (case side2 => exact (Kd.R_reads' HO104.out).2.1); rintro e w26 ⟨rfl, hb⟩; refine ⟨_, rfl, ?_⟩; have n0_ := Aside0.mk (Kd.R_below (rb_ HO104.out) hb); have n1_ := Aside0.mk (blk_below (g := gb107) (o := .cells #[.slice Ao18 t102.length co18] 26 (0, 0)) (bb_ BK107.out) hb); have n2_ := Aside0.mk (below_step (gb_ HB.out) hb); clear HO104 BK107 HB; have HO104 := n0_; have BK107 := n1_; have HB := n2_; clear n0_ n1_ n2_; (try clear hb); (try clear hb2); (try clear hk); (try clear hi); have hcz27_0 : w26.cell? ⟨gb107, 0, none⟩ = some (.slice Ao18 t102.length co18) := (blk_cell BK107.out 0).trans rfl; have hfz27_0 := blk_frozen BK107.out 0) | ((with_reducible refine gate_callee (f := 12) rfl ?_); refine goesL_ (some 109) rfl rfl Try.func12 (by kernel_rfl) rfl #[.agg #[.slice Ao18 t102.length co18], .int .i64 t106] rfl (by (try simp only [List.map_toArray, List.map_cons, List.map_nil]); first | done | rfl | (simp only [List.length_drop, List.length_take]; rfl)) ?_; (with_reducible refine (impl_OppositeWord.calls _ _ t102 t106 t116 t117 _ ?side1 ?side2 A9.out).mono ?_); (case side1 => repeat (first | exact (Kd.R_reads' HO104.out).2.2 | (with_reducible refine Kd.C_alloc ?_ _) | (with_reducible refine Kd.C_drewN ?_ _) | (with_reducible refine Kd.C_drew ?_))); (case side2 => exact (Kd.R_reads' HO104.out).2.1); rintro e w28 ⟨rfl, hb⟩; refine ⟨_, rfl, ?_⟩; have n0_ := Aside0.mk (Kd.R_below (rb_ HO104.out) hb); have n1_ := Aside0.mk (blk_below (g := gb107) (o := .cells #[.slice Ao18 t102.length co18] 26 (0, 0)) (bb_ BK107.out) hb); have n2_ := Aside0.mk (below_step (gb_ HB.out) hb); clear HO104 BK107 HB; have HO104 := n0_; have BK107 := n1_; have HB := n2_; clear n0_ n1_ n2_; (try clear hb); (try clear hb2); (try clear hk); (try clear hi); have hcz29_0 : w28.cell? ⟨gb107, 0, none⟩ = some (.slice Ao18 t102.length co18) := (blk_cell BK107.out 0).trans rfl; have hfz29_0 := blk_frozen BK107.out 0) | ((with_reducible refine gate_callee (f := 13) rfl ?_); refine goesL_ (some 115) rfl rfl Try.func13 (by kernel_rfl) rfl #[.agg #[.slice Ao18 t102.length co18], .int .i64 t106] rfl (by (try simp only [List.map_toArray, List.map_cons, List.map_nil]); first | done | rfl | (simp only [List.length_drop, List.length_take]; rfl)) ?_; (with_reducible refine (spec_OppositeWord.calls k _ _ t102 t106 t118 t119 _ ?side1 ?side2 A10.out).mono ?_); (case side1 => repeat (first | exact (Kd.R_reads' HO104.out).2.2 | (with_reducible refine Kd.C_alloc ?_ _) | (with_reducible refine Kd.C_drewN ?_ _) | (with_reducible refine Kd.C_drew ?_))); (case side2 => exact (Kd.R_reads' HO104.out).2.1); rintro e w30 ⟨rfl, hb⟩; refine ⟨_, rfl, ?_⟩; have n0_ := Aside0.mk (Kd.R_below (rb_ HO104.out) hb); have n1_ := Aside0.mk (blk_below (g := gb107) (o := .cells #[.slice Ao18 t102.length co18] 26 (0, 0)) (bb_ BK107.out) hb); have n2_ := Aside0.mk (below_step (gb_ HB.out) hb); clear HO104 BK107 HB; have HO104 := n0_; have BK107 := n1_; have HB := n2_; clear n0_ n1_ n2_; (try clear hb); (try clear hb2); (try clear hk); (try clear hi); have hcz31_0 : w30.cell? ⟨gb107, 0, none⟩ = some (.slice Ao18 t102.length co18) := (blk_cell BK107.out 0).trans rfl; have hfz31_0 := blk_frozen BK107.out 0) | ((with_reducible refine gate_callee (f := 14) rfl ?_); refine goesL_ (some 121) rfl rfl Try.func14 (by kernel_rfl) rfl #[.agg #[.slice Ao18 t102.length co18], .int .i64 t106] rfl (by (try simp only [List.map_toArray, List.map_cons, List.map_nil]); first | done | rfl | (simp only [List.length_drop, List.length_take]; rfl)) ?_; (with_reducible refine (impl_WeightOf.calls k _ _ t102 t106 t120 t121 _ ?side1 ?side2 A11.out).mono ?_); (case side1 => repeat (first | exact (Kd.R_reads' HO104.out).2.2 | (with_reducible refine Kd.C_alloc ?_ _) | (with_reducible refine Kd.C_drewN ?_ _) | (with_reducible refine Kd.C_drew ?_))); (case side2 => exact (Kd.R_reads' HO104.out).2.1); rintro e w32 ⟨rfl, hb⟩; refine ⟨_, rfl, ?_⟩; have n0_ := Aside0.mk (Kd.R_below (rb_ HO104.out) hb); have n1_ := Aside0.mk (blk_below (g := gb107) (o := .cells #[.slice Ao18 t102.length co18] 26 (0, 0)) (bb_ BK107.out) hb); have n2_ := Aside0.mk (below_step (gb_ HB.out) hb); clear HO104 BK107 HB; have HO104 := n0_; have BK107 := n1_; have HB := n2_; clear n0_ n1_ n2_; (try clear hb); (try clear hb2); (try clear hk); (try clear hi); have hcz33_0 : w32.cell? ⟨gb107, 0, none⟩ = some (.slice Ao18 t102.length co18) := (blk_cell BK107.out 0).trans rfl; have hfz33_0 := blk_frozen BK107.out 0) | ((with_reducible refine gate_callee (f := 15) rfl ?_); refine goesL_ (some 127) rfl rfl Try.func15 (by kernel_rfl) rfl #[.agg #[.slice Ao18 t102.length co18], .int .i64 t106] rfl (by (try simp only [List.map_toArray, List.map_cons, List.map_nil]); first | done | rfl | (simp only [List.length_drop, List.length_take]; rfl)) ?_; (with_reducible refine (spec_WeightOf.calls k _ _ t102 t106 t122 t123 _ ?side1 ?side2 A12.out).mono ?_); (case side1 => repeat (first | exact (Kd.R_reads' HO104.out).2.2 | (with_reducible refine Kd.C_alloc ?_ _) | (with_reducible refine Kd.C_drewN ?_ _) | (with_reducible refine Kd.C_drew ?_))); (case side2 => exact (Kd.R_reads' HO104.out).2.1); rintro e w34 ⟨rfl, hb⟩; refine ⟨_, rfl, ?_⟩; have n0_ := Aside0.mk (Kd.R_below (rb_ HO104.out) hb); have n1_ := Aside0.mk (blk_below (g := gb107) (o := .cells #[.slice Ao18 t102.length co18] 26 (0, 0)) (bb_ BK107.out) hb); have n2_ := Aside0.mk (below_step (gb_ HB.out) hb); clear HO104 BK107 HB; have HO104 := n0_; have BK107 := n1_; have HB := n2_; clear n0_ n1_ n2_; (try clear hb); (try clear hb2); (try clear hk); (try clear hi); have hcz35_0 : w34.cell? ⟨gb107, 0, none⟩ = some (.slice Ao18 t102.length co18) := (blk_cell BK107.out 0).trans rfl; have hfz35_0 := blk_frozen BK107.out 0) | ((with_reducible refine gate_callee (f := 16) rfl ?_); refine goesL_ (some 133) rfl rfl Try.func16 (by kernel_rfl) rfl #[.agg #[.slice Ao18 t102.length co18], .int .i64 t106] rfl (by (try simp only [List.map_toArray, List.map_cons, List.map_nil]); first | done | rfl | (simp only [List.length_drop, List.length_take]; rfl)) ?_; (with_reducible refine (impl_DigitsOf.calls _ _ t102 t106 t124 t127 _ ?side1 ?side2 A13.out).mono ?_); (case side1 => repeat (first | exact (Kd.R_reads' HO104.out).2.2 | (with_reducible refine Kd.C_alloc ?_ _) | (with_reducible refine Kd.C_drewN ?_ _) | (with_reducible refine Kd.C_drew ?_))); (case side2 => exact (Kd.R_reads' HO104.out).2.1); rintro e w36 ⟨v125, rfl, ho0, hb⟩; refine ⟨_, rfl, ?_⟩; have n0_ := Aside0.mk (Kd.R_elder' (rb_ HO104.out) (Kd.R_base ho0) hb); have n1_ := Aside0.mk (Kd.R_lower (Kd.R_new' ho0 (Kd.R_lt (rb_ HO104.out))) (below_size (gb_ HB.out))); have n2_ := Aside0.mk (blk_below (g := gb107) (o := .cells #[.slice Ao18 t102.length co18] 26 (0, 0)) (bb_ BK107.out) hb); have n3_ := Aside0.mk (below_step (gb_ HB.out) hb); clear HO104 BK107 HB; have HO104 := n0_; have HO126 := n1_; have BK107 := n2_; have HB := n3_; clear n0_ n1_ n2_ n3_; (try clear hb); (try clear hb2); (try clear hk); (try clear hi); (try clear ho0); have hcz37_0 : w36.cell? ⟨gb107, 0, none⟩ = some (.slice Ao18 t102.length co18) := (blk_cell BK107.out 0).trans rfl; have hfz37_0 := blk_frozen BK107.out 0) | ((with_reducible refine gate_callee (f := 17) rfl ?_); refine goesL_ (some 139) rfl rfl Try.func17 (by kernel_rfl) rfl #[.agg #[.slice Ao18 t102.length co18], .int .i64 t106] rfl (by (try simp only [List.map_toArray, List.map_cons, List.map_nil]); first | done | rfl | (simp only [List.length_drop, List.length_take]; rfl)) ?_; (with_reducible refine (spec_DigitsOf.calls k _ _ t102 t106 t128 t131 _ ?side1 ?side2 A14.out).mono ?_); (case side1 => repeat (first | exact (Kd.R_reads' HO104.out).2.2 | (with_reducible refine Kd.C_alloc ?_ _) | (with_reducible refine Kd.C_drewN ?_ _) | (with_reducible refine Kd.C_drew ?_))); (case side2 => exact (Kd.R_reads' HO104.out).2.1); rintro e w38 ⟨v129, rfl, ho0, hb⟩; refine ⟨_, rfl, ?_⟩; have n0_ := Aside0.mk (Kd.R_elder' (rb_ HO104.out) (Kd.R_base ho0) hb); have n1_ := Aside0.mk (Kd.R_elder' (rb_ HO126.out) (Kd.R_base ho0) hb); have n2_ := Aside0.mk (Kd.R_lower (Kd.R_new' (Kd.R_new' ho0 (Kd.R_lt (rb_ HO104.out))) (Kd.R_lt (rb_ HO126.out))) (below_size (gb_ HB.out))); have n3_ := Aside0.mk (blk_below (g := gb107) (o := .cells #[.slice Ao18 t102.length co18] 26 (0, 0)) (bb_ BK107.out) hb); have n4_ := Aside0.mk (below_step (gb_ HB.out) hb); clear HO104 HO126 BK107 HB; have HO104 := n0_; have HO126 := n1_; have HO130 := n2_; have BK107 := n3_; have HB := n4_; clear n0_ n1_ n2_ n3_ n4_; (try clear hb); (try clear hb2); (try clear hk); (try clear hi); (try clear ho0)))
  (try simp only [Act.put, List.setIfInBounds_toArray, List.set_cons_zero, List.set_cons_succ])
  go_cut [197] (fun cs_197 wc => ∃ (kq : Nat) (x197_14 : Bool), cs_197 = .bool x197_14 ∧ Aside0 (laws_FnWords.j0 kq l0 t105 t106 t108 t109 t112 t116 t120 t124 x197_14 t102 = some r) ∧ Aside0 (kq ≤ k) ∧ Aside0 (Kd.R (Kd.int .i64) 2 wc w.heap.size (fun k_ => OB_ k_ (.slice Ao18 t102.length co18)) v125 t124) ∧ Aside0 (Kd.R (Kd.int .i64) 2 wc w.heap.size (fun k_ => OB_ k_ v125) (.slice Ao18 t102.length co18) t102) ∧ Aside0 (wc.heap[gb107]? = some (.cells #[(.slice Ao18 t102.length co18)] 26 (0, 0))) ∧ Aside0 (Below w.heap.size w wc))
  case first => as_aux_lemma =>
   have H := HC15.out
   clear HC15
   by_cases c39 : t109 = t111
   ·rw [if_pos c39] at H
    have c39b0 : (t109 == t111) = true := beq_iff_eq.mpr c39
    have c39b1 : (t109 != t111) = false := bne_eq_false_iff_eq.mpr c39
    clear c39
    (first | rw [c39b0] | (simp only [i64_w, i32_w]; rw [c39b0]) | skip)
    by_cases c40 : t108 = t110
    ·rw [if_pos c40] at H
     have c40b0 : (t108 == t110) = true := beq_iff_eq.mpr c40
     have c40b1 : (t108 != t110) = false := bne_eq_false_iff_eq.mpr c40
     clear c40
     by_cases c41 : t113 = t115
     ·rw [if_pos c41] at H
      have c41b0 : (t113 == t115) = true := beq_iff_eq.mpr c41
      have c41b1 : (t113 != t115) = false := bne_eq_false_iff_eq.mpr c41
      clear c41
      by_cases c42 : t112 = t114
      ·rw [if_pos c42] at H
       have c42b0 : (t112 == t114) = true := beq_iff_eq.mpr c42
       have c42b1 : (t112 != t114) = false := bne_eq_false_iff_eq.mpr c42
       clear c42
       by_cases c43 : t117 = t119
       ·rw [if_pos c43] at H
        have c43b0 : (t117 == t119) = true := beq_iff_eq.mpr c43
        have c43b1 : (t117 != t119) = false := bne_eq_false_iff_eq.mpr c43
        clear c43
        by_cases c44 : t116 = t118
        ·rw [if_pos c44] at H
         have c44b0 : (t116 == t118) = true := beq_iff_eq.mpr c44
         have c44b1 : (t116 != t118) = false := bne_eq_false_iff_eq.mpr c44
         clear c44
         by_cases c45 : t121 = t123
         ·rw [if_pos c45] at H
          have c45b0 : (t121 == t123) = true := beq_iff_eq.mpr c45
          have c45b1 : (t121 != t123) = false := bne_eq_false_iff_eq.mpr c45
          clear c45
          by_cases c46 : t120 = t122
          ·rw [if_pos c46] at H
           have c46b0 : (t120 == t122) = true := beq_iff_eq.mpr c46
           have c46b1 : (t120 != t122) = false := bne_eq_false_iff_eq.mpr c46
           clear c46
           by_cases c47 : t127 = t131
           ·rw [if_pos c47] at H
            have c47b0 : (t127 == t131) = true := beq_iff_eq.mpr c47
            have c47b1 : (t127 != t131) = false := bne_eq_false_iff_eq.mpr c47
            clear c47
            replace H := Option.bind_eq_some_iff.mp H
            obtain ⟨t132, A480, H⟩ := H
            replace H : (if t132 = true then ((impl_IsSpace.f k t102).bind fun t133 => ((spec_IsSpace.f k t102).bind fun t134 => (laws_FnWords.j0 k l0 t105 t106 t108 t109 t112 t116 t120 t124 (t133 != t134) t102))) else (laws_FnWords.j0 k l0 t105 t106 t108 t109 t112 t116 t120 t124 true t102)) = some r := H
            have A48 := Aside0.mk A480
            clear A480
            by_cases c49 : t132 = true
            ·as_aux_lemma =>
             subst c49
             have H1 : ((impl_IsSpace.f k t102).bind fun t133 => ((spec_IsSpace.f k t102).bind fun t134 => (laws_FnWords.j0 k l0 t105 t106 t108 t109 t112 t116 t120 t124 (t133 != t134) t102))) = some r := by rw [if_pos rfl] at H; exact H
             clear H
             have H := H1
             clear H1
             replace H := Option.bind_eq_some_iff.mp H
             obtain ⟨t133, A500, H⟩ := H
             replace H : ((spec_IsSpace.f k t102).bind fun t134 => (laws_FnWords.j0 k l0 t105 t106 t108 t109 t112 t116 t120 t124 (t133 != t134) t102)) = some r := H
             have A50 := Aside0.mk A500
             clear A500
             replace H := Option.bind_eq_some_iff.mp H
             obtain ⟨t134, A510, H⟩ := H
             replace H : (laws_FnWords.j0 k l0 t105 t106 t108 t109 t112 t116 t120 t124 (t133 != t134) t102) = some r := H
             have A51 := Aside0.mk A510
             clear A510
             have H' := Aside0.mk H
             clear H
             try go_wp2
             have n0_ := Aside0.mk (Kd.R_drew HO104.out)
             have n1_ := Aside0.mk (Kd.R_drew HO126.out)
             have n2_ := Aside0.mk (Kd.R_drew HO130.out)
             have n3_ := Aside0.mk (blk_drew BK107.out)
             have n4_ := Aside0.mk (below_drew1 HB.out)
             clear HO104 HO126 HO130 BK107 HB
             have HO104 := n0_
             have HO126 := n1_
             have HO130 := n2_
             have BK107 := n3_
             have HB := n4_
             clear n0_ n1_ n2_ n3_ n4_
             obtain ⟨Ao53, co53, eo53⟩ := Kd.R_slice HO126.out
             (first | subst eo53 | (injection eo53 with f1_ f2_ f3_; have f4_ := f1_.symm; have f5_ := f3_.symm; clear f1_ f2_ f3_; subst f4_; subst f5_))
             obtain ⟨Ao54, co54, eo54⟩ := Kd.R_slice HO130.out
             (first | subst eo54 | (injection eo54 with f1_ f2_ f3_; have f4_ := f1_.symm; have f5_ := f3_.symm; clear f1_ f2_ f3_; subst f4_; subst f5_))
             refine start_ (n := 56) (S := fun w' => w'.cell? ⟨gb107, 0, none⟩ = some (.slice Ao18 t102.length co18)) (ds := []) #[false, false, false, false, false, false, false, false, false, false, false, false, false, false, false, false, false, false, false, false, false, false, false, false, false, false, false, false, false, false, false, false, false, false, false, false, false, false, false, false, false, false, false, false, false, false, false, false, false, false, false, false, false, false, false, false] (by kernel_rfl) rfl rfl ((blk_cell BK107.out 0).trans rfl) (fun hHeld => ?_); refine with_tabW laws_FnWords.tab14 laws_FnWords.bits14 (fun HT_ HW_ => ?_)
             generalize w38.drew = w52 at HO104 HO126 HO130 BK107 HB hHeld ⊢
             refine pure_ (i := 0) (N := some 142) (v := ?_) (a' := ?_) #[true, false, false, false, false, false, false, false, false, false, false, false, false, false, false, false, false, false, false, false, false, false, false, false, false, false, false, false, false, false, false, false, false, false, false, false, false, false, false, false, false, false, false, false, false, false, false, false, false, false, false, false, false, false, false, false] rfl rfl (any_of HT_.out (by as_aux_lemma => kernel_rfl)) (fun _ _ _ h => h) (Or.inl ⟨by rfl, ?_⟩) ?_ ?_
             rotate_left
             ·intro w'
              go_simp
              with_reducible rfl
             rotate_left
             ·simp only [Act.put, List.setIfInBounds_toArray, List.set_cons_zero, List.set_cons_succ, i64_w, i32_w]
              rfl
             refine pure_ (i := 1) (N := some 143) (v := ?_) (a' := ?_) #[true, true, false, false, false, false, false, false, false, false, false, false, false, false, false, false, false, false, false, false, false, false, false, false, false, false, false, false, false, false, false, false, false, false, false, false, false, false, false, false, false, false, false, false, false, false, false, false, false, false, false, false, false, false, false, false] rfl rfl (any_of HT_.out (by as_aux_lemma => kernel_rfl)) (fun _ _ _ h => h) (Or.inl ⟨by rfl, ?_⟩) ?_ ?_
             rotate_left
             ·intro w'
              go_simp
              with_reducible rfl
             rotate_left
             ·simp only [Act.put, List.setIfInBounds_toArray, List.set_cons_zero, List.set_cons_succ, i64_w, i32_w]
              rfl
             refine pure_ (i := 2) (N := some 144) (v := ?_) (a' := ?_) #[true, true, true, false, false, false, false, false, false, false, false, false, false, false, false, false, false, false, false, false, false, false, false, false, false, false, false, false, false, false, false, false, false, false, false, false, false, false, false, false, false, false, false, false, false, false, false, false, false, false, false, false, false, false, false, false] rfl rfl (any_of HT_.out (by as_aux_lemma => kernel_rfl)) (fun _ _ _ h => h) (Or.inl ⟨by rfl, ?_⟩) ?_ ?_
             rotate_left
             ·intro w'
              go_simp
              with_reducible rfl
             rotate_left
             ·simp only [Act.put, List.setIfInBounds_toArray, List.set_cons_zero, List.set_cons_succ, i64_w, i32_w]
              rfl
             refine pure_ (i := 3) (N := some 145) (v := ?_) (a' := ?_) #[true, true, true, true, false, false, false, false, false, false, false, false, false, false, false, false, false, false, false, false, false, false, false, false, false, false, false, false, false, false, false, false, false, false, false, false, false, false, false, false, false, false, false, false, false, false, false, false, false, false, false, false, false, false, false, false] rfl rfl (any_of HT_.out (by as_aux_lemma => kernel_rfl)) (fun _ _ _ h => h) (Or.inl ⟨by rfl, ?_⟩) ?_ ?_
             rotate_left
             ·intro w'
              go_simp
              with_reducible rfl
             rotate_left
             ·simp only [Act.put, List.setIfInBounds_toArray, List.set_cons_zero, List.set_cons_succ, i64_w, i32_w]
              rfl
             refine pure_ (i := 4) (N := some 146) (v := ?_) (a' := ?_) #[true, true, true, true, true, false, false, false, false, false, false, false, false, false, false, false, false, false, false, false, false, false, false, false, false, false, false, false, false, false, false, false, false, false, false, false, false, false, false, false, false, false, false, false, false, false, false, false, false, false, false, false, false, false, false, false] rfl rfl (any_of HT_.out (by as_aux_lemma => kernel_rfl)) (fun _ _ _ h => h) (Or.inl ⟨by rfl, ?_⟩) ?_ ?_
             rotate_left
             ·intro w'
              go_simp
              with_reducible rfl
             rotate_left
             ·simp only [Act.put, List.setIfInBounds_toArray, List.set_cons_zero, List.set_cons_succ, i64_w, i32_w]
              rfl
             refine pure_ (i := 5) (N := some 147) (v := ?_) (a' := ?_) #[true, true, true, true, true, true, false, false, false, false, false, false, false, false, false, false, false, false, false, false, false, false, false, false, false, false, false, false, false, false, false, false, false, false, false, false, false, false, false, false, false, false, false, false, false, false, false, false, false, false, false, false, false, false, false, false] rfl rfl (any_of HT_.out (by as_aux_lemma => kernel_rfl)) (fun _ _ _ h => h) (Or.inl ⟨by rfl, ?_⟩) ?_ ?_
             rotate_left
             ·intro w'
              go_simp
              with_reducible rfl
             rotate_left
             ·simp only [Act.put, List.setIfInBounds_toArray, List.set_cons_zero, List.set_cons_succ, i64_w, i32_w]
              rfl
             refine pure_ (i := 6) (N := some 148) (v := ?_) (a' := ?_) #[true, true, true, true, true, true, true, false, false, false, false, false, false, false, false, false, false, false, false, false, false, false, false, false, false, false, false, false, false, false, false, false, false, false, false, false, false, false, false, false, false, false, false, false, false, false, false, false, false, false, false, false, false, false, false, false] rfl rfl (any_of HT_.out (by as_aux_lemma => kernel_rfl)) (fun _ _ _ h => h) (Or.inl ⟨by rfl, ?_⟩) ?_ ?_
             rotate_left
             ·intro w'
              go_simp
              with_reducible rfl
             rotate_left
             ·simp only [Act.put, List.setIfInBounds_toArray, List.set_cons_zero, List.set_cons_succ, i64_w, i32_w]
              rfl
             refine pure_ (i := 7) (N := some 149) (v := ?_) (a' := ?_) #[true, true, true, true, true, true, true, true, false, false, false, false, false, false, false, false, false, false, false, false, false, false, false, false, false, false, false, false, false, false, false, false, false, false, false, false, false, false, false, false, false, false, false, false, false, false, false, false, false, false, false, false, false, false, false, false] rfl rfl (any_of HT_.out (by as_aux_lemma => kernel_rfl)) (fun _ _ _ h => h) (Or.inl ⟨by rfl, ?_⟩) ?_ ?_
             rotate_left
             ·intro w'
              go_simp
              with_reducible rfl
             rotate_left
             ·simp only [Act.put, List.setIfInBounds_toArray, List.set_cons_zero, List.set_cons_succ, i64_w, i32_w]
              rfl
             refine pure_ (i := 8) (N := some 150) (v := ?_) (a' := ?_) #[true, true, true, true, true, true, true, true, true, false, false, false, false, false, false, false, false, false, false, false, false, false, false, false, false, false, false, false, false, false, false, false, false, false, false, false, false, false, false, false, false, false, false, false, false, false, false, false, false, false, false, false, false, false, false, false] rfl rfl (any_of HT_.out (by as_aux_lemma => kernel_rfl)) (fun _ _ _ h => h) (Or.inl ⟨by rfl, ?_⟩) ?_ ?_
             rotate_left
             ·intro w'
              go_simp
              with_reducible rfl
             rotate_left
             ·simp only [Act.put, List.setIfInBounds_toArray, List.set_cons_zero, List.set_cons_succ, i64_w, i32_w]
              rfl
             refine pure_ (i := 9) (N := some 151) (v := ?_) (a' := ?_) #[true, true, true, true, true, true, true, true, true, true, false, false, false, false, false, false, false, false, false, false, false, false, false, false, false, false, false, false, false, false, false, false, false, false, false, false, false, false, false, false, false, false, false, false, false, false, false, false, false, false, false, false, false, false, false, false] rfl rfl (any_of HT_.out (by as_aux_lemma => kernel_rfl)) (fun _ _ _ h => h) (Or.inl ⟨by rfl, ?_⟩) ?_ ?_
             rotate_left
             ·intro w'
              go_simp
              with_reducible rfl
             rotate_left
             ·simp only [Act.put, List.setIfInBounds_toArray, List.set_cons_zero, List.set_cons_succ, i64_w, i32_w]
              rfl
             refine pure_ (i := 10) (N := some 152) (v := ?_) (a' := ?_) #[true, true, true, true, true, true, true, true, true, true, true, false, false, false, false, false, false, false, false, false, false, false, false, false, false, false, false, false, false, false, false, false, false, false, false, false, false, false, false, false, false, false, false, false, false, false, false, false, false, false, false, false, false, false, false, false] rfl rfl (any_of HT_.out (by as_aux_lemma => kernel_rfl)) (fun _ _ _ h => h) (Or.inl ⟨by rfl, ?_⟩) ?_ ?_
             rotate_left
             ·intro w'
              go_simp
              with_reducible rfl
             rotate_left
             ·simp only [Act.put, List.setIfInBounds_toArray, List.set_cons_zero, List.set_cons_succ, i64_w, i32_w]
              rfl
             refine pure_ (i := 11) (N := some 153) (v := ?_) (a' := ?_) #[true, true, true, true, true, true, true, true, true, true, true, true, false, false, false, false, false, false, false, false, false, false, false, false, false, false, false, false, false, false, false, false, false, false, false, false, false, false, false, false, false, false, false, false, false, false, false, false, false, false, false, false, false, false, false, false] rfl rfl (any_of HT_.out (by as_aux_lemma => kernel_rfl)) (fun _ _ _ h => h) (Or.inl ⟨by rfl, ?_⟩) ?_ ?_
             rotate_left
             ·intro w'
              go_simp
              with_reducible rfl
             rotate_left
             ·simp only [Act.put, List.setIfInBounds_toArray, List.set_cons_zero, List.set_cons_succ, i64_w, i32_w]
              rfl
             refine pure_ (i := 12) (N := some 154) (v := ?_) (a' := ?_) #[true, true, true, true, true, true, true, true, true, true, true, true, true, false, false, false, false, false, false, false, false, false, false, false, false, false, false, false, false, false, false, false, false, false, false, false, false, false, false, false, false, false, false, false, false, false, false, false, false, false, false, false, false, false, false, false] rfl rfl (any_of HT_.out (by as_aux_lemma => kernel_rfl)) (fun _ _ _ h => h) (Or.inl ⟨by rfl, ?_⟩) ?_ ?_
             rotate_left
             ·intro w'
              go_simp
              with_reducible rfl
             rotate_left
             ·simp only [Act.put, List.setIfInBounds_toArray, List.set_cons_zero, List.set_cons_succ, i64_w, i32_w]
              rfl
             refine pure_ (i := 13) (N := some 155) (v := ?_) (a' := ?_) #[true, true, true, true, true, true, true, true, true, true, true, true, true, true, false, false, false, false, false, false, false, false, false, false, false, false, false, false, false, false, false, false, false, false, false, false, false, false, false, false, false, false, false, false, false, false, false, false, false, false, false, false, false, false, false, false] rfl rfl (any_of HT_.out (by as_aux_lemma => kernel_rfl)) (fun _ _ _ h => h) (Or.inl ⟨by rfl, ?_⟩) ?_ ?_
             rotate_left
             ·intro w'
              go_simp
              with_reducible rfl
             rotate_left
             ·simp only [Act.put, List.setIfInBounds_toArray, List.set_cons_zero, List.set_cons_succ, i64_w, i32_w]
              rfl
             refine pure_ (i := 14) (N := some 156) (v := ?_) (a' := ?_) #[true, true, true, true, true, true, true, true, true, true, true, true, true, true, true, false, false, false, false, false, false, false, false, false, false, false, false, false, false, false, false, false, false, false, false, false, false, false, false, false, false, false, false, false, false, false, false, false, false, false, false, false, false, false, false, false] rfl rfl (any_of HT_.out (by as_aux_lemma => kernel_rfl)) (fun _ _ _ h => h) (Or.inl ⟨by rfl, ?_⟩) ?_ ?_
             rotate_left
             ·intro w'
              go_simp
              with_reducible rfl
             rotate_left
             ·simp only [Act.put, List.setIfInBounds_toArray, List.set_cons_zero, List.set_cons_succ, i64_w, i32_w]
              rfl
             refine pure_ (i := 15) (N := some 157) (v := ?_) (a' := ?_) #[true, true, true, true, true, true, true, true, true, true, true, true, true, true, true, true, false, false, false, false, false, false, false, false, false, false, false, false, false, false, false, false, false, false, false, false, false, false, false, false, false, false, false, false, false, false, false, false, false, false, false, false, false, false, false, false] rfl rfl (any_of HT_.out (by as_aux_lemma => kernel_rfl)) (fun _ _ _ h => h) (Or.inl ⟨by rfl, ?_⟩) ?_ ?_
             rotate_left
             ·intro w'
              go_simp
              with_reducible rfl
             rotate_left
             ·simp only [Act.put, List.setIfInBounds_toArray, List.set_cons_zero, List.set_cons_succ, i64_w, i32_w]
              rfl
             refine pure_ (i := 16) (N := some 158) (v := ?_) (a' := ?_) #[true, true, true, true, true, true, true, true, true, true, true, true, true, true, true, true, true, false, false, false, false, false, false, false, false, false, false, false, false, false, false, false, false, false, false, false, false, false, false, false, false, false, false, false, false, false, false, false, false, false, false, false, false, false, false, false] rfl rfl (any_of HT_.out (by as_aux_lemma => kernel_rfl)) (fun _ _ _ h => h) (Or.inl ⟨by rfl, ?_⟩) ?_ ?_
             rotate_left
             ·intro w'
              go_simp
              with_reducible rfl
             rotate_left
             ·simp only [Act.put, List.setIfInBounds_toArray, List.set_cons_zero, List.set_cons_succ, i64_w, i32_w]
              rfl
             refine pure_ (i := 17) (N := some 159) (v := ?_) (a' := ?_) #[true, true, true, true, true, true, true, true, true, true, true, true, true, true, true, true, true, true, false, false, false, false, false, false, false, false, false, false, false, false, false, false, false, false, false, false, false, false, false, false, false, false, false, false, false, false, false, false, false, false, false, false, false, false, false, false] rfl rfl (any_of HT_.out (by as_aux_lemma => kernel_rfl)) (fun _ _ _ h => h) (Or.inl ⟨by rfl, ?_⟩) ?_ ?_
             rotate_left
             ·intro w'
              go_simp
              with_reducible rfl
             rotate_left
             ·simp only [Act.put, List.setIfInBounds_toArray, List.set_cons_zero, List.set_cons_succ, i64_w, i32_w]
              rfl
             refine pure_ (i := 18) (N := some 160) (v := ?_) (a' := ?_) #[true, true, true, true, true, true, true, true, true, true, true, true, true, true, true, true, true, true, true, false, false, false, false, false, false, false, false, false, false, false, false, false, false, false, false, false, false, false, false, false, false, false, false, false, false, false, false, false, false, false, false, false, false, false, false, false] rfl rfl (any_of HT_.out (by as_aux_lemma => kernel_rfl)) (fun _ _ _ h => h) (Or.inl ⟨by rfl, ?_⟩) ?_ ?_
             rotate_left
             ·intro w'
              go_simp
              with_reducible rfl
             rotate_left
             ·simp only [Act.put, List.setIfInBounds_toArray, List.set_cons_zero, List.set_cons_succ, i64_w, i32_w]
              rfl
             refine pure_ (i := 19) (N := some 161) (v := ?_) (a' := ?_) #[true, true, true, true, true, true, true, true, true, true, true, true, true, true, true, true, true, true, true, true, false, false, false, false, false, false, false, false, false, false, false, false, false, false, false, false, false, false, false, false, false, false, false, false, false, false, false, false, false, false, false, false, false, false, false, false] rfl rfl (any_of HT_.out (by as_aux_lemma => kernel_rfl)) (fun _ _ _ h => h) (Or.inl ⟨by rfl, ?_⟩) ?_ ?_
             rotate_left
             ·intro w'
              go_simp
              with_reducible rfl
             rotate_left
             ·simp only [Act.put, List.setIfInBounds_toArray, List.set_cons_zero, List.set_cons_succ, i64_w, i32_w]
              rfl
             refine pure_ (i := 20) (N := some 162) (v := ?_) (a' := ?_) #[true, true, true, true, true, true, true, true, true, true, true, true, true, true, true, true, true, true, true, true, true, false, false, false, false, false, false, false, false, false, false, false, false, false, false, false, false, false, false, false, false, false, false, false, false, false, false, false, false, false, false, false, false, false, false, false] rfl rfl (any_of HT_.out (by as_aux_lemma => kernel_rfl)) (fun _ _ _ h => h) (Or.inl ⟨by rfl, ?_⟩) ?_ ?_
             rotate_left
             ·intro w'
              go_simp
              with_reducible rfl
             rotate_left
             ·simp only [Act.put, List.setIfInBounds_toArray, List.set_cons_zero, List.set_cons_succ, i64_w, i32_w]
              rfl
             refine pure_ (i := 21) (N := some 163) (v := ?_) (a' := ?_) #[true, true, true, true, true, true, true, true, true, true, true, true, true, true, true, true, true, true, true, true, true, true, false, false, false, false, false, false, false, false, false, false, false, false, false, false, false, false, false, false, false, false, false, false, false, false, false, false, false, false, false, false, false, false, false, false] rfl rfl (any_of HT_.out (by as_aux_lemma => kernel_rfl)) (fun _ _ _ h => h) (Or.inl ⟨by rfl, ?_⟩) ?_ ?_
             rotate_left
             ·intro w'
              go_simp
              with_reducible rfl
             rotate_left
             ·simp only [Act.put, List.setIfInBounds_toArray, List.set_cons_zero, List.set_cons_succ, i64_w, i32_w]
              rfl
             refine pure_ (i := 22) (N := some 164) (v := ?_) (a' := ?_) #[true, true, true, true, true, true, true, true, true, true, true, true, true, true, true, true, true, true, true, true, true, true, true, false, false, false, false, false, false, false, false, false, false, false, false, false, false, false, false, false, false, false, false, false, false, false, false, false, false, false, false, false, false, false, false, false] rfl rfl (any_of HT_.out (by as_aux_lemma => kernel_rfl)) (fun _ _ _ h => h) (Or.inl ⟨by rfl, ?_⟩) ?_ ?_
             rotate_left
             ·intro w'
              go_simp
              with_reducible rfl
             rotate_left
             ·simp only [Act.put, List.setIfInBounds_toArray, List.set_cons_zero, List.set_cons_succ, i64_w, i32_w]
              rfl
             refine pure_ (i := 23) (N := some 165) (v := ?_) (a' := ?_) #[true, true, true, true, true, true, true, true, true, true, true, true, true, true, true, true, true, true, true, true, true, true, true, true, false, false, false, false, false, false, false, false, false, false, false, false, false, false, false, false, false, false, false, false, false, false, false, false, false, false, false, false, false, false, false, false] rfl rfl (any_of HT_.out (by as_aux_lemma => kernel_rfl)) (fun _ _ _ h => h) (Or.inl ⟨by rfl, ?_⟩) ?_ ?_
             rotate_left
             ·intro w'
              go_simp
              with_reducible rfl
             rotate_left
             ·simp only [Act.put, List.setIfInBounds_toArray, List.set_cons_zero, List.set_cons_succ, i64_w, i32_w]
              rfl
             refine pure_ (i := 24) (N := some 166) (v := ?_) (a' := ?_) #[true, true, true, true, true, true, true, true, true, true, true, true, true, true, true, true, true, true, true, true, true, true, true, true, true, false, false, false, false, false, false, false, false, false, false, false, false, false, false, false, false, false, false, false, false, false, false, false, false, false, false, false, false, false, false, false] rfl rfl (any_of HT_.out (by as_aux_lemma => kernel_rfl)) (fun _ _ _ h => h) (Or.inl ⟨by rfl, ?_⟩) ?_ ?_
             rotate_left
             ·intro w'
              go_simp
              with_reducible rfl
             rotate_left
             ·simp only [Act.put, List.setIfInBounds_toArray, List.set_cons_zero, List.set_cons_succ, i64_w, i32_w]
              rfl
             refine pure_ (i := 25) (N := some 167) (v := ?_) (a' := ?_) #[true, true, true, true, true, true, true, true, true, true, true, true, true, true, true, true, true, true, true, true, true, true, true, true, true, true, false, false, false, false, false, false, false, false, false, false, false, false, false, false, false, false, false, false, false, false, false, false, false, false, false, false, false, false, false, false] rfl rfl (any_of HT_.out (by as_aux_lemma => kernel_rfl)) (fun _ _ _ h => h) (Or.inl ⟨by rfl, ?_⟩) ?_ ?_
             rotate_left
             ·intro w'
              go_simp
              with_reducible rfl
             rotate_left
             ·simp only [Act.put, List.setIfInBounds_toArray, List.set_cons_zero, List.set_cons_succ, i64_w, i32_w]
              rfl
             refine pure_ (i := 26) (N := some 168) (v := ?_) (a' := ?_) #[true, true, true, true, true, true, true, true, true, true, true, true, true, true, true, true, true, true, true, true, true, true, true, true, true, true, true, false, false, false, false, false, false, false, false, false, false, false, false, false, false, false, false, false, false, false, false, false, false, false, false, false, false, false, false, false] rfl rfl (any_of HT_.out (by as_aux_lemma => kernel_rfl)) (fun _ _ _ h => h) (Or.inl ⟨by rfl, ?_⟩) ?_ ?_
             rotate_left
             ·intro w'
              go_simp
              with_reducible rfl
             rotate_left
             ·simp only [Act.put, List.setIfInBounds_toArray, List.set_cons_zero, List.set_cons_succ, i64_w, i32_w]
              rfl
             refine pure_ (i := 27) (N := some 169) (v := ?_) (a' := ?_) #[true, true, true, true, true, true, true, true, true, true, true, true, true, true, true, true, true, true, true, true, true, true, true, true, true, true, true, true, false, false, false, false, false, false, false, false, false, false, false, false, false, false, false, false, false, false, false, false, false, false, false, false, false, false, false, false] rfl rfl (any_of HT_.out (by as_aux_lemma => kernel_rfl)) (fun _ _ _ h => h) (Or.inl ⟨by rfl, ?_⟩) ?_ ?_
             rotate_left
             ·intro w'
              go_simp
              with_reducible rfl
             rotate_left
             ·simp only [Act.put, List.setIfInBounds_toArray, List.set_cons_zero, List.set_cons_succ, i64_w, i32_w]
              rfl
             refine pure_ (i := 28) (N := some 170) (v := ?_) (a' := ?_) #[true, true, true, true, true, true, true, true, true, true, true, true, true, true, true, true, true, true, true, true, true, true, true, true, true, true, true, true, true, false, false, false, false, false, false, false, false, false, false, false, false, false, false, false, false, false, false, false, false, false, false, false, false, false, false, false] rfl rfl (any_of HT_.out (by as_aux_lemma => kernel_rfl)) (fun _ _ _ h => h) (Or.inl ⟨by rfl, ?_⟩) ?_ ?_
             rotate_left
             ·intro w'
              go_simp
              with_reducible rfl
             rotate_left
             ·simp only [Act.put, List.setIfInBounds_toArray, List.set_cons_zero, List.set_cons_succ, i64_w, i32_w]
              rfl
             refine pure_ (i := 29) (N := some 171) (v := ?_) (a' := ?_) #[true, true, true, true, true, true, true, true, true, true, true, true, true, true, true, true, true, true, true, true, true, true, true, true, true, true, true, true, true, true, false, false, false, false, false, false, false, false, false, false, false, false, false, false, false, false, false, false, false, false, false, false, false, false, false, false] rfl rfl (any_of HT_.out (by as_aux_lemma => kernel_rfl)) (fun _ _ _ h => h) (Or.inl ⟨by rfl, ?_⟩) ?_ ?_
             rotate_left
             ·intro w'
              go_simp
              with_reducible rfl
             rotate_left
             ·simp only [Act.put, List.setIfInBounds_toArray, List.set_cons_zero, List.set_cons_succ, i64_w, i32_w]
              rfl
             refine pure_ (i := 30) (N := some 172) (v := ?_) (a' := ?_) #[true, true, true, true, true, true, true, true, true, true, true, true, true, true, true, true, true, true, true, true, true, true, true, true, true, true, true, true, true, true, true, false, false, false, false, false, false, false, false, false, false, false, false, false, false, false, false, false, false, false, false, false, false, false, false, false] rfl rfl (any_of HT_.out (by as_aux_lemma => kernel_rfl)) (fun _ _ _ h => h) (Or.inl ⟨by rfl, ?_⟩) ?_ ?_
             rotate_left
             ·intro w'
              go_simp
              with_reducible rfl
             rotate_left
             ·simp only [Act.put, List.setIfInBounds_toArray, List.set_cons_zero, List.set_cons_succ, i64_w, i32_w]
              rfl
             refine pure_ (i := 31) (N := some 173) (v := ?_) (a' := ?_) #[true, true, true, true, true, true, true, true, true, true, true, true, true, true, true, true, true, true, true, true, true, true, true, true, true, true, true, true, true, true, true, true, false, false, false, false, false, false, false, false, false, false, false, false, false, false, false, false, false, false, false, false, false, false, false, false] rfl rfl (any_of HT_.out (by as_aux_lemma => kernel_rfl)) (fun _ _ _ h => h) (Or.inl ⟨by rfl, ?_⟩) ?_ ?_
             rotate_left
             ·intro w'
              go_simp
              with_reducible rfl
             rotate_left
             ·simp only [Act.put, List.setIfInBounds_toArray, List.set_cons_zero, List.set_cons_succ, i64_w, i32_w]
              rfl
             refine pure_ (i := 32) (N := some 174) (v := ?_) (a' := ?_) #[true, true, true, true, true, true, true, true, true, true, true, true, true, true, true, true, true, true, true, true, true, true, true, true, true, true, true, true, true, true, true, true, true, false, false, false, false, false, false, false, false, false, false, false, false, false, false, false, false, false, false, false, false, false, false, false] rfl rfl (any_of HT_.out (by as_aux_lemma => kernel_rfl)) (fun _ _ _ h => h) (Or.inl ⟨by rfl, ?_⟩) ?_ ?_
             rotate_left
             ·intro w'
              go_simp
              with_reducible rfl
             rotate_left
             ·simp only [Act.put, List.setIfInBounds_toArray, List.set_cons_zero, List.set_cons_succ, i64_w, i32_w]
              rfl
             refine pure_ (i := 33) (N := some 175) (v := ?_) (a' := ?_) #[true, true, true, true, true, true, true, true, true, true, true, true, true, true, true, true, true, true, true, true, true, true, true, true, true, true, true, true, true, true, true, true, true, true, false, false, false, false, false, false, false, false, false, false, false, false, false, false, false, false, false, false, false, false, false, false] rfl rfl (any_of HT_.out (by as_aux_lemma => kernel_rfl)) (fun _ _ _ h => h) (Or.inl ⟨by rfl, ?_⟩) ?_ ?_
             rotate_left
             ·intro w'
              go_simp
              with_reducible rfl
             rotate_left
             ·simp only [Act.put, List.setIfInBounds_toArray, List.set_cons_zero, List.set_cons_succ, i64_w, i32_w]
              rfl
             refine pure_ (i := 34) (N := some 176) (v := ?_) (a' := ?_) #[true, true, true, true, true, true, true, true, true, true, true, true, true, true, true, true, true, true, true, true, true, true, true, true, true, true, true, true, true, true, true, true, true, true, true, false, false, false, false, false, false, false, false, false, false, false, false, false, false, false, false, false, false, false, false, false] rfl rfl (any_of HT_.out (by as_aux_lemma => kernel_rfl)) (fun _ _ _ h => h) (Or.inl ⟨by rfl, ?_⟩) ?_ ?_
             rotate_left
             ·intro w'
              go_simp
              with_reducible rfl
             rotate_left
             ·simp only [Act.put, List.setIfInBounds_toArray, List.set_cons_zero, List.set_cons_succ, i64_w, i32_w]
              rfl
             refine pure_ (i := 35) (N := some 177) (v := ?_) (a' := ?_) #[true, true, true, true, true, true, true, true, true, true, true, true, true, true, true, true, true, true, true, true, true, true, true, true, true, true, true, true, true, true, true, true, true, true, true, true, false, false, false, false, false, false, false, false, false, false, false, false, false, false, false, false, false, false, false, false] rfl rfl (any_of HT_.out (by as_aux_lemma => kernel_rfl)) (fun _ _ _ h => h) (Or.inl ⟨by rfl, ?_⟩) ?_ ?_
             rotate_left
             ·intro w'
              go_simp
              with_reducible rfl
             rotate_left
             ·simp only [Act.put, List.setIfInBounds_toArray, List.set_cons_zero, List.set_cons_succ, i64_w, i32_w]
              rfl
             refine pure_ (i := 36) (N := some 178) (v := ?_) (a' := ?_) #[true, true, true, true, true, true, true, true, true, true, true, true, true, true, true, true, true, true, true, true, true, true, true, true, true, true, true, true, true, true, true, true, true, true, true, true, true, false, false, false, false, false, false, false, false, false, false, false, false, false, false, false, false, false, false, false] rfl rfl (any_of HT_.out (by as_aux_lemma => kernel_rfl)) (fun _ _ _ h => h) (Or.inl ⟨by rfl, ?_⟩) ?_ ?_
             rotate_left
             ·intro w'
              go_simp
              with_reducible rfl
             rotate_left
             ·simp only [Act.put, List.setIfInBounds_toArray, List.set_cons_zero, List.set_cons_succ, i64_w, i32_w]
              rfl
             refine pure_ (i := 37) (N := some 179) (v := ?_) (a' := ?_) #[true, true, true, true, true, true, true, true, true, true, true, true, true, true, true, true, true, true, true, true, true, true, true, true, true, true, true, true, true, true, true, true, true, true, true, true, true, true, false, false, false, false, false, false, false, false, false, false, false, false, false, false, false, false, false, false] rfl rfl (any_of HT_.out (by as_aux_lemma => kernel_rfl)) (fun _ _ _ h => h) (Or.inl ⟨by rfl, ?_⟩) ?_ ?_
             rotate_left
             ·intro w'
              go_simp
              with_reducible rfl
             rotate_left
             ·simp only [Act.put, List.setIfInBounds_toArray, List.set_cons_zero, List.set_cons_succ, i64_w, i32_w]
              rfl
             refine pure_ (i := 38) (N := some 180) (v := ?_) (a' := ?_) #[true, true, true, true, true, true, true, true, true, true, true, true, true, true, true, true, true, true, true, true, true, true, true, true, true, true, true, true, true, true, true, true, true, true, true, true, true, true, true, false, false, false, false, false, false, false, false, false, false, false, false, false, false, false, false, false] rfl rfl (any_of HT_.out (by as_aux_lemma => kernel_rfl)) (fun _ _ _ h => h) (Or.inl ⟨by rfl, ?_⟩) ?_ ?_
             rotate_left
             ·intro w'
              go_simp
              with_reducible rfl
             rotate_left
             ·simp only [Act.put, List.setIfInBounds_toArray, List.set_cons_zero, List.set_cons_succ, i64_w, i32_w]
              rfl
             refine pure_ (i := 39) (N := some 181) (v := ?_) (a' := ?_) #[true, true, true, true, true, true, true, true, true, true, true, true, true, true, true, true, true, true, true, true, true, true, true, true, true, true, true, true, true, true, true, true, true, true, true, true, true, true, true, true, false, false, false, false, false, false, false, false, false, false, false, false, false, false, false, false] rfl rfl (any_of HT_.out (by as_aux_lemma => kernel_rfl)) (fun _ _ _ h => h) (Or.inl ⟨by rfl, ?_⟩) ?_ ?_
             rotate_left
             ·intro w'
              go_simp
              with_reducible rfl
             rotate_left
             ·simp only [Act.put, List.setIfInBounds_toArray, List.set_cons_zero, List.set_cons_succ, i64_w, i32_w]
              rfl
             refine pure_ (i := 40) (N := some 182) (v := ?_) (a' := ?_) #[true, true, true, true, true, true, true, true, true, true, true, true, true, true, true, true, true, true, true, true, true, true, true, true, true, true, true, true, true, true, true, true, true, true, true, true, true, true, true, true, true, false, false, false, false, false, false, false, false, false, false, false, false, false, false, false] rfl rfl (any_of HT_.out (by as_aux_lemma => kernel_rfl)) (fun _ _ _ h => h) (Or.inl ⟨by rfl, ?_⟩) ?_ ?_
             rotate_left
             ·intro w'
              go_simp
              with_reducible rfl
             rotate_left
             ·simp only [Act.put, List.setIfInBounds_toArray, List.set_cons_zero, List.set_cons_succ, i64_w, i32_w]
              rfl
             refine pure_ (i := 41) (N := some 183) (v := ?_) (a' := ?_) #[true, true, true, true, true, true, true, true, true, true, true, true, true, true, true, true, true, true, true, true, true, true, true, true, true, true, true, true, true, true, true, true, true, true, true, true, true, true, true, true, true, true, false, false, false, false, false, false, false, false, false, false, false, false, false, false] rfl rfl (any_of HT_.out (by as_aux_lemma => kernel_rfl)) (fun _ _ _ h => h) (Or.inl ⟨by rfl, ?_⟩) ?_ ?_
             rotate_left
             ·intro w'
              go_simp
              with_reducible rfl
             rotate_left
             ·simp only [Act.put, List.setIfInBounds_toArray, List.set_cons_zero, List.set_cons_succ, i64_w, i32_w]
              rfl
             refine pure_ (i := 42) (N := some 184) (v := ?_) (a' := ?_) #[true, true, true, true, true, true, true, true, true, true, true, true, true, true, true, true, true, true, true, true, true, true, true, true, true, true, true, true, true, true, true, true, true, true, true, true, true, true, true, true, true, true, true, false, false, false, false, false, false, false, false, false, false, false, false, false] rfl rfl (any_of HT_.out (by as_aux_lemma => kernel_rfl)) (fun _ _ _ h => h) (Or.inl ⟨by rfl, ?_⟩) ?_ ?_
             rotate_left
             ·intro w'
              go_simp
              with_reducible rfl
             rotate_left
             ·simp only [Act.put, List.setIfInBounds_toArray, List.set_cons_zero, List.set_cons_succ, i64_w, i32_w]
              rfl
             refine pure_ (i := 43) (N := some 185) (v := ?_) (a' := ?_) #[true, true, true, true, true, true, true, true, true, true, true, true, true, true, true, true, true, true, true, true, true, true, true, true, true, true, true, true, true, true, true, true, true, true, true, true, true, true, true, true, true, true, true, true, false, false, false, false, false, false, false, false, false, false, false, false] rfl rfl (any_of HT_.out (by as_aux_lemma => kernel_rfl)) (fun _ _ _ h => h) (Or.inl ⟨by rfl, ?_⟩) ?_ ?_
             rotate_left
             ·intro w'
              go_simp
              with_reducible rfl
             rotate_left
             ·simp only [Act.put, List.setIfInBounds_toArray, List.set_cons_zero, List.set_cons_succ, i64_w, i32_w]
              rfl
             refine pure_ (i := 44) (N := some 186) (v := ?_) (a' := ?_) #[true, true, true, true, true, true, true, true, true, true, true, true, true, true, true, true, true, true, true, true, true, true, true, true, true, true, true, true, true, true, true, true, true, true, true, true, true, true, true, true, true, true, true, true, true, false, false, false, false, false, false, false, false, false, false, false] rfl rfl (any_of HT_.out (by as_aux_lemma => kernel_rfl)) (fun _ _ _ h => h) (Or.inl ⟨by rfl, ?_⟩) ?_ ?_
             rotate_left
             ·intro w'
              go_simp
              with_reducible rfl
             rotate_left
             ·simp only [Act.put, List.setIfInBounds_toArray, List.set_cons_zero, List.set_cons_succ, i64_w, i32_w]
              rfl
             refine pure_ (i := 45) (N := some 187) (v := ?_) (a' := ?_) #[true, true, true, true, true, true, true, true, true, true, true, true, true, true, true, true, true, true, true, true, true, true, true, true, true, true, true, true, true, true, true, true, true, true, true, true, true, true, true, true, true, true, true, true, true, true, false, false, false, false, false, false, false, false, false, false] rfl rfl (any_of HT_.out (by as_aux_lemma => kernel_rfl)) (fun _ _ _ h => h) (Or.inl ⟨by rfl, ?_⟩) ?_ ?_
             rotate_left
             ·intro w'
              go_simp
              with_reducible rfl
             rotate_left
             ·simp only [Act.put, List.setIfInBounds_toArray, List.set_cons_zero, List.set_cons_succ, i64_w, i32_w]
              rfl
             refine one_ (i := 46) (N := some 188) #[true, true, true, true, true, true, true, true, true, true, true, true, true, true, true, true, true, true, true, true, true, true, true, true, true, true, true, true, true, true, true, true, true, true, true, true, true, true, true, true, true, true, true, true, true, true, true, false, false, false, false, false, false, false, false, false] rfl rfl (one_of HT_.out (by as_aux_lemma => kernel_rfl)) (by decide) (fun K hK => ?_)
             refine goes_ Try.func18 (by kernel_rfl) rfl #[.slice Ao53 t124.length co53, .slice Ao54 t128.length co54] (by rfl) rfl rfl (by (try simp only [List.map_toArray, List.map_cons, List.map_nil]); first | done | rfl | (simp only [List.length_drop, List.length_take]; rfl)) ?_
             with_reducible refine (laws_likeInts.calls k _ _ t124 _ _ t128 true _ ?side1 ?side2 ?side3 ?side4 A48.out).mono ?_
             (case side1 => repeat (first | exact (Kd.R_reads' HO126.out).2.2 | (with_reducible refine Kd.C_alloc ?_ _) | (with_reducible refine Kd.C_drewN ?_ _) | (with_reducible refine Kd.C_drew ?_)))
             (case side2 => exact (Kd.R_reads' HO126.out).2.1)
             (case side3 => repeat (first | exact (Kd.R_reads' HO130.out).2.2 | (with_reducible refine Kd.C_alloc ?_ _) | (with_reducible refine Kd.C_drewN ?_ _) | (with_reducible refine Kd.C_drew ?_)))
             (case side4 => exact (Kd.R_reads' HO130.out).2.1)
             rintro e w' ⟨rfl, ⟨nd, rfl⟩⟩
             refine ⟨_, rfl, ?_⟩
             refine hK.out _ _ ((blk_cell BK107.out 0).trans rfl) (fun hHeld => ?_)
             clear hK K
             refine norm_ (a' := ?_) ?_ ?_
             rotate_left
             ·show Act.put _ (some 188) _ = _
              simp only [Act.put, List.setIfInBounds_toArray, List.set_cons_zero, List.set_cons_succ, i64_w, i32_w]
              rfl
             refine pure_ (i := 47) (N := some 189) (v := ?_) (a' := ?_) #[true, true, true, true, true, true, true, true, true, true, true, true, true, true, true, true, true, true, true, true, true, true, true, true, true, true, true, true, true, true, true, true, true, true, true, true, true, true, true, true, true, true, true, true, true, true, true, true, false, false, false, false, false, false, false, false] rfl rfl (any_of HT_.out (by as_aux_lemma => kernel_rfl)) (fun _ _ _ h => h) (Or.inl ⟨by rfl, ?_⟩) ?_ ?_
             rotate_left
             ·intro w'
              go_simp
              with_reducible rfl
             rotate_left
             ·simp only [Act.put, List.setIfInBounds_toArray, List.set_cons_zero, List.set_cons_succ, i64_w, i32_w]
              rfl
             refine pure_ (i := 48) (N := some 190) (v := ?_) (a' := ?_) #[true, true, true, true, true, true, true, true, true, true, true, true, true, true, true, true, true, true, true, true, true, true, true, true, true, true, true, true, true, true, true, true, true, true, true, true, true, true, true, true, true, true, true, true, true, true, true, true, true, false, false, false, false, false, false, false] rfl rfl (any_of HT_.out (by as_aux_lemma => kernel_rfl)) (fun _ _ _ h => h) (Or.inl ⟨by rfl, ?_⟩) ?_ ?_
             rotate_left
             ·intro w'
              go_simp
              with_reducible rfl
             rotate_left
             ·simp only [Act.put, List.setIfInBounds_toArray, List.set_cons_zero, List.set_cons_succ, i64_w, i32_w]
              rfl
             refine pure_ (i := 49) (N := some 191) (v := ?_) (a' := ?_) #[true, true, true, true, true, true, true, true, true, true, true, true, true, true, true, true, true, true, true, true, true, true, true, true, true, true, true, true, true, true, true, true, true, true, true, true, true, true, true, true, true, true, true, true, true, true, true, true, true, true, false, false, false, false, false, false] rfl rfl (any_of HT_.out (by as_aux_lemma => kernel_rfl)) (fun _ _ _ h => h) (Or.inl ⟨by rfl, ?_⟩) ?_ ?_
             rotate_left
             ·intro w'
              go_simp
              with_reducible rfl
             rotate_left
             ·simp only [Act.put, List.setIfInBounds_toArray, List.set_cons_zero, List.set_cons_succ, i64_w, i32_w]
              rfl
             refine take_ (i := 50) (N := some 192) (v := ?_) (a' := ?_) #[true, true, true, true, true, true, true, true, true, true, true, true, true, true, true, true, true, true, true, true, true, true, true, true, true, true, true, true, true, true, true, true, true, true, true, true, true, true, true, true, true, true, true, true, true, true, true, true, true, true, true, false, false, false, false, false] rfl rfl (take_ofW HT_.out HW_.out (by as_aux_lemma => kernel_rfl)) (fun _ _ _ h => h) (Or.inl ⟨by rfl, ?_⟩) hHeld ?_ ?_
             rotate_left
             ·intro w' s0
              go_simp
              with_reducible rfl
             rotate_left
             ·simp only [Act.put, List.setIfInBounds_toArray, List.set_cons_zero, List.set_cons_succ, i64_w, i32_w]
              rfl
             refine take_ (i := 52) (N := some 194) (v := ?_) (a' := ?_) #[true, true, true, true, true, true, true, true, true, true, true, true, true, true, true, true, true, true, true, true, true, true, true, true, true, true, true, true, true, true, true, true, true, true, true, true, true, true, true, true, true, true, true, true, true, true, true, true, true, true, true, false, true, false, false, false] rfl rfl (take_ofW HT_.out HW_.out (by as_aux_lemma => kernel_rfl)) (fun _ _ _ h => h) (Or.inl ⟨by rfl, ?_⟩) hHeld ?_ ?_
             rotate_left
             ·intro w' s0
              go_simp
              with_reducible rfl
             rotate_left
             ·simp only [Act.put, List.setIfInBounds_toArray, List.set_cons_zero, List.set_cons_succ, i64_w, i32_w]
              rfl
             refine one_ (i := 51) (N := some 193) #[true, true, true, true, true, true, true, true, true, true, true, true, true, true, true, true, true, true, true, true, true, true, true, true, true, true, true, true, true, true, true, true, true, true, true, true, true, true, true, true, true, true, true, true, true, true, true, true, true, true, true, true, true, false, false, false] rfl rfl (one_of HT_.out (by as_aux_lemma => kernel_rfl)) (by decide) (fun K hK => ?_)
             refine goes_ Try.func19 (by kernel_rfl) rfl #[.agg #[.slice Ao18 t102.length co18]] (by rfl) rfl rfl (by (try simp only [List.map_toArray, List.map_cons, List.map_nil]); first | done | rfl | (simp only [List.length_drop, List.length_take]; rfl)) ?_
             with_reducible refine (impl_IsSpace.calls k _ _ t102 t133 _ ?side1 ?side2 A50.out).mono ?_
             (case side1 => repeat (first | exact (Kd.R_reads' HO104.out).2.2 | (with_reducible refine Kd.C_alloc ?_ _) | (with_reducible refine Kd.C_drewN ?_ _) | (with_reducible refine Kd.C_drew ?_)))
             (case side2 => exact (Kd.R_reads' HO104.out).2.1)
             rintro e w55 ⟨rfl, hb⟩
             refine ⟨_, rfl, ?_⟩
             have n0_ := Aside0.mk (Kd.R_below (rb_ HO104.out) hb)
             have n1_ := Aside0.mk (Kd.R_below (rb_ HO126.out) hb)
             have n2_ := Aside0.mk (Kd.R_below (rb_ HO130.out) hb)
             have n3_ := Aside0.mk (blk_below (g := gb107) (o := .cells #[.slice Ao18 t102.length co18] 26 (0, 0)) (bb_ BK107.out) hb)
             have n4_ := Aside0.mk (below_step (gb_ HB.out) hb)
             clear HO104 HO126 HO130 BK107 HB
             have HO104 := n0_
             have HO126 := n1_
             have HO130 := n2_
             have BK107 := n3_
             have HB := n4_
             clear n0_ n1_ n2_ n3_ n4_
             (try clear hb)
             (try clear hb2)
             (try clear hk)
             (try clear hi)
             refine hK.out _ _ ((blk_cell BK107.out 0).trans rfl) (fun hHeld => ?_)
             clear hK K
             refine norm_ (a' := ?_) ?_ ?_
             rotate_left
             ·show Act.put _ (some 193) _ = _
              simp only [Act.put, List.setIfInBounds_toArray, List.set_cons_zero, List.set_cons_succ, i64_w, i32_w]
              rfl
             refine one_ (i := 53) (N := some 195) #[true, true, true, true, true, true, true, true, true, true, true, true, true, true, true, true, true, true, true, true, true, true, true, true, true, true, true, true, true, true, true, true, true, true, true, true, true, true, true, true, true, true, true, true, true, true, true, true, true, true, true, true, true, true, false, false] rfl rfl (one_of HT_.out (by as_aux_lemma => kernel_rfl)) (by decide) (fun K hK => ?_)
             refine goes_ Try.func20 (by kernel_rfl) rfl #[.agg #[.slice Ao18 t102.length co18]] (by rfl) rfl rfl (by (try simp only [List.map_toArray, List.map_cons, List.map_nil]); first | done | rfl | (simp only [List.length_drop, List.length_take]; rfl)) ?_
             with_reducible refine (spec_IsSpace.calls k _ _ t102 t134 _ ?side1 ?side2 A51.out).mono ?_
             (case side1 => repeat (first | exact (Kd.R_reads' HO104.out).2.2 | (with_reducible refine Kd.C_alloc ?_ _) | (with_reducible refine Kd.C_drewN ?_ _) | (with_reducible refine Kd.C_drew ?_)))
             (case side2 => exact (Kd.R_reads' HO104.out).2.1)
             rintro e w56 ⟨rfl, hb⟩
             refine ⟨_, rfl, ?_⟩
             have n0_ := Aside0.mk (Kd.R_below (rb_ HO104.out) hb)
             have n1_ := Aside0.mk (Kd.R_below (rb_ HO126.out) hb)
             have n2_ := Aside0.mk (Kd.R_below (rb_ HO130.out) hb)
             have n3_ := Aside0.mk (blk_below (g := gb107) (o := .cells #[.slice Ao18 t102.length co18] 26 (0, 0)) (bb_ BK107.out) hb)
             have n4_ := Aside0.mk (below_step (gb_ HB.out) hb)
             clear HO104 HO126 HO130 BK107 HB
             have HO104 := n0_
             have HO126 := n1_
             have HO130 := n2_
             have BK107 := n3_
             have HB := n4_
             clear n0_ n1_ n2_ n3_ n4_
             (try clear hb)
             (try clear hb2)
             (try clear hk)
             (try clear hi)
             refine hK.out _ _ ((blk_cell BK107.out 0).trans rfl) (fun hHeld => ?_)
             clear hK K
             refine norm_ (a' := ?_) ?_ ?_
             rotate_left
             ·show Act.put _ (some 195) _ = _
              simp only [Act.put, List.setIfInBounds_toArray, List.set_cons_zero, List.set_cons_succ, i64_w, i32_w]
              rfl
             refine pure_ (i := 54) (N := some 196) (v := ?_) (a' := ?_) #[true, true, true, true, true, true, true, true, true, true, true, true, true, true, true, true, true, true, true, true, true, true, true, true, true, true, true, true, true, true, true, true, true, true, true, true, true, true, true, true, true, true, true, true, true, true, true, true, true, true, true, true, true, true, true, false] rfl rfl (any_of HT_.out (by as_aux_lemma => kernel_rfl)) (fun _ _ _ h => h) (Or.inl ⟨by rfl, ?_⟩) ?_ ?_
             rotate_left
             ·intro w'
              go_simp
              with_reducible rfl
             rotate_left
             ·simp only [Act.put, List.setIfInBounds_toArray, List.set_cons_zero, List.set_cons_succ, i64_w, i32_w]
              rfl
             refine pure_ (i := 55) (N := some 197) (v := ?_) (a' := ?_) #[true, true, true, true, true, true, true, true, true, true, true, true, true, true, true, true, true, true, true, true, true, true, true, true, true, true, true, true, true, true, true, true, true, true, true, true, true, true, true, true, true, true, true, true, true, true, true, true, true, true, true, true, true, true, true, true] rfl rfl (any_of HT_.out (by as_aux_lemma => kernel_rfl)) (fun _ _ _ h => h) (Or.inl ⟨by rfl, ?_⟩) ?_ ?_
             rotate_left
             ·intro w'
              go_simp
              with_reducible rfl
             rotate_left
             ·simp only [Act.put, List.setIfInBounds_toArray, List.set_cons_zero, List.set_cons_succ, i64_w, i32_w]
              rfl
             refine done_ (done_of HT_.out (by kernel_rfl)) ?_
             try go_wp2
             go_meet
             case rel => exact ⟨_, ((t133 != t134)), (by first | rfl | (simp; done) | (simp [*]; done)), H', ⟨by first | omega | exact Nat.le_refl _⟩, ⟨by (with_reducible repeat (first | apply Kd.R_alloc | apply Kd.R_drewN | apply Kd.R_drew)); exact Kd.R_mono HO126.out (fun _ hk => hk.1.2)⟩, ⟨by (with_reducible repeat (first | apply Kd.R_alloc | apply Kd.R_drewN | apply Kd.R_drew)); exact Kd.R_mono HO104.out (fun _ hk => hk.1.2)⟩, ⟨by (with_reducible repeat (first | refine blk_drewN ?_ _ | refine blk_drew ?_ | refine blk_alloc ?_ _)); exact BK107.out⟩, ⟨gb_ HB.out⟩⟩
            ·replace c49 := Bool.eq_false_iff.mpr c49
             subst c49
             exact laws_FnWords.no hr_ H
           ·rw [if_neg c47] at H
            exact laws_FnWords.no hr_ H
          ·rw [if_neg c46] at H
           exact laws_FnWords.no hr_ H
         ·rw [if_neg c45] at H
          exact laws_FnWords.no hr_ H
        ·rw [if_neg c44] at H
         exact laws_FnWords.no hr_ H
       ·rw [if_neg c43] at H
        exact laws_FnWords.no hr_ H
      ·rw [if_neg c42] at H
       exact laws_FnWords.no hr_ H
     ·rw [if_neg c41] at H
      exact laws_FnWords.no hr_ H
    ·rw [if_neg c40] at H
     exact laws_FnWords.no hr_ H
   ·rw [if_neg c39] at H
    exact laws_FnWords.no hr_ H
  case rest => as_aux_lemma =>
   clear HC15
   try clear p2
   try clear c3
   try clear c39
   try clear c39b0
   try clear c39b1
   obtain ⟨kq, x197_14, rfl, HA, HJ14, HO_22, HO_108000, BK107, HB⟩ := hcut
   cases kq with
   | zero => exact absurd HA.out (by simp [laws_FnWords.j0])
   | succ kj14 =>
    have H := HA.out
    clear HA
    simp only [laws_FnWords.j0] at H
    by_cases c69 : x197_14 = true
    ·subst c69
     exact laws_FnWords.no hr_ H
    ·replace c69 := Bool.eq_false_iff.mpr c69
     subst c69
     have H1 : (if t109 = 0 then ((impl_WordOf.f kj14 t102 t124).bind fun bt135 => ((impl_SumOfWords.f kj14 t102 t106 t116).bind fun bt137 => ((impl_SumOfWords.f kj14 t102 t105 t116).bind fun bt139 => ((impl_WeightOf.f kj14 t102 bt139.1).bind fun bt141 => ((impl_DistanceOf.f kj14 t102 t106 t105).bind fun bt143 => ((impl_DistanceOf.f kj14 t102 t105 t108).bind fun bt145 => (if bt135.2 = 0 then (if bt137.2 = 0 then (if bt139.2 = 0 then (if bt141.2 = 0 then (if bt143.2 = 0 then (if bt145.2 = 0 then (if bt135.1 = t106 then (if bt137.1 = 0 then (if bt141.1 = t112 then (if bt143.1 = t112 then (if bt145.1 = t120 then (if ((t112 == 0) != (t105 == t106)) = true then (some false) else (laws_FnWords.j1 kj14 l0)) else (some false)) else (some false)) else (some false)) else (some false)) else (some false)) else (some false)) else (some false)) else (some false)) else (some false)) else (some false)) else (some false)))))))) else (laws_FnWords.j1 kj14 l0)) = some r := by rw [if_neg (show ¬ (false = true) by decide)] at H; exact H
     clear H
     have H := H1
     clear H1
     have HC70 := Aside0.mk H
     clear H
     go_upto_if 199 with (fail)
     go_cut [] (fun wc => ∃ (kq : Nat), Aside0 (laws_FnWords.j1 kq l0 = some r) ∧ Aside0 (kq ≤ kj14) ∧ Aside0 (Kd.R (Kd.int .i64) 2 wc w.heap.size (fun _ => True) (.slice Ao18 t102.length co18) t102) ∧ Aside0 (wc.heap[gb107]? = some (.cells #[(.slice Ao18 t102.length co18)] 26 (0, 0))) ∧ Aside0 (Below w.heap.size w wc))
     case first => as_aux_lemma =>
      have H := HC70.out
      clear HC70
      by_cases c71 : t109 = 0
      ·rw [if_pos c71] at H
       have c71b0 : (t109 == 0) = true := beq_iff_eq.mpr c71
       have c71b1 : (t109 != 0) = false := bne_eq_false_iff_eq.mpr c71
       clear c71
       (first | rw [c71b0] | (simp only [i64_w, i32_w]; rw [c71b0]) | skip)
       replace H := Option.bind_eq_some_iff.mp H
       obtain ⟨⟨t135, t136⟩, A720, H⟩ := H
       replace H : ((impl_SumOfWords.f kj14 t102 t106 t116).bind fun bt137 => ((impl_SumOfWords.f kj14 t102 t105 t116).bind fun bt139 => ((impl_WeightOf.f kj14 t102 bt139.1).bind fun bt141 => ((impl_DistanceOf.f kj14 t102 t106 t105).bind fun bt143 => ((impl_DistanceOf.f kj14 t102 t105 t108).bind fun bt145 => (if t136 = 0 then (if bt137.2 = 0 then (if bt139.2 = 0 then (if bt141.2 = 0 then (if bt143.2 = 0 then (if bt145.2 = 0 then (if t135 = t106 then (if bt137.1 = 0 then (if bt141.1 = t112 then (if bt143.1 = t112 then (if bt145.1 = t120 then (if ((t112 == 0) != (t105 == t106)) = true then (some false) else (laws_FnWords.j1 kj14 l0)) else (some false)) else (some false)) else (some false)) else (some false)) else (some false)) else (some false)) else (some false)) else (some false)) else (some false)) else (some false)) else (some false))))))) = some r := H
       have A72 := Aside0.mk A720
       clear A720
       replace H := Option.bind_eq_some_iff.mp H
       obtain ⟨⟨t137, t138⟩, A730, H⟩ := H
       replace H : ((impl_SumOfWords.f kj14 t102 t105 t116).bind fun bt139 => ((impl_WeightOf.f kj14 t102 bt139.1).bind fun bt141 => ((impl_DistanceOf.f kj14 t102 t106 t105).bind fun bt143 => ((impl_DistanceOf.f kj14 t102 t105 t108).bind fun bt145 => (if t136 = 0 then (if t138 = 0 then (if bt139.2 = 0 then (if bt141.2 = 0 then (if bt143.2 = 0 then (if bt145.2 = 0 then (if t135 = t106 then (if t137 = 0 then (if bt141.1 = t112 then (if bt143.1 = t112 then (if bt145.1 = t120 then (if ((t112 == 0) != (t105 == t106)) = true then (some false) else (laws_FnWords.j1 kj14 l0)) else (some false)) else (some false)) else (some false)) else (some false)) else (some false)) else (some false)) else (some false)) else (some false)) else (some false)) else (some false)) else (some false)))))) = some r := H
       have A73 := Aside0.mk A730
       clear A730
       replace H := Option.bind_eq_some_iff.mp H
       obtain ⟨⟨t139, t140⟩, A740, H⟩ := H
       replace H : ((impl_WeightOf.f kj14 t102 t139).bind fun bt141 => ((impl_DistanceOf.f kj14 t102 t106 t105).bind fun bt143 => ((impl_DistanceOf.f kj14 t102 t105 t108).bind fun bt145 => (if t136 = 0 then (if t138 = 0 then (if t140 = 0 then (if bt141.2 = 0 then (if bt143.2 = 0 then (if bt145.2 = 0 then (if t135 = t106 then (if t137 = 0 then (if bt141.1 = t112 then (if bt143.1 = t112 then (if bt145.1 = t120 then (if ((t112 == 0) != (t105 == t106)) = true then (some false) else (laws_FnWords.j1 kj14 l0)) else (some false)) else (some false)) else (some false)) else (some false)) else (some false)) else (some false)) else (some false)) else (some false)) else (some false)) else (some false)) else (some false))))) = some r := H
       have A74 := Aside0.mk A740
       clear A740
       replace H := Option.bind_eq_some_iff.mp H
       obtain ⟨⟨t141, t142⟩, A750, H⟩ := H
       replace H : ((impl_DistanceOf.f kj14 t102 t106 t105).bind fun bt143 => ((impl_DistanceOf.f kj14 t102 t105 t108).bind fun bt145 => (if t136 = 0 then (if t138 = 0 then (if t140 = 0 then (if t142 = 0 then (if bt143.2 = 0 then (if bt145.2 = 0 then (if t135 = t106 then (if t137 = 0 then (if t141 = t112 then (if bt143.1 = t112 then (if bt145.1 = t120 then (if ((t112 == 0) != (t105 == t106)) = true then (some false) else (laws_FnWords.j1 kj14 l0)) else (some false)) else (some false)) else (some false)) else (some false)) else (some false)) else (some false)) else (some false)) else (some false)) else (some false)) else (some false)) else (some false)))) = some r := H
       have A75 := Aside0.mk A750
       clear A750
       replace H := Option.bind_eq_some_iff.mp H
       obtain ⟨⟨t143, t144⟩, A760, H⟩ := H
       replace H : ((impl_DistanceOf.f kj14 t102 t105 t108).bind fun bt145 => (if t136 = 0 then (if t138 = 0 then (if t140 = 0 then (if t142 = 0 then (if t144 = 0 then (if bt145.2 = 0 then (if t135 = t106 then (if t137 = 0 then (if t141 = t112 then (if t143 = t112 then (if bt145.1 = t120 then (if ((t112 == 0) != (t105 == t106)) = true then (some false) else (laws_FnWords.j1 kj14 l0)) else (some false)) else (some false)) else (some false)) else (some false)) else (some false)) else (some false)) else (some false)) else (some false)) else (some false)) else (some false)) else (some false))) = some r := H
       have A76 := Aside0.mk A760
       clear A760
       replace H := Option.bind_eq_some_iff.mp H
       obtain ⟨⟨t145, t146⟩, A770, H⟩ := H
       replace H : (if t136 = 0 then (if t138 = 0 then (if t140 = 0 then (if t142 = 0 then (if t144 = 0 then (if t146 = 0 then (if t135 = t106 then (if t137 = 0 then (if t141 = t112 then (if t143 = t112 then (if t145 = t120 then (if ((t112 == 0) != (t105 == t106)) = true then (some false) else (laws_FnWords.j1 kj14 l0)) else (some false)) else (some false)) else (some false)) else (some false)) else (some false)) else (some false)) else (some false)) else (some false)) else (some false)) else (some false)) else (some false)) = some r := H
       have A77 := Aside0.mk A770
       clear A770
       by_cases c78 : t136 = 0
       ·rw [if_pos c78] at H
        have c78b0 : (t136 == 0) = true := beq_iff_eq.mpr c78
        have c78b1 : (t136 != 0) = false := bne_eq_false_iff_eq.mpr c78
        clear c78
        by_cases c79 : t138 = 0
        ·rw [if_pos c79] at H
         have c79b0 : (t138 == 0) = true := beq_iff_eq.mpr c79
         have c79b1 : (t138 != 0) = false := bne_eq_false_iff_eq.mpr c79
         clear c79
         by_cases c80 : t140 = 0
         ·rw [if_pos c80] at H
          have c80b0 : (t140 == 0) = true := beq_iff_eq.mpr c80
          have c80b1 : (t140 != 0) = false := bne_eq_false_iff_eq.mpr c80
          clear c80
          by_cases c81 : t142 = 0
          ·rw [if_pos c81] at H
           have c81b0 : (t142 == 0) = true := beq_iff_eq.mpr c81
           have c81b1 : (t142 != 0) = false := bne_eq_false_iff_eq.mpr c81
           clear c81
           by_cases c82 : t144 = 0
           ·rw [if_pos c82] at H
            have c82b0 : (t144 == 0) = true := beq_iff_eq.mpr c82
            have c82b1 : (t144 != 0) = false := bne_eq_false_iff_eq.mpr c82
            clear c82
            by_cases c83 : t146 = 0
            ·rw [if_pos c83] at H
             have c83b0 : (t146 == 0) = true := beq_iff_eq.mpr c83
             have c83b1 : (t146 != 0) = false := bne_eq_false_iff_eq.mpr c83
             clear c83
             by_cases c84 : t135 = t106
             ·rw [if_pos c84] at H
              have c84b0 : (t135 == t106) = true := beq_iff_eq.mpr c84
              have c84b1 : (t135 != t106) = false := bne_eq_false_iff_eq.mpr c84
              clear c84
              by_cases c85 : t137 = 0
              ·rw [if_pos c85] at H
               have c85b0 : (t137 == 0) = true := beq_iff_eq.mpr c85
               have c85b1 : (t137 != 0) = false := bne_eq_false_iff_eq.mpr c85
               clear c85
               by_cases c86 : t141 = t112
               ·rw [if_pos c86] at H
                have c86b0 : (t141 == t112) = true := beq_iff_eq.mpr c86
                have c86b1 : (t141 != t112) = false := bne_eq_false_iff_eq.mpr c86
                clear c86
                by_cases c87 : t143 = t112
                ·rw [if_pos c87] at H
                 have c87b0 : (t143 == t112) = true := beq_iff_eq.mpr c87
                 have c87b1 : (t143 != t112) = false := bne_eq_false_iff_eq.mpr c87
                 clear c87
                 by_cases c88 : t145 = t120
                 ·rw [if_pos c88] at H
                  have c88b0 : (t145 == t120) = true := beq_iff_eq.mpr c88
                  have c88b1 : (t145 != t120) = false := bne_eq_false_iff_eq.mpr c88
                  clear c88
                  by_cases c89 : ((t112 == 0) != (t105 == t106)) = true
                  ·rw [if_pos c89] at H
                   exact laws_FnWords.no hr_ H
                  ·rw [if_neg c89] at H
                   have c89b0 : ((t112 == 0) != (t105 == t106)) = false := by simpa using c89
                   (try (have c89b1 : decide ((t112 == 0) = (t105 == t106)) = true := by simpa using c89))
                   (try (have c89b2 : ((t112 == 0) == (t105 == t106)) = true := by simpa using c89))
                   clear c89
                   have H' := Aside0.mk H
                   clear H
                   have hcz103_0 : wc.cell? ⟨gb107, 0, none⟩ = some (.slice Ao18 t102.length co18) := (blk_cell BK107.out 0).trans rfl
                   have hfz103_0 := blk_frozen BK107.out 0
                   obtain ⟨Ao104, co104, eo104⟩ := Kd.R_slice HO_22.out
                   subst eo104
                   go_wp2_with (first | ((with_reducible refine gate_callee (f := 21) rfl ?_); refine goesL_ (some 203) rfl rfl Try.func21 (by kernel_rfl) rfl #[.agg #[.slice Ao18 t102.length co18], .slice Ao104 t124.length co104] rfl (by (try simp only [List.map_toArray, List.map_cons, List.map_nil]); first | done | rfl | (simp only [List.length_drop, List.length_take]; rfl)) ?_; (with_reducible refine (impl_WordOf.calls kj14 _ _ t102 _ _ t124 t135 t136 _ ?side1 ?side2 ?side3 ?side4 A72.out).mono ?_); (case side1 => repeat (first | exact (Kd.R_reads' HO_108000.out).2.2 | (with_reducible refine Kd.C_alloc ?_ _) | (with_reducible refine Kd.C_drewN ?_ _) | (with_reducible refine Kd.C_drew ?_))); (case side2 => exact (Kd.R_reads' HO_108000.out).2.1); (case side3 => repeat (first | exact (Kd.R_reads' HO_22.out).2.2 | (with_reducible refine Kd.C_alloc ?_ _) | (with_reducible refine Kd.C_drewN ?_ _) | (with_reducible refine Kd.C_drew ?_))); (case side4 => exact (Kd.R_reads' HO_22.out).2.1); rintro e w105 ⟨rfl, hb⟩; refine ⟨_, rfl, ?_⟩; have n0_ := Aside0.mk (Kd.R_below (rb_ HO_22.out) hb); have n1_ := Aside0.mk (Kd.R_below (rb_ HO_108000.out) hb); have n2_ := Aside0.mk (blk_below (g := gb107) (o := .cells #[.slice Ao18 t102.length co18] 26 (0, 0)) (bb_ BK107.out) hb); have n3_ := Aside0.mk (below_step (gb_ HB.out) hb); clear HO_22 HO_108000 BK107 HB; have HO_22 := n0_; have HO_108000 := n1_; have BK107 := n2_; have HB := n3_; clear n0_ n1_ n2_ n3_; (try clear hb); (try clear hb2); (try clear hk); (try clear hi); have hcz106_0 : w105.cell? ⟨gb107, 0, none⟩ = some (.slice Ao18 t102.length co18) := (blk_cell BK107.out 0).trans rfl; have hfz106_0 := blk_frozen BK107.out 0) | ((with_reducible refine gate_callee (f := 8) rfl ?_); refine goesL_ (some 210) rfl rfl Try.func8 (by kernel_rfl) rfl #[.agg #[.slice Ao18 t102.length co18], .int .i64 t106, .int .i64 t116] rfl (by (try simp only [List.map_toArray, List.map_cons, List.map_nil]); first | done | rfl | (simp only [List.length_drop, List.length_take]; rfl)) ?_; (with_reducible refine (impl_SumOfWords.calls kj14 _ _ t102 t106 t116 t137 t138 _ ?side1 ?side2 A73.out).mono ?_); (case side1 => repeat (first | exact (Kd.R_reads' HO_108000.out).2.2 | (with_reducible refine Kd.C_alloc ?_ _) | (with_reducible refine Kd.C_drewN ?_ _) | (with_reducible refine Kd.C_drew ?_))); (case side2 => exact (Kd.R_reads' HO_108000.out).2.1); rintro e w107 ⟨rfl, hb⟩; refine ⟨_, rfl, ?_⟩; have n0_ := Aside0.mk (Kd.R_below (rb_ HO_22.out) hb); have n1_ := Aside0.mk (Kd.R_below (rb_ HO_108000.out) hb); have n2_ := Aside0.mk (blk_below (g := gb107) (o := .cells #[.slice Ao18 t102.length co18] 26 (0, 0)) (bb_ BK107.out) hb); have n3_ := Aside0.mk (below_step (gb_ HB.out) hb); clear HO_22 HO_108000 BK107 HB; have HO_22 := n0_; have HO_108000 := n1_; have BK107 := n2_; have HB := n3_; clear n0_ n1_ n2_ n3_; (try clear hb); (try clear hb2); (try clear hk); (try clear hi); have hcz108_0 : w107.cell? ⟨gb107, 0, none⟩ = some (.slice Ao18 t102.length co18) := (blk_cell BK107.out 0).trans rfl; have hfz108_0 := blk_frozen BK107.out 0) | ((with_reducible refine gate_callee (f := 8) rfl ?_); refine goesL_ (some 217) rfl rfl Try.func8 (by kernel_rfl) rfl #[.agg #[.slice Ao18 t102.length co18], .int .i64 t105, .int .i64 t116] rfl (by (try simp only [List.map_toArray, List.map_cons, List.map_nil]); first | done | rfl | (simp only [List.length_drop, List.length_take]; rfl)) ?_; (with_reducible refine (impl_SumOfWords.calls kj14 _ _ t102 t105 t116 t139 t140 _ ?side1 ?side2 A74.out).mono ?_); (case side1 => repeat (first | exact (Kd.R_reads' HO_108000.out).2.2 | (with_reducible refine Kd.C_alloc ?_ _) | (with_reducible refine Kd.C_drewN ?_ _) | (with_reducible refine Kd.C_drew ?_))); (case side2 => exact (Kd.R_reads' HO_108000.out).2.1); rintro e w109 ⟨rfl, hb⟩; refine ⟨_, rfl, ?_⟩; have n0_ := Aside0.mk (Kd.R_below (rb_ HO_22.out) hb); have n1_ := Aside0.mk (Kd.R_below (rb_ HO_108000.out) hb); have n2_ := Aside0.mk (blk_below (g := gb107) (o := .cells #[.slice Ao18 t102.length co18] 26 (0, 0)) (bb_ BK107.out) hb); have n3_ := Aside0.mk (below_step (gb_ HB.out) hb); clear HO_22 HO_108000 BK107 HB; have HO_22 := n0_; have HO_108000 := n1_; have BK107 := n2_; have HB := n3_; clear n0_ n1_ n2_ n3_; (try clear hb); (try clear hb2); (try clear hk); (try clear hi); have hcz110_0 : w109.cell? ⟨gb107, 0, none⟩ = some (.slice Ao18 t102.length co18) := (blk_cell BK107.out 0).trans rfl; have hfz110_0 := blk_frozen BK107.out 0) | ((with_reducible refine gate_callee (f := 14) rfl ?_); refine goesL_ (some 223) rfl rfl Try.func14 (by kernel_rfl) rfl #[.agg #[.slice Ao18 t102.length co18], .int .i64 t139] rfl (by (try simp only [List.map_toArray, List.map_cons, List.map_nil]); first | done | rfl | (simp only [List.length_drop, List.length_take]; rfl)) ?_; (with_reducible refine (impl_WeightOf.calls kj14 _ _ t102 t139 t141 t142 _ ?side1 ?side2 A75.out).mono ?_); (case side1 => repeat (first | exact (Kd.R_reads' HO_108000.out).2.2 | (with_reducible refine Kd.C_alloc ?_ _) | (with_reducible refine Kd.C_drewN ?_ _) | (with_reducible refine Kd.C_drew ?_))); (case side2 => exact (Kd.R_reads' HO_108000.out).2.1); rintro e w111 ⟨rfl, hb⟩; refine ⟨_, rfl, ?_⟩; have n0_ := Aside0.mk (Kd.R_below (rb_ HO_22.out) hb); have n1_ := Aside0.mk (Kd.R_below (rb_ HO_108000.out) hb); have n2_ := Aside0.mk (blk_below (g := gb107) (o := .cells #[.slice Ao18 t102.length co18] 26 (0, 0)) (bb_ BK107.out) hb); have n3_ := Aside0.mk (below_step (gb_ HB.out) hb); clear HO_22 HO_108000 BK107 HB; have HO_22 := n0_; have HO_108000 := n1_; have BK107 := n2_; have HB := n3_; clear n0_ n1_ n2_ n3_; (try clear hb); (try clear hb2); (try clear hk); (try clear hi); have hcz112_0 : w111.cell? ⟨gb107, 0, none⟩ = some (.slice Ao18 t102.length co18) := (blk_cell BK107.out 0).trans rfl; have hfz112_0 := blk_frozen BK107.out 0) | ((with_reducible refine gate_callee (f := 10) rfl ?_); refine goesL_ (some 230) rfl rfl Try.func10 (by kernel_rfl) rfl #[.agg #[.slice Ao18 t102.length co18], .int .i64 t106, .int .i64 t105] rfl (by (try simp only [List.map_toArray, List.map_cons, List.map_nil]); first | done | rfl | (simp only [List.length_drop, List.length_take]; rfl)) ?_; (with_reducible refine (impl_DistanceOf.calls kj14 _ _ t102 t106 t105 t143 t144 _ ?side1 ?side2 A76.out).mono ?_); (case side1 => repeat (first | exact (Kd.R_reads' HO_108000.out).2.2 | (with_reducible refine Kd.C_alloc ?_ _) | (with_reducible refine Kd.C_drewN ?_ _) | (with_reducible refine Kd.C_drew ?_))); (case side2 => exact (Kd.R_reads' HO_108000.out).2.1); rintro e w113 ⟨rfl, hb⟩; refine ⟨_, rfl, ?_⟩; have n0_ := Aside0.mk (Kd.R_below (rb_ HO_22.out) hb); have n1_ := Aside0.mk (Kd.R_below (rb_ HO_108000.out) hb); have n2_ := Aside0.mk (blk_below (g := gb107) (o := .cells #[.slice Ao18 t102.length co18] 26 (0, 0)) (bb_ BK107.out) hb); have n3_ := Aside0.mk (below_step (gb_ HB.out) hb); clear HO_22 HO_108000 BK107 HB; have HO_22 := n0_; have HO_108000 := n1_; have BK107 := n2_; have HB := n3_; clear n0_ n1_ n2_ n3_; (try clear hb); (try clear hb2); (try clear hk); (try clear hi); have hcz114_0 : w113.cell? ⟨gb107, 0, none⟩ = some (.slice Ao18 t102.length co18) := (blk_cell BK107.out 0).trans rfl; have hfz114_0 := blk_frozen BK107.out 0) | ((with_reducible refine gate_callee (f := 10) rfl ?_); refine goesL_ (some 237) rfl rfl Try.func10 (by kernel_rfl) rfl #[.agg #[.slice Ao18 t102.length co18], .int .i64 t105, .int .i64 t108] rfl (by (try simp only [List.map_toArray, List.map_cons, List.map_nil]); first | done | rfl | (simp only [List.length_drop, List.length_take]; rfl)) ?_; (with_reducible refine (impl_DistanceOf.calls kj14 _ _ t102 t105 t108 t145 t146 _ ?side1 ?side2 A77.out).mono ?_); (case side1 => repeat (first | exact (Kd.R_reads' HO_108000.out).2.2 | (with_reducible refine Kd.C_alloc ?_ _) | (with_reducible refine Kd.C_drewN ?_ _) | (with_reducible refine Kd.C_drew ?_))); (case side2 => exact (Kd.R_reads' HO_108000.out).2.1); rintro e w115 ⟨rfl, hb⟩; refine ⟨_, rfl, ?_⟩; have n0_ := Aside0.mk (Kd.R_below (rb_ HO_22.out) hb); have n1_ := Aside0.mk (Kd.R_below (rb_ HO_108000.out) hb); have n2_ := Aside0.mk (blk_below (g := gb107) (o := .cells #[.slice Ao18 t102.length co18] 26 (0, 0)) (bb_ BK107.out) hb); have n3_ := Aside0.mk (below_step (gb_ HB.out) hb); clear HO_22 HO_108000 BK107 HB; have HO_22 := n0_; have HO_108000 := n1_; have BK107 := n2_; have HB := n3_; clear n0_ n1_ n2_ n3_; (try clear hb); (try clear hb2); (try clear hk); (try clear hi)))
                   go_meet
                   case rel => exact ⟨_, H', ⟨by have := HJ14.out; first | omega | exact Nat.le_refl _⟩, ⟨by (with_reducible repeat (first | apply Kd.R_alloc | apply Kd.R_drewN | apply Kd.R_drew)); exact Kd.R_mono HO_108000.out (fun _ hk => trivial)⟩, ⟨by (with_reducible repeat (first | refine blk_drewN ?_ _ | refine blk_drew ?_ | refine blk_alloc ?_ _)); exact BK107.out⟩, ⟨gb_ HB.out⟩⟩
                 ·rw [if_neg c88] at H
                  exact laws_FnWords.no hr_ H
                ·rw [if_neg c87] at H
                 exact laws_FnWords.no hr_ H
               ·rw [if_neg c86] at H
                exact laws_FnWords.no hr_ H
              ·rw [if_neg c85] at H
               exact laws_FnWords.no hr_ H
             ·rw [if_neg c84] at H
              exact laws_FnWords.no hr_ H
            ·rw [if_neg c83] at H
             exact laws_FnWords.no hr_ H
           ·rw [if_neg c82] at H
            exact laws_FnWords.no hr_ H
          ·rw [if_neg c81] at H
           exact laws_FnWords.no hr_ H
         ·rw [if_neg c80] at H
          exact laws_FnWords.no hr_ H
        ·rw [if_neg c79] at H
         exact laws_FnWords.no hr_ H
       ·rw [if_neg c78] at H
        exact laws_FnWords.no hr_ H
      ·rw [if_neg c71] at H
       have c71b0 : (t109 == 0) = false := beq_eq_false_iff_ne.mpr c71
       have c71b1 : (t109 != 0) = true := bne_iff_ne.mpr c71
       (first | rw [c71b0] | (simp only [i64_w, i32_w]; rw [c71b0]) | skip)
       have H' := Aside0.mk H
       clear H
       go_wp2
       go_meet
       case rel => exact ⟨_, H', ⟨by have := HJ14.out; first | omega | exact Nat.le_refl _⟩, ⟨by (with_reducible repeat (first | apply Kd.R_alloc | apply Kd.R_drewN | apply Kd.R_drew)); exact Kd.R_mono HO_108000.out (fun _ hk => trivial)⟩, ⟨by (with_reducible repeat (first | refine blk_drewN ?_ _ | refine blk_drew ?_ | refine blk_alloc ?_ _)); exact BK107.out⟩, ⟨gb_ HB.out⟩⟩
     case rest => as_aux_lemma =>
      clear HC70
      try clear c1
      try clear c2
      try clear p2
      try clear c3
      try clear c6
      try clear c7
      try clear c8
      try clear c10
      try clear c14
      try clear c21
      try clear c39
      try clear c39b0
      try clear c39b1
      try clear c69
      try clear c71
      try clear c71b0
      try clear c71b1
      try clear c78
      try clear c78b0
      try clear c78b1
      try clear c79
      try clear c79b0
      try clear c79b1
      try clear c80
      try clear c80b0
      try clear c80b1
      try clear c81
      try clear c81b0
      try clear c81b1
      try clear c82
      try clear c82b0
      try clear c82b1
      try clear c83
      try clear c83b0
      try clear c83b1
      try clear c84
      try clear c84b0
      try clear c84b1
      try clear c85
      try clear c85b0
      try clear c85b1
      try clear c86
      try clear c86b0
      try clear c86b1
      try clear c87
      try clear c87b0
      try clear c87b1
      try clear c88
      try clear c88b0
      try clear c88b1
      try clear c89
      try clear c89b0
      try clear c89b1
      try clear c89b2
      try clear hcz101_0
      try clear hcz103_0
      try clear hcz106_0
      try clear hcz108_0
      try clear hcz110_0
      try clear hcz112_0
      try clear hcz114_0
      try clear hcz116_0
      try clear hcz119_0
      try clear hcz121_0
      try clear hcz123_0
      try clear hcz125_0
      try clear hcz127_0
      try clear hcz129_0
      try clear hcz132_0
      try clear hcz134_0
      try clear hcz136_0
      try clear hcz138_0
      try clear hcz140_0
      try clear hcz142_0
      try clear hcz145_0
      try clear hcz147_0
      try clear hcz149_0
      try clear hcz151_0
      try clear hcz153_0
      try clear hcz155_0
      try clear hcz158_0
      try clear hcz160_0
      try clear hcz162_0
      try clear hcz164_0
      try clear hcz166_0
      try clear hcz168_0
      try clear hcz171_0
      try clear hcz173_0
      try clear hcz175_0
      try clear hcz177_0
      try clear hcz179_0
      try clear hcz181_0
      try clear hcz184_0
      try clear hcz186_0
      try clear hcz188_0
      try clear hcz190_0
      try clear hcz192_0
      try clear hcz194_0
      try clear hcz197_0
      try clear hcz199_0
      try clear hcz201_0
      try clear hcz203_0
      try clear hcz205_0
      try clear hcz207_0
      try clear hcz210_0
      try clear hcz212_0
      try clear hcz214_0
      try clear hcz216_0
      try clear hcz218_0
      try clear hcz220_0
      try clear hcz223_0
      try clear hcz225_0
      try clear hcz227_0
      try clear hcz229_0
      try clear hcz231_0
      try clear hcz233_0
      try clear hcz236_0
      try clear hcz238_0
      try clear hcz240_0
      try clear hcz242_0
      try clear hcz244_0
      try clear hcz246_0
      try clear hcz249_0
      try clear hcz251_0
      try clear hcz253_0
      try clear hcz255_0
      try clear hcz257_0
      try clear hcz90_0
      try clear hcz93_0
      try clear hcz95_0
      try clear hcz97_0
      try clear hcz99_0
      try clear hfz101_0
      try clear hfz103_0
      try clear hfz106_0
      try clear hfz108_0
      try clear hfz110_0
      try clear hfz112_0
      try clear hfz114_0
      try clear hfz116_0
      try clear hfz119_0
      try clear hfz121_0
      try clear hfz123_0
      try clear hfz125_0
      try clear hfz127_0
      try clear hfz129_0
      try clear hfz132_0
      try clear hfz134_0
      try clear hfz136_0
      try clear hfz138_0
      try clear hfz140_0
      try clear hfz142_0
      try clear hfz145_0
      try clear hfz147_0
      try clear hfz149_0
      try clear hfz151_0
      try clear hfz153_0
      try clear hfz155_0
      try clear hfz158_0
      try clear hfz160_0
      try clear hfz162_0
      try clear hfz164_0
      try clear hfz166_0
      try clear hfz168_0
      try clear hfz171_0
      try clear hfz173_0
      try clear hfz175_0
      try clear hfz177_0
      try clear hfz179_0
      try clear hfz181_0
      try clear hfz184_0
      try clear hfz186_0
      try clear hfz188_0
      try clear hfz190_0
      try clear hfz192_0
      try clear hfz194_0
      try clear hfz197_0
      try clear hfz199_0
      try clear hfz201_0
      try clear hfz203_0
      try clear hfz205_0
      try clear hfz207_0
      try clear hfz210_0
      try clear hfz212_0
      try clear hfz214_0
      try clear hfz216_0
      try clear hfz218_0
      try clear hfz220_0
      try clear hfz223_0
      try clear hfz225_0
      try clear hfz227_0
      try clear hfz229_0
      try clear hfz231_0
      try clear hfz233_0
      try clear hfz236_0
      try clear hfz238_0
      try clear hfz240_0
      try clear hfz242_0
      try clear hfz244_0
      try clear hfz246_0
      try clear hfz249_0
      try clear hfz251_0
      try clear hfz253_0
      try clear hfz255_0
      try clear hfz257_0
      try clear hfz90_0
      try clear hfz93_0
      try clear hfz95_0
      try clear hfz97_0
      try clear hfz99_0
      try clear p2
      obtain ⟨kq, HA, HJ69, HO_108000, BK107, HB⟩ := hcut
      cases kq with
      | zero => exact absurd HA.out (by simp [laws_FnWords.j1])
      | succ kj69 =>
       have H := HA.out
       clear HA
       simp only [laws_FnWords.j1] at H
       replace H := Option.bind_eq_some_iff.mp H
       obtain ⟨⟨t147, t150, t151⟩, A2590, H⟩ := H
       replace H : ((impl_BallOf.f kj69 t147 t150 t151).bind fun bt153 => ((spec_BallOf.f kj69 t147 t150 t151).bind fun bt157 => ((impl_SphereOf.f t147 t150 t151).bind fun bt161 => ((spec_SphereOf.f kj69 t147 t150 t151).bind fun bt165 => ((impl_BallSize.f kj69 t147 t151).bind fun bt169 => ((spec_BallSize.f kj69 t147 t151).bind fun bt171 => (if bt153.2 = bt157.2 then ((laws_likeInts.f kj69 bt153.1 bt157.1).bind fun t173 => (if t173 = true then (if bt161.2 = bt165.2 then ((laws_likeInts.f kj69 bt161.1 bt165.1).bind fun t174 => (if t174 = true then (if bt169.2 = bt171.2 then (laws_FnWords.j2 kj69 l0 bt153.1 bt153.2 bt161.1 bt169.1 (bt169.1 != bt171.1)) else (laws_FnWords.j2 kj69 l0 bt153.1 bt153.2 bt161.1 bt169.1 true)) else (laws_FnWords.j2 kj69 l0 bt153.1 bt153.2 bt161.1 bt169.1 true))) else (laws_FnWords.j2 kj69 l0 bt153.1 bt153.2 bt161.1 bt169.1 true)) else (laws_FnWords.j2 kj69 l0 bt153.1 bt153.2 bt161.1 bt169.1 true))) else (laws_FnWords.j2 kj69 l0 bt153.1 bt153.2 bt161.1 bt169.1 true)))))))) = some r := H
       have A259 := Aside0.mk A2590
       clear A2590
       replace H := Option.bind_eq_some_iff.mp H
       obtain ⟨⟨t153, t156⟩, A2600, H⟩ := H
       replace H : ((spec_BallOf.f kj69 t147 t150 t151).bind fun bt157 => ((impl_SphereOf.f t147 t150 t151).bind fun bt161 => ((spec_SphereOf.f kj69 t147 t150 t151).bind fun bt165 => ((impl_BallSize.f kj69 t147 t151).bind fun bt169 => ((spec_BallSize.f kj69 t147 t151).bind fun bt171 => (if t156 = bt157.2 then ((laws_likeInts.f kj69 t153 bt157.1).bind fun t173 => (if t173 = true then (if bt161.2 = bt165.2 then ((laws_likeInts.f kj69 bt161.1 bt165.1).bind fun t174 => (if t174 = true then (if bt169.2 = bt171.2 then (laws_FnWords.j2 kj69 l0 t153 t156 bt161.1 bt169.1 (bt169.1 != bt171.1)) else (laws_FnWords.j2 kj69 l0 t153 t156 bt161.1 bt169.1 true)) else (laws_FnWords.j2 kj69 l0 t153 t156 bt161.1 bt169.1 true))) else (laws_FnWords.j2 kj69 l0 t153 t156 bt161.1 bt169.1 true)) else (laws_FnWords.j2 kj69 l0 t153 t156 bt161.1 bt169.1 true))) else (laws_FnWords.j2 kj69 l0 t153 t156 bt161.1 bt169.1 true))))))) = some r := H
       have A260 := Aside0.mk A2600
       clear A2600
       replace H := Option.bind_eq_some_iff.mp H
       obtain ⟨⟨t157, t160⟩, A2610, H⟩ := H
       replace H : ((impl_SphereOf.f t147 t150 t151).bind fun bt161 => ((spec_SphereOf.f kj69 t147 t150 t151).bind fun bt165 => ((impl_BallSize.f kj69 t147 t151).bind fun bt169 => ((spec_BallSize.f kj69 t147 t151).bind fun bt171 => (if t156 = t160 then ((laws_likeInts.f kj69 t153 t157).bind fun t173 => (if t173 = true then (if bt161.2 = bt165.2 then ((laws_likeInts.f kj69 bt161.1 bt165.1).bind fun t174 => (if t174 = true then (if bt169.2 = bt171.2 then (laws_FnWords.j2 kj69 l0 t153 t156 bt161.1 bt169.1 (bt169.1 != bt171.1)) else (laws_FnWords.j2 kj69 l0 t153 t156 bt161.1 bt169.1 true)) else (laws_FnWords.j2 kj69 l0 t153 t156 bt161.1 bt169.1 true))) else (laws_FnWords.j2 kj69 l0 t153 t156 bt161.1 bt169.1 true)) else (laws_FnWords.j2 kj69 l0 t153 t156 bt161.1 bt169.1 true))) else (laws_FnWords.j2 kj69 l0 t153 t156 bt161.1 bt169.1 true)))))) = some r := H
       have A261 := Aside0.mk A2610
       clear A2610
       replace H := Option.bind_eq_some_iff.mp H
       obtain ⟨⟨t161, t164⟩, A2620, H⟩ := H
       replace H : ((spec_SphereOf.f kj69 t147 t150 t151).bind fun bt165 => ((impl_BallSize.f kj69 t147 t151).bind fun bt169 => ((spec_BallSize.f kj69 t147 t151).bind fun bt171 => (if t156 = t160 then ((laws_likeInts.f kj69 t153 t157).bind fun t173 => (if t173 = true then (if t164 = bt165.2 then ((laws_likeInts.f kj69 t161 bt165.1).bind fun t174 => (if t174 = true then (if bt169.2 = bt171.2 then (laws_FnWords.j2 kj69 l0 t153 t156 t161 bt169.1 (bt169.1 != bt171.1)) else (laws_FnWords.j2 kj69 l0 t153 t156 t161 bt169.1 true)) else (laws_FnWords.j2 kj69 l0 t153 t156 t161 bt169.1 true))) else (laws_FnWords.j2 kj69 l0 t153 t156 t161 bt169.1 true)) else (laws_FnWords.j2 kj69 l0 t153 t156 t161 bt169.1 true))) else (laws_FnWords.j2 kj69 l0 t153 t156 t161 bt169.1 true))))) = some r := H
       have A262 := Aside0.mk A2620
       clear A2620
       replace H := Option.bind_eq_some_iff.mp H
       obtain ⟨⟨t165, t168⟩, A2630, H⟩ := H
       replace H : ((impl_BallSize.f kj69 t147 t151).bind fun bt169 => ((spec_BallSize.f kj69 t147 t151).bind fun bt171 => (if t156 = t160 then ((laws_likeInts.f kj69 t153 t157).bind fun t173 => (if t173 = true then (if t164 = t168 then ((laws_likeInts.f kj69 t161 t165).bind fun t174 => (if t174 = true then (if bt169.2 = bt171.2 then (laws_FnWords.j2 kj69 l0 t153 t156 t161 bt169.1 (bt169.1 != bt171.1)) else (laws_FnWords.j2 kj69 l0 t153 t156 t161 bt169.1 true)) else (laws_FnWords.j2 kj69 l0 t153 t156 t161 bt169.1 true))) else (laws_FnWords.j2 kj69 l0 t153 t156 t161 bt169.1 true)) else (laws_FnWords.j2 kj69 l0 t153 t156 t161 bt169.1 true))) else (laws_FnWords.j2 kj69 l0 t153 t156 t161 bt169.1 true)))) = some r := H
       have A263 := Aside0.mk A2630
       clear A2630
       replace H := Option.bind_eq_some_iff.mp H
       obtain ⟨⟨t169, t170⟩, A2640, H⟩ := H
       replace H : ((spec_BallSize.f kj69 t147 t151).bind fun bt171 => (if t156 = t160 then ((laws_likeInts.f kj69 t153 t157).bind fun t173 => (if t173 = true then (if t164 = t168 then ((laws_likeInts.f kj69 t161 t165).bind fun t174 => (if t174 = true then (if t170 = bt171.2 then (laws_FnWords.j2 kj69 l0 t153 t156 t161 t169 (t169 != bt171.1)) else (laws_FnWords.j2 kj69 l0 t153 t156 t161 t169 true)) else (laws_FnWords.j2 kj69 l0 t153 t156 t161 t169 true))) else (laws_FnWords.j2 kj69 l0 t153 t156 t161 t169 true)) else (laws_FnWords.j2 kj69 l0 t153 t156 t161 t169 true))) else (laws_FnWords.j2 kj69 l0 t153 t156 t161 t169 true))) = some r := H
       have A264 := Aside0.mk A2640
       clear A2640
       replace H := Option.bind_eq_some_iff.mp H
       obtain ⟨⟨t171, t172⟩, A2650, H⟩ := H
       replace H : (if t156 = t160 then ((laws_likeInts.f kj69 t153 t157).bind fun t173 => (if t173 = true then (if t164 = t168 then ((laws_likeInts.f kj69 t161 t165).bind fun t174 => (if t174 = true then (if t170 = t172 then (laws_FnWords.j2 kj69 l0 t153 t156 t161 t169 (t169 != t171)) else (laws_FnWords.j2 kj69 l0 t153 t156 t161 t169 true)) else (laws_FnWords.j2 kj69 l0 t153 t156 t161 t169 true))) else (laws_FnWords.j2 kj69 l0 t153 t156 t161 t169 true)) else (laws_FnWords.j2 kj69 l0 t153 t156 t161 t169 true))) else (laws_FnWords.j2 kj69 l0 t153 t156 t161 t169 true)) = some r := H
       have A265 := Aside0.mk A2650
       clear A2650
       have HC266 := Aside0.mk H
       clear H
       go_upto_region 32 with (first | ((with_reducible refine gate_callee (f := 22) rfl ?_); refine goesL_ (some 296) rfl rfl Try.func22 (by kernel_rfl) rfl #[.slice A0 l0.length c0] rfl (by (try simp only [List.map_toArray, List.map_cons, List.map_nil]); first | done | rfl | (simp only [List.length_drop, List.length_take]; rfl)) ?_; (with_reducible refine (spec_DrawBallOf.calls kj69 _ _ l0 t147 t150 t151 _ ?side1 ?side2 A259.out).mono ?_); (case side1 => repeat (first | exact (Kd.C_below HR0.out HB.out) | (with_reducible refine Kd.C_alloc ?_ _) | (with_reducible refine Kd.C_drewN ?_ _) | (with_reducible refine Kd.C_drew ?_))); (case side2 => exact HC0.out); rintro e w267 ⟨v148, rfl, ho0, hb⟩; refine ⟨_, rfl, ?_⟩; have n0_ := Aside0.mk (Kd.R_elder' (rb_ HO_108000.out) (Kd.R_base ho0) hb); have n1_ := Aside0.mk (Kd.R_lower (Kd.R_new' ho0 (Kd.R_lt (rb_ HO_108000.out))) (below_size (gb_ HB.out))); have n2_ := Aside0.mk (blk_below (g := gb107) (o := .cells #[.slice Ao18 t102.length co18] 26 (0, 0)) (bb_ BK107.out) hb); have n3_ := Aside0.mk (below_step (gb_ HB.out) hb); clear HO_108000 BK107 HB; have HO_108000 := n0_; have HO149 := n1_; have BK107 := n2_; have HB := n3_; clear n0_ n1_ n2_ n3_; (try clear hb); (try clear hb2); (try clear hk); (try clear hi); (try clear ho0)) | ((with_reducible refine gate_dst (N := 38) rfl ?_); refine box_event ?hg (N := 38) ?hd (cs := #[.slice none 0 0]) (t := 26) ?hr ?_; (case hd => rfl); (case hg => rfl); (case hr => first | (go_simp; done) | (go_simp; rfl)); intro gb152 hg w268 hbox hb; have n0_ := Aside0.mk (Kd.R_below (rb_ HO_108000.out) hb); have n1_ := Aside0.mk (Kd.R_below (rb_ HO149.out) hb); have n2_ := Aside0.mk (blk_below (g := gb107) (o := .cells #[.slice Ao18 t102.length co18] 26 (0, 0)) (bb_ BK107.out) hb); have n3_ := Aside0.mk (below_step (gb_ HB.out) hb); have n4_ := Aside0.mk (hbox); have n5_ := Aside0.mk ((by rw [hg]; exact (below_size (gb_ HB.out)) : w.heap.size ≤ gb152)); have n6_ := Aside0.mk ((by rw [hg]; exact (below_size (gb_ HB.out)) : w.heap.size ≤ gb152)); have n7_ := Aside0.mk ((by rw [hg]; exact Nat.ne_of_lt (blk_lt (g := gb107) (o := .cells #[.slice Ao18 t102.length co18] 26 (0, 0)) (bb_ BK107.out)) : gb107 ≠ gb152)); have n8_ := Aside0.mk ((by rw [hg]; exact Nat.ne_of_gt (blk_lt (g := gb107) (o := .cells #[.slice Ao18 t102.length co18] 26 (0, 0)) (bb_ BK107.out)) : gb152 ≠ gb107)); clear HO_108000 HO149 BK107 HB; have HO_108000 := n0_; have HO149 := n1_; have BK107 := n2_; have HB := n3_; have BK152 := n4_; have GW152 := n5_; have GE152 := n6_; have NB107_152 := n7_; have NB152_107 := n8_; clear n0_ n1_ n2_ n3_ n4_ n5_ n6_ n7_ n8_ hb hbox hg; obtain ⟨Ao269, co269, eo269⟩ := Kd.R_slice HO149.out; subst eo269; have hnb270 := NB152_107.out; have hnc270 := NB107_152.out; have hcz271_0 : w268.cell? ⟨gb152, 0, none⟩ = some (.slice none 0 0) := (blk_cell BK152.out 0).trans rfl; have hfz271_0 := blk_frozen BK152.out 0) | ((with_reducible refine gate_callee (f := 23) rfl ?_); refine goesL_ (some 304) rfl rfl Try.func23 (by kernel_rfl) rfl #[.agg #[.slice Ao269 t147.length co269], .int .i64 t150, .int .i64 t151] rfl (by (try simp only [List.map_toArray, List.map_cons, List.map_nil]); first | done | rfl | (simp only [List.length_drop, List.length_take]; rfl)) ?_; (with_reducible refine (impl_BallOf.calls kj69 _ _ t147 t150 t151 t153 t156 _ ?side1 ?side2 A260.out).mono ?_); (case side1 => refine (Kd.R_reads' (e := 2) (base := w.heap.size) (ok := fun _ => True) (n := t147.length) (c := co269) ?_).2.2; exact (rb_ (Kd.R_mono (Kd.R_far (p := ⟨gb152, 0, none⟩) (Kd.R_types HO149.out BK152.out (by decide)) (fun _ hk => hk.2) (.slice Ao269 t147.length co269)) (fun _ _ => trivial)))); (case side2 => exact (Kd.R_reads' HO149.out).2.1); rintro e w272 ⟨v154, rfl, ho0, hb⟩; refine ⟨_, rfl, ?_⟩; have n0_ := Aside0.mk (Kd.R_elder' (rb_ (Kd.R_mono (Kd.R_far (p := ⟨gb152, 0, none⟩) (Kd.R_types HO_108000.out BK152.out (by decide)) (fun _ hk => hk.2) (.slice Ao269 t147.length co269)) (fun _ h_ => h_.1))) (Kd.R_base ho0) hb); have n1_ := Aside0.mk (Kd.R_elder' (rb_ (Kd.R_mono (Kd.R_far (p := ⟨gb152, 0, none⟩) (Kd.R_types HO149.out BK152.out (by decide)) (fun _ hk => hk.2) (.slice Ao269 t147.length co269)) (fun _ h_ => h_.1))) (Kd.R_base ho0) hb); have n2_ := Aside0.mk (Kd.R_lower (Kd.R_new' (Kd.R_new' ho0 (Kd.R_lt (rb_ (Kd.R_mono (Kd.R_far (p := ⟨gb152, 0, none⟩) (Kd.R_types HO_108000.out BK152.out (by decide)) (fun _ hk => hk.2) (.slice Ao269 t147.length co269)) (fun _ h_ => h_.1))))) (Kd.R_lt (rb_ (Kd.R_mono (Kd.R_far (p := ⟨gb152, 0, none⟩) (Kd.R_types HO149.out BK152.out (by decide)) (fun _ hk => hk.2) (.slice Ao269 t147.length co269)) (fun _ h_ => h_.1))))) (below_size (gb_ HB.out))); have n3_ := Aside0.mk (blk_below (g := gb107) (o := .cells #[.slice Ao18 t102.length co18] 26 (0, 0)) (by (with_reducible repeat (first | refine blk_drewN ?_ _ | refine blk_drew ?_ | refine blk_alloc ?_ _)); refine blk_far ?_ NB107_152.out _; (with_reducible repeat (first | refine blk_drewN ?_ _ | refine blk_drew ?_ | refine blk_alloc ?_ _)); exact BK107.out) hb); have n4_ := Aside0.mk (blk_below (g := gb152) (o := .cells #[.slice Ao269 t147.length co269] 26 (0, 0)) (by (with_reducible repeat (first | refine blk_drewN ?_ _ | refine blk_drew ?_ | refine blk_alloc ?_ _)); refine blk_put (cs := #[.slice none 0 0]) ?_ 0 _ rfl; (with_reducible repeat (first | refine blk_drewN ?_ _ | refine blk_drew ?_ | refine blk_alloc ?_ _)); exact BK152.out) hb); have n5_ := Aside0.mk (below_step (gb_ HB.out) hb); clear HO_108000 HO149 BK107 BK152 HB; have HO_108000 := n0_; have HO149 := n1_; have HO155 := n2_; have BK107 := n3_; have BK152 := n4_; have HB := n5_; clear n0_ n1_ n2_ n3_ n4_ n5_; (try clear hb); (try clear hb2); (try clear hk); (try clear hi); (try clear ho0); have hcz273_0 : w272.cell? ⟨gb152, 0, none⟩ = some (.slice Ao269 t147.length co269) := (blk_cell BK152.out 0).trans rfl; have hfz273_0 := blk_frozen BK152.out 0) | ((with_reducible refine gate_callee (f := 24) rfl ?_); refine goesL_ (some 311) rfl rfl Try.func24 (by kernel_rfl) rfl #[.agg #[.slice Ao269 t147.length co269], .int .i64 t150, .int .i64 t151] rfl (by (try simp only [List.map_toArray, List.map_cons, List.map_nil]); first | done | rfl | (simp only [List.length_drop, List.length_take]; rfl)) ?_; (with_reducible refine (spec_BallOf.calls kj69 _ _ t147 t150 t151 t157 t160 _ ?side1 ?side2 A261.out).mono ?_); (case side1 => repeat (first | exact (Kd.R_reads' HO149.out).2.2 | (with_reducible refine Kd.C_alloc ?_ _) | (with_reducible refine Kd.C_drewN ?_ _) | (with_reducible refine Kd.C_drew ?_))); (case side2 => exact (Kd.R_reads' HO149.out).2.1); rintro e w274 ⟨v158, rfl, ho0, hb⟩; refine ⟨_, rfl, ?_⟩; have n0_ := Aside0.mk (Kd.R_elder' (rb_ HO_108000.out) (Kd.R_base ho0) hb); have n1_ := Aside0.mk (Kd.R_elder' (rb_ HO149.out) (Kd.R_base ho0) hb); have n2_ := Aside0.mk (Kd.R_elder' (rb_ HO155.out) (Kd.R_base ho0) hb); have n3_ := Aside0.mk (Kd.R_lower (Kd.R_new' (Kd.R_new' (Kd.R_new' ho0 (Kd.R_lt (rb_ HO_108000.out))) (Kd.R_lt (rb_ HO149.out))) (Kd.R_lt (rb_ HO155.out))) (below_size (gb_ HB.out))); have n4_ := Aside0.mk (blk_below (g := gb107) (o := .cells #[.slice Ao18 t102.length co18] 26 (0, 0)) (bb_ BK107.out) hb); have n5_ := Aside0.mk (blk_below (g := gb152) (o := .cells #[.slice Ao269 t147.length co269] 26 (0, 0)) (bb_ BK152.out) hb); have n6_ := Aside0.mk (below_step (gb_ HB.out) hb); clear HO_108000 HO149 HO155 BK107 BK152 HB; have HO_108000 := n0_; have HO149 := n1_; have HO155 := n2_; have HO159 := n3_; have BK107 := n4_; have BK152 := n5_; have HB := n6_; clear n0_ n1_ n2_ n3_ n4_ n5_ n6_; (try clear hb); (try clear hb2); (try clear hk); (try clear hi); (try clear ho0); have hcz275_0 : w274.cell? ⟨gb152, 0, none⟩ = some (.slice Ao269 t147.length co269) := (blk_cell BK152.out 0).trans rfl; have hfz275_0 := blk_frozen BK152.out 0) | ((with_reducible refine gate_callee (f := 25) rfl ?_); refine goesL_ (some 318) rfl rfl Try.func25 (by kernel_rfl) rfl #[.agg #[.slice Ao269 t147.length co269], .int .i64 t150, .int .i64 t151] rfl (by (try simp only [List.map_toArray, List.map_cons, List.map_nil]); first | done | rfl | (simp only [List.length_drop, List.length_take]; rfl)) ?_; (with_reducible refine (impl_SphereOf.calls _ _ t147 t150 t151 t161 t164 _ ?side1 ?side2 A262.out).mono ?_); (case side1 => repeat (first | exact (Kd.R_reads' HO149.out).2.2 | (with_reducible refine Kd.C_alloc ?_ _) | (with_reducible refine Kd.C_drewN ?_ _) | (with_reducible refine Kd.C_drew ?_))); (case side2 => exact (Kd.R_reads' HO149.out).2.1); rintro e w276 ⟨v162, rfl, ho0, hb⟩; refine ⟨_, rfl, ?_⟩; have n0_ := Aside0.mk (Kd.R_elder' (rb_ HO_108000.out) (Kd.R_base ho0) hb); have n1_ := Aside0.mk (Kd.R_elder' (rb_ HO149.out) (Kd.R_base ho0) hb); have n2_ := Aside0.mk (Kd.R_elder' (rb_ HO155.out) (Kd.R_base ho0) hb); have n3_ := Aside0.mk (Kd.R_elder' (rb_ HO159.out) (Kd.R_base ho0) hb); have n4_ := Aside0.mk (Kd.R_lower (Kd.R_new' (Kd.R_new' (Kd.R_new' (Kd.R_new' ho0 (Kd.R_lt (rb_ HO_108000.out))) (Kd.R_lt (rb_ HO149.out))) (Kd.R_lt (rb_ HO155.out))) (Kd.R_lt (rb_ HO159.out))) (below_size (gb_ HB.out))); have n5_ := Aside0.mk (blk_below (g := gb107) (o := .cells #[.slice Ao18 t102.length co18] 26 (0, 0)) (bb_ BK107.out) hb); have n6_ := Aside0.mk (blk_below (g := gb152) (o := .cells #[.slice Ao269 t147.length co269] 26 (0, 0)) (bb_ BK152.out) hb); have n7_ := Aside0.mk (below_step (gb_ HB.out) hb); clear HO_108000 HO149 HO155 HO159 BK107 BK152 HB; have HO_108000 := n0_; have HO149 := n1_; have HO155 := n2_; have HO159 := n3_; have HO163 := n4_; have BK107 := n5_; have BK152 := n6_; have HB := n7_; clear n0_ n1_ n2_ n3_ n4_ n5_ n6_ n7_; (try clear hb); (try clear hb2); (try clear hk); (try clear hi); (try clear ho0); have hcz277_0 : w276.cell? ⟨gb152, 0, none⟩ = some (.slice Ao269 t147.length co269) := (blk_cell BK152.out 0).trans rfl; have hfz277_0 := blk_frozen BK152.out 0) | ((with_reducible refine gate_callee (f := 26) rfl ?_); refine goesL_ (some 325) rfl rfl Try.func26 (by kernel_rfl) rfl #[.agg #[.slice Ao269 t147.length co269], .int .i64 t150, .int .i64 t151] rfl (by (try simp only [List.map_toArray, List.map_cons, List.map_nil]); first | done | rfl | (simp only [List.length_drop, List.length_take]; rfl)) ?_; (with_reducible refine (spec_SphereOf.calls kj69 _ _ t147 t150 t151 t165 t168 _ ?side1 ?side2 A263.out).mono ?_); (case side1 => repeat (first | exact (Kd.R_reads' HO149.out).2.2 | (with_reducible refine Kd.C_alloc ?_ _) | (with_reducible refine Kd.C_drewN ?_ _) | (with_reducible refine Kd.C_drew ?_))); (case side2 => exact (Kd.R_reads' HO149.out).2.1); rintro e w278 ⟨v166, rfl, ho0, hb⟩; refine ⟨_, rfl, ?_⟩; have n0_ := Aside0.mk (Kd.R_elder' (rb_ HO_108000.out) (Kd.R_base ho0) hb); have n1_ := Aside0.mk (Kd.R_elder' (rb_ HO149.out) (Kd.R_base ho0) hb); have n2_ := Aside0.mk (Kd.R_elder' (rb_ HO155.out) (Kd.R_base ho0) hb); have n3_ := Aside0.mk (Kd.R_elder' (rb_ HO159.out) (Kd.R_base ho0) hb); have n4_ := Aside0.mk (Kd.R_elder' (rb_ HO163.out) (Kd.R_base ho0) hb); have n5_ := Aside0.mk (Kd.R_lower (Kd.R_new' (Kd.R_new' (Kd.R_new' (Kd.R_new' (Kd.R_new' ho0 (Kd.R_lt (rb_ HO_108000.out))) (Kd.R_lt (rb_ HO149.out))) (Kd.R_lt (rb_ HO155.out))) (Kd.R_lt (rb_ HO159.out))) (Kd.R_lt (rb_ HO163.out))) (below_size (gb_ HB.out))); have n6_ := Aside0.mk (blk_below (g := gb107) (o := .cells #[.slice Ao18 t102.length co18] 26 (0, 0)) (bb_ BK107.out) hb); have n7_ := Aside0.mk (blk_below (g := gb152) (o := .cells #[.slice Ao269 t147.length co269] 26 (0, 0)) (bb_ BK152.out) hb); have n8_ := Aside0.mk (below_step (gb_ HB.out) hb); clear HO_108000 HO149 HO155 HO159 HO163 BK107 BK152 HB; have HO_108000 := n0_; have HO149 := n1_; have HO155 := n2_; have HO159 := n3_; have HO163 := n4_; have HO167 := n5_; have BK107 := n6_; have BK152 := n7_; have HB := n8_; clear n0_ n1_ n2_ n3_ n4_ n5_ n6_ n7_ n8_; (try clear hb); (try clear hb2); (try clear hk); (try clear hi); (try clear ho0); have hcz279_0 : w278.cell? ⟨gb152, 0, none⟩ = some (.slice Ao269 t147.length co269) := (blk_cell BK152.out 0).trans rfl; have hfz279_0 := blk_frozen BK152.out 0) | ((with_reducible refine gate_callee (f := 27) rfl ?_); refine goesL_ (some 331) rfl rfl Try.func27 (by kernel_rfl) rfl #[.agg #[.slice Ao269 t147.length co269], .int .i64 t151] rfl (by (try simp only [List.map_toArray, List.map_cons, List.map_nil]); first | done | rfl | (simp only [List.length_drop, List.length_take]; rfl)) ?_; (with_reducible refine (impl_BallSize.calls kj69 _ _ t147 t151 t169 t170 _ ?side1 ?side2 A264.out).mono ?_); (case side1 => repeat (first | exact (Kd.R_reads' HO149.out).2.2 | (with_reducible refine Kd.C_alloc ?_ _) | (with_reducible refine Kd.C_drewN ?_ _) | (with_reducible refine Kd.C_drew ?_))); (case side2 => exact (Kd.R_reads' HO149.out).2.1); rintro e w280 ⟨rfl, hb⟩; refine ⟨_, rfl, ?_⟩; have n0_ := Aside0.mk (Kd.R_below (rb_ HO_108000.out) hb); have n1_ := Aside0.mk (Kd.R_below (rb_ HO149.out) hb); have n2_ := Aside0.mk (Kd.R_below (rb_ HO155.out) hb); have n3_ := Aside0.mk (Kd.R_below (rb_ HO159.out) hb); have n4_ := Aside0.mk (Kd.R_below (rb_ HO163.out) hb); have n5_ := Aside0.mk (Kd.R_below (rb_ HO167.out) hb); have n6_ := Aside0.mk (blk_below (g := gb107) (o := .cells #[.slice Ao18 t102.length co18] 26 (0, 0)) (bb_ BK107.out) hb); have n7_ := Aside0.mk (blk_below (g := gb152) (o := .cells #[.slice Ao269 t147.length co269] 26 (0, 0)) (bb_ BK152.out) hb); have n8_ := Aside0.mk (below_step (gb_ HB.out) hb); clear HO_108000 HO149 HO155 HO159 HO163 HO167 BK107 BK152 HB; have HO_108000 := n0_; have HO149 := n1_; have HO155 := n2_; have HO159 := n3_; have HO163 := n4_; have HO167 := n5_; have BK107 := n6_; have BK152 := n7_; have HB := n8_; clear n0_ n1_ n2_ n3_ n4_ n5_ n6_ n7_ n8_; (try clear hb); (try clear hb2); (try clear hk); (try clear hi); have hcz281_0 : w280.cell? ⟨gb152, 0, none⟩ = some (.slice Ao269 t147.length co269) := (blk_cell BK152.out 0).trans rfl; have hfz281_0 := blk_frozen BK152.out 0) | ((with_reducible refine gate_callee (f := 28) rfl ?_); refine goesL_ (some 337) rfl rfl Try.func28 (by kernel_rfl) rfl #[.agg #[.slice Ao269 t147.length co269], .int .i64 t151] rfl (by (try simp only [List.map_toArray, List.map_cons, List.map_nil]); first | done | rfl | (simp only [List.length_drop, List.length_take]; rfl)) ?_; (with_reducible refine (spec_BallSize.calls kj69 _ _ t147 t151 t171 t172 _ ?side1 ?side2 A265.out).mono ?_); (case side1 => repeat (first | exact (Kd.R_reads' HO149.out).2.2 | (with_reducible refine Kd.C_alloc ?_ _) | (with_reducible refine Kd.C_drewN ?_ _) | (with_reducible refine Kd.C_drew ?_))); (case side2 => exact (Kd.R_reads' HO149.out).2.1); rintro e w282 ⟨rfl, hb⟩; refine ⟨_, rfl, ?_⟩; have n0_ := Aside0.mk (Kd.R_below (rb_ HO_108000.out) hb); have n1_ := Aside0.mk (Kd.R_below (rb_ HO149.out) hb); have n2_ := Aside0.mk (Kd.R_below (rb_ HO155.out) hb); have n3_ := Aside0.mk (Kd.R_below (rb_ HO159.out) hb); have n4_ := Aside0.mk (Kd.R_below (rb_ HO163.out) hb); have n5_ := Aside0.mk (Kd.R_below (rb_ HO167.out) hb); have n6_ := Aside0.mk (blk_below (g := gb107) (o := .cells #[.slice Ao18 t102.length co18] 26 (0, 0)) (bb_ BK107.out) hb); have n7_ := Aside0.mk (blk_below (g := gb152) (o := .cells #[.slice Ao269 t147.length co269] 26 (0, 0)) (bb_ BK152.out) hb); have n8_ := Aside0.mk (below_step (gb_ HB.out) hb); clear HO_108000 HO149 HO155 HO159 HO163 HO167 BK107 BK152 HB; have HO_108000 := n0_; have HO149 := n1_; have HO155 := n2_; have HO159 := n3_; have HO163 := n4_; have HO167 := n5_; have BK107 := n6_; have BK152 := n7_; have HB := n8_; clear n0_ n1_ n2_ n3_ n4_ n5_ n6_ n7_ n8_; (try clear hb); (try clear hb2); (try clear hk); (try clear hi)))
       (try simp only [Act.put, List.setIfInBounds_toArray, List.set_cons_zero, List.set_cons_succ])
       go_cut [369] (fun cs_369 wc => ∃ (kq : Nat) (x369_265 : Bool), cs_369 = .bool x369_265 ∧ Aside0 (laws_FnWords.j2 kq l0 t153 t156 t161 t169 x369_265 = some r) ∧ Aside0 (kq ≤ kj69) ∧ Aside0 (Kd.R (Kd.int .i64) 2 wc w.heap.size (fun k_ => OB_ k_ v162 ∧ OB_ k_ (.slice Ao18 t102.length co18) ∧ OB_ k_ (.slice Ao269 t147.length co269)) v154 t153) ∧ Aside0 (Kd.R (Kd.int .i64) 2 wc w.heap.size (fun k_ => OB_ k_ v154 ∧ OB_ k_ (.slice Ao18 t102.length co18) ∧ OB_ k_ (.slice Ao269 t147.length co269)) v162 t161) ∧ Aside0 (Kd.R (Kd.int .i64) 2 wc w.heap.size (fun k_ => OB_ k_ v154 ∧ OB_ k_ v162 ∧ OB_ k_ (.slice Ao269 t147.length co269)) (.slice Ao18 t102.length co18) t102) ∧ Aside0 (Kd.R (Kd.int .i64) 2 wc w.heap.size (fun k_ => OB_ k_ v154 ∧ OB_ k_ v162 ∧ OB_ k_ (.slice Ao18 t102.length co18)) (.slice Ao269 t147.length co269) t147) ∧ Aside0 (wc.heap[gb107]? = some (.cells #[(.slice Ao18 t102.length co18)] 26 (0, 0))) ∧ Aside0 (wc.heap[gb152]? = some (.cells #[(.slice Ao269 t147.length co269)] 26 (0, 0))) ∧ Aside0 (Below w.heap.size w wc))
       case first => as_aux_lemma =>
        have H := HC266.out
        clear HC266
        by_cases c283 : t156 = t160
        ·rw [if_pos c283] at H
         have c283b0 : (t156 == t160) = true := beq_iff_eq.mpr c283
         have c283b1 : (t156 != t160) = false := bne_eq_false_iff_eq.mpr c283
         clear c283
         (first | rw [c283b0] | (simp only [i64_w, i32_w]; rw [c283b0]) | skip)
         replace H := Option.bind_eq_some_iff.mp H
         obtain ⟨t173, A2840, H⟩ := H
         replace H : (if t173 = true then (if t164 = t168 then ((laws_likeInts.f kj69 t161 t165).bind fun t174 => (if t174 = true then (if t170 = t172 then (laws_FnWords.j2 kj69 l0 t153 t156 t161 t169 (t169 != t171)) else (laws_FnWords.j2 kj69 l0 t153 t156 t161 t169 true)) else (laws_FnWords.j2 kj69 l0 t153 t156 t161 t169 true))) else (laws_FnWords.j2 kj69 l0 t153 t156 t161 t169 true)) else (laws_FnWords.j2 kj69 l0 t153 t156 t161 t169 true)) = some r := H
         have A284 := Aside0.mk A2840
         clear A2840
         by_cases c285 : t173 = true
         ·subst c285
          have H1 : (if t164 = t168 then ((laws_likeInts.f kj69 t161 t165).bind fun t174 => (if t174 = true then (if t170 = t172 then (laws_FnWords.j2 kj69 l0 t153 t156 t161 t169 (t169 != t171)) else (laws_FnWords.j2 kj69 l0 t153 t156 t161 t169 true)) else (laws_FnWords.j2 kj69 l0 t153 t156 t161 t169 true))) else (laws_FnWords.j2 kj69 l0 t153 t156 t161 t169 true)) = some r := by rw [if_pos rfl] at H; exact H
          clear H
          have H := H1
          clear H1
          by_cases c286 : t164 = t168
          ·rw [if_pos c286] at H
           have c286b0 : (t164 == t168) = true := beq_iff_eq.mpr c286
           have c286b1 : (t164 != t168) = false := bne_eq_false_iff_eq.mpr c286
           clear c286
           replace H := Option.bind_eq_some_iff.mp H
           obtain ⟨t174, A2870, H⟩ := H
           replace H : (if t174 = true then (if t170 = t172 then (laws_FnWords.j2 kj69 l0 t153 t156 t161 t169 (t169 != t171)) else (laws_FnWords.j2 kj69 l0 t153 t156 t161 t169 true)) else (laws_FnWords.j2 kj69 l0 t153 t156 t161 t169 true)) = some r := H
           have A287 := Aside0.mk A2870
           clear A2870
           by_cases c288 : t174 = true
           ·subst c288
            have H1 : (if t170 = t172 then (laws_FnWords.j2 kj69 l0 t153 t156 t161 t169 (t169 != t171)) else (laws_FnWords.j2 kj69 l0 t153 t156 t161 t169 true)) = some r := by rw [if_pos rfl] at H; exact H
            clear H
            have H := H1
            clear H1
            by_cases c289 : t170 = t172
            ·rw [if_pos c289] at H
             have c289b0 : (t170 == t172) = true := beq_iff_eq.mpr c289
             have c289b1 : (t170 != t172) = false := bne_eq_false_iff_eq.mpr c289
             clear c289
             have H' := Aside0.mk H
             clear H
             obtain ⟨Ao290, co290, eo290⟩ := Kd.R_slice HO155.out
             subst eo290
             obtain ⟨Ao291, co291, eo291⟩ := Kd.R_slice HO159.out
             subst eo291
             go_wp2_with (first | (go_at_call 18; (with_reducible refine (laws_likeInts.calls kj69 _ _ t153 _ _ t157 true _ ?side1 ?side2 ?side3 ?side4 A284.out).mono ?_); (case side1 => repeat (first | exact (Kd.R_reads' HO155.out).2.2 | (with_reducible refine Kd.C_alloc ?_ _) | (with_reducible refine Kd.C_drewN ?_ _) | (with_reducible refine Kd.C_drew ?_))); (case side2 => exact (Kd.R_reads' HO155.out).2.1); (case side3 => repeat (first | exact (Kd.R_reads' HO159.out).2.2 | (with_reducible refine Kd.C_alloc ?_ _) | (with_reducible refine Kd.C_drewN ?_ _) | (with_reducible refine Kd.C_drew ?_))); (case side4 => exact (Kd.R_reads' HO159.out).2.1); rintro e w' ⟨rfl, ⟨nd, rfl⟩⟩; obtain ⟨Ao292, co292, eo292⟩ := Kd.R_slice HO163.out; subst eo292; obtain ⟨Ao293, co293, eo293⟩ := Kd.R_slice HO167.out; subst eo293) | (go_at_call 18; (with_reducible refine (laws_likeInts.calls kj69 _ _ t161 _ _ t165 true _ ?side1 ?side2 ?side3 ?side4 A287.out).mono ?_); (case side1 => repeat (first | exact (Kd.R_reads' HO163.out).2.2 | (with_reducible refine Kd.C_alloc ?_ _) | (with_reducible refine Kd.C_drewN ?_ _) | (with_reducible refine Kd.C_drew ?_))); (case side2 => exact (Kd.R_reads' HO163.out).2.1); (case side3 => repeat (first | exact (Kd.R_reads' HO167.out).2.2 | (with_reducible refine Kd.C_alloc ?_ _) | (with_reducible refine Kd.C_drewN ?_ _) | (with_reducible refine Kd.C_drew ?_))); (case side4 => exact (Kd.R_reads' HO167.out).2.1); rintro e w' ⟨rfl, ⟨nd, rfl⟩⟩))
             go_meet
             case rel => exact ⟨_, ((t169 != t171)), (by first | rfl | (simp; done) | (simp [*]; done)), H', ⟨by have := HJ14.out; have := HJ69.out; first | omega | exact Nat.le_refl _⟩, ⟨by (with_reducible repeat (first | apply Kd.R_alloc | apply Kd.R_drewN | apply Kd.R_drew)); exact Kd.R_mono HO155.out (fun _ hk => ⟨hk.1.2, ⟨hk.1.1.1.1.2, hk.1.1.1.2⟩⟩)⟩, ⟨by (with_reducible repeat (first | apply Kd.R_alloc | apply Kd.R_drewN | apply Kd.R_drew)); exact Kd.R_mono HO163.out (fun _ hk => ⟨hk.1.1.2, ⟨hk.1.1.1.1.2, hk.1.1.1.2⟩⟩)⟩, ⟨by (with_reducible repeat (first | apply Kd.R_alloc | apply Kd.R_drewN | apply Kd.R_drew)); exact Kd.R_mono HO_108000.out (fun _ hk => ⟨hk.1.1.1.2, ⟨hk.1.2, hk.1.1.1.1.2⟩⟩)⟩, ⟨by (with_reducible repeat (first | apply Kd.R_alloc | apply Kd.R_drewN | apply Kd.R_drew)); exact Kd.R_mono HO149.out (fun _ hk => ⟨hk.1.1.1.2, ⟨hk.1.2, hk.1.1.1.1.2⟩⟩)⟩, ⟨by (with_reducible repeat (first | refine blk_drewN ?_ _ | refine blk_drew ?_ | refine blk_alloc ?_ _)); exact BK107.out⟩, ⟨by (with_reducible repeat (first | refine blk_drewN ?_ _ | refine blk_drew ?_ | refine blk_alloc ?_ _)); exact BK152.out⟩, ⟨gb_ HB.out⟩⟩
            ·rw [if_neg c289] at H
             exact laws_FnWords.no hr_ H
           ·replace c288 := Bool.eq_false_iff.mpr c288
            subst c288
            exact laws_FnWords.no hr_ H
          ·rw [if_neg c286] at H
           exact laws_FnWords.no hr_ H
         ·replace c285 := Bool.eq_false_iff.mpr c285
          subst c285
          exact laws_FnWords.no hr_ H
        ·rw [if_neg c283] at H
         exact laws_FnWords.no hr_ H
       case rest => as_aux_lemma =>
        clear HC266
        try clear c1
        try clear c2
        try clear p2
        try clear c3
        try clear c6
        try clear c7
        try clear c8
        try clear c10
        try clear c14
        try clear c21
        try clear c22
        try clear c23
        try clear c24
        try clear c25
        try clear c26
        try clear c27
        try clear c28
        try clear c39
        try clear c39b0
        try clear c39b1
        try clear c69
        try clear c71
        try clear c71b0
        try clear c71b1
        try clear c78
        try clear c78b0
        try clear c78b1
        try clear c79
        try clear c79b0
        try clear c79b1
        try clear c80
        try clear c80b0
        try clear c80b1
        try clear c81
        try clear c81b0
        try clear c81b1
        try clear c82
        try clear c82b0
        try clear c82b1
        try clear c83
        try clear c83b0
        try clear c83b1
        try clear c84
        try clear c84b0
        try clear c84b1
        try clear c85
        try clear c85b0
        try clear c85b1
        try clear c86
        try clear c86b0
        try clear c86b1
        try clear c87
        try clear c87b0
        try clear c87b1
        try clear c88
        try clear c88b0
        try clear c88b1
        try clear c89
        try clear c89b0
        try clear c89b1
        try clear c89b2
        try clear c270
        try clear c283
        try clear c283b0
        try clear c283b1
        try clear c285
        try clear c286
        try clear c286b0
        try clear c286b1
        try clear c288
        try clear c289
        try clear c289b0
        try clear c289b1
        try clear hcz101_0
        try clear hcz103_0
        try clear hcz106_0
        try clear hcz108_0
        try clear hcz110_0
        try clear hcz112_0
        try clear hcz114_0
        try clear hcz116_0
        try clear hcz119_0
        try clear hcz121_0
        try clear hcz123_0
        try clear hcz125_0
        try clear hcz127_0
        try clear hcz129_0
        try clear hcz132_0
        try clear hcz134_0
        try clear hcz136_0
        try clear hcz138_0
        try clear hcz140_0
        try clear hcz142_0
        try clear hcz145_0
        try clear hcz147_0
        try clear hcz149_0
        try clear hcz151_0
        try clear hcz153_0
        try clear hcz155_0
        try clear hcz158_0
        try clear hcz160_0
        try clear hcz162_0
        try clear hcz164_0
        try clear hcz166_0
        try clear hcz168_0
        try clear hcz171_0
        try clear hcz173_0
        try clear hcz175_0
        try clear hcz177_0
        try clear hcz179_0
        try clear hcz181_0
        try clear hcz184_0
        try clear hcz186_0
        try clear hcz188_0
        try clear hcz190_0
        try clear hcz192_0
        try clear hcz194_0
        try clear hcz197_0
        try clear hcz199_0
        try clear hcz201_0
        try clear hcz203_0
        try clear hcz205_0
        try clear hcz207_0
        try clear hcz210_0
        try clear hcz212_0
        try clear hcz214_0
        try clear hcz216_0
        try clear hcz218_0
        try clear hcz220_0
        try clear hcz223_0
        try clear hcz225_0
        try clear hcz227_0
        try clear hcz229_0
        try clear hcz231_0
        try clear hcz233_0
        try clear hcz236_0
        try clear hcz238_0
        try clear hcz240_0
        try clear hcz242_0
        try clear hcz244_0
        try clear hcz246_0
        try clear hcz249_0
        try clear hcz251_0
        try clear hcz253_0
        try clear hcz255_0
        try clear hcz257_0
        try clear hcz271_0
        try clear hcz273_0
        try clear hcz275_0
        try clear hcz277_0
        try clear hcz279_0
        try clear hcz281_0
        try clear hcz90_0
        try clear hcz93_0
        try clear hcz95_0
        try clear hcz97_0
        try clear hcz99_0
        try clear hfz101_0
        try clear hfz103_0
        try clear hfz106_0
        try clear hfz108_0
        try clear hfz110_0
        try clear hfz112_0
        try clear hfz114_0
        try clear hfz116_0
        try clear hfz119_0
        try clear hfz121_0
        try clear hfz123_0
        try clear hfz125_0
        try clear hfz127_0
        try clear hfz129_0
        try clear hfz132_0
        try clear hfz134_0
        try clear hfz136_0
        try clear hfz138_0
        try clear hfz140_0
        try clear hfz142_0
        try clear hfz145_0
        try clear hfz147_0
        try clear hfz149_0
        try clear hfz151_0
        try clear hfz153_0
        try clear hfz155_0
        try clear hfz158_0
        try clear hfz160_0
        try clear hfz162_0
        try clear hfz164_0
        try clear hfz166_0
        try clear hfz168_0
        try clear hfz171_0
        try clear hfz173_0
        try clear hfz175_0
        try clear hfz177_0
        try clear hfz179_0
        try clear hfz181_0
        try clear hfz184_0
        try clear hfz186_0
        try clear hfz188_0
        try clear hfz190_0
        try clear hfz192_0
        try clear hfz194_0
        try clear hfz197_0
        try clear hfz199_0
        try clear hfz201_0
        try clear hfz203_0
        try clear hfz205_0
        try clear hfz207_0
        try clear hfz210_0
        try clear hfz212_0
        try clear hfz214_0
        try clear hfz216_0
        try clear hfz218_0
        try clear hfz220_0
        try clear hfz223_0
        try clear hfz225_0
        try clear hfz227_0
        try clear hfz229_0
        try clear hfz231_0
        try clear hfz233_0
        try clear hfz236_0
        try clear hfz238_0
        try clear hfz240_0
        try clear hfz242_0
        try clear hfz244_0
        try clear hfz246_0
        try clear hfz249_0
        try clear hfz251_0
        try clear hfz253_0
        try clear hfz255_0
        try clear hfz257_0
        try clear hfz271_0
        try clear hfz273_0
        try clear hfz275_0
        try clear hfz277_0
        try clear hfz279_0
        try clear hfz281_0
        try clear hfz90_0
        try clear hfz93_0
        try clear hfz95_0
        try clear hfz97_0
        try clear hfz99_0
        try clear p2
        obtain ⟨kq, x369_265, rfl, HA, HJ265, HO_41, HO_45, HO_108000, HO_153000, BK107, BK152, HB⟩ := hcut
        cases kq with
        | zero => exact absurd HA.out (by simp [laws_FnWords.j2])
        | succ kj265 =>
         have H := HA.out
         clear HA
         simp only [laws_FnWords.j2] at H
         by_cases c306 : x369_265 = true
         ·subst c306
          exact laws_FnWords.no hr_ H
         ·replace c306 := Bool.eq_false_iff.mpr c306
          subst c306
          have H1 : (if t156 = 0 then (if (t153.length : Int) = t169 then (laws_FnWords.j3 kj265 l0 t153 t161 (decide ((t161.length : Int) > (t153.length : Int)))) else (laws_FnWords.j3 kj265 l0 t153 t161 true)) else (laws_FnWords.j5 kj265 l0)) = some r := by rw [if_neg (show ¬ (false = true) by decide)] at H; exact H
          clear H
          have H := H1
          clear H1
          have HC307 := Aside0.mk H
          clear H
          go_upto_if 371 with (fail)
          go_cut [] (fun wc => ∃ (kq : Nat), Aside0 (laws_FnWords.j5 kq l0 = some r) ∧ Aside0 (kq ≤ kj265) ∧ Aside0 (Kd.R (Kd.int .i64) 2 wc w.heap.size (fun k_ => OB_ k_ (.slice Ao269 t147.length co269)) (.slice Ao18 t102.length co18) t102) ∧ Aside0 (Kd.R (Kd.int .i64) 2 wc w.heap.size (fun k_ => OB_ k_ (.slice Ao18 t102.length co18)) (.slice Ao269 t147.length co269) t147) ∧ Aside0 (wc.heap[gb107]? = some (.cells #[(.slice Ao18 t102.length co18)] 26 (0, 0))) ∧ Aside0 (wc.heap[gb152]? = some (.cells #[(.slice Ao269 t147.length co269)] 26 (0, 0))) ∧ Aside0 (Below w.heap.size w wc))
          case first => as_aux_lemma =>
           have H := HC307.out
           clear HC307
           by_cases c308 : t156 = 0
           ·rw [if_pos c308] at H
            have c308b0 : (t156 == 0) = true := beq_iff_eq.mpr c308
            have c308b1 : (t156 != 0) = false := bne_eq_false_iff_eq.mpr c308
            clear c308
            (first | rw [c308b0] | (simp only [i64_w, i32_w]; rw [c308b0]) | skip)
            have HC309 := Aside0.mk H
            clear H
            go_upto_region 35 with (fail)
            go_cut [382] (fun cs_382 wc => ∃ (kq : Nat) (x382_308 : Bool), cs_382 = .bool x382_308 ∧ Aside0 (laws_FnWords.j3 kq l0 t153 t161 x382_308 = some r) ∧ Aside0 (kq ≤ kj265) ∧ Aside0 (Kd.R (Kd.int .i64) 2 wc w.heap.size (fun k_ => OB_ k_ v162 ∧ OB_ k_ (.slice Ao18 t102.length co18) ∧ OB_ k_ (.slice Ao269 t147.length co269)) v154 t153) ∧ Aside0 (Kd.R (Kd.int .i64) 2 wc w.heap.size (fun k_ => OB_ k_ v154 ∧ OB_ k_ (.slice Ao18 t102.length co18) ∧ OB_ k_ (.slice Ao269 t147.length co269)) v162 t161) ∧ Aside0 (Kd.R (Kd.int .i64) 2 wc w.heap.size (fun k_ => OB_ k_ v154 ∧ OB_ k_ v162 ∧ OB_ k_ (.slice Ao269 t147.length co269)) (.slice Ao18 t102.length co18) t102) ∧ Aside0 (Kd.R (Kd.int .i64) 2 wc w.heap.size (fun k_ => OB_ k_ v154 ∧ OB_ k_ v162 ∧ OB_ k_ (.slice Ao18 t102.length co18)) (.slice Ao269 t147.length co269) t147) ∧ Aside0 (wc.heap[gb107]? = some (.cells #[(.slice Ao18 t102.length co18)] 26 (0, 0))) ∧ Aside0 (wc.heap[gb152]? = some (.cells #[(.slice Ao269 t147.length co269)] 26 (0, 0))) ∧ Aside0 (Below w.heap.size w wc))
            case first => as_aux_lemma =>
             have H := HC309.out
             clear HC309
             by_cases c310 : (t153.length : Int) = t169
             ·rw [if_pos c310] at H
              have c310b0 : ((t153.length : Int) == t169) = true := beq_iff_eq.mpr c310
              have c310b1 : ((t153.length : Int) != t169) = false := bne_eq_false_iff_eq.mpr c310
              clear c310
              (first | rw [c310b0] | (simp only [i64_w, i32_w]; rw [c310b0]) | skip)
              have H' := Aside0.mk H
              clear H
              obtain ⟨Ao311, co311, eo311⟩ := Kd.R_slice HO_41.out
              subst eo311
              obtain ⟨Ao312, co312, eo312⟩ := Kd.R_slice HO_45.out
              subst eo312
              go_wp2
              go_meet
              case rel => exact ⟨_, (decide ((t161.length : Int) > (t153.length : Int))), (by first | rfl | (simp; done) | (simp [*]; done)), H', ⟨by have := HJ14.out; have := HJ69.out; have := HJ265.out; first | omega | exact Nat.le_refl _⟩, ⟨by (with_reducible repeat (first | apply Kd.R_alloc | apply Kd.R_drewN | apply Kd.R_drew)); exact HO_41.out⟩, ⟨by (with_reducible repeat (first | apply Kd.R_alloc | apply Kd.R_drewN | apply Kd.R_drew)); exact HO_45.out⟩, ⟨by (with_reducible repeat (first | apply Kd.R_alloc | apply Kd.R_drewN | apply Kd.R_drew)); exact HO_108000.out⟩, ⟨by (with_reducible repeat (first | apply Kd.R_alloc | apply Kd.R_drewN | apply Kd.R_drew)); exact HO_153000.out⟩, ⟨by (with_reducible repeat (first | refine blk_drewN ?_ _ | refine blk_drew ?_ | refine blk_alloc ?_ _)); exact BK107.out⟩, ⟨by (with_reducible repeat (first | refine blk_drewN ?_ _ | refine blk_drew ?_ | refine blk_alloc ?_ _)); exact BK152.out⟩, ⟨gb_ HB.out⟩⟩
             ·rw [if_neg c310] at H
              exact laws_FnWords.no hr_ H
            case rest => as_aux_lemma =>
             clear HC309
             try clear c1
             try clear c2
             try clear p2
             try clear c3
             try clear c6
             try clear c7
             try clear c8
             try clear c10
             try clear c14
             try clear c21
             try clear c22
             try clear c23
             try clear c24
             try clear c25
             try clear c26
             try clear c27
             try clear c28
             try clear c30
             try clear c31
             try clear c39
             try clear c39b0
             try clear c39b1
             try clear c69
             try clear c71
             try clear c71b0
             try clear c71b1
             try clear c78
             try clear c78b0
             try clear c78b1
             try clear c79
             try clear c79b0
             try clear c79b1
             try clear c80
             try clear c80b0
             try clear c80b1
             try clear c81
             try clear c81b0
             try clear c81b1
             try clear c82
             try clear c82b0
             try clear c82b1
             try clear c83
             try clear c83b0
             try clear c83b1
             try clear c84
             try clear c84b0
             try clear c84b1
             try clear c85
             try clear c85b0
             try clear c85b1
             try clear c86
             try clear c86b0
             try clear c86b1
             try clear c87
             try clear c87b0
             try clear c87b1
             try clear c88
             try clear c88b0
             try clear c88b1
             try clear c89
             try clear c89b0
             try clear c89b1
             try clear c89b2
             try clear c270
             try clear c283
             try clear c283b0
             try clear c283b1
             try clear c285
             try clear c286
             try clear c286b0
             try clear c286b1
             try clear c288
             try clear c289
             try clear c289b0
             try clear c289b1
             try clear c306
             try clear c308
             try clear c308b0
             try clear c308b1
             try clear c310
             try clear c310b0
             try clear c310b1
             try clear hcz101_0
             try clear hcz103_0
             try clear hcz106_0
             try clear hcz108_0
             try clear hcz110_0
             try clear hcz112_0
             try clear hcz114_0
             try clear hcz116_0
             try clear hcz119_0
             try clear hcz121_0
             try clear hcz123_0
             try clear hcz125_0
             try clear hcz127_0
             try clear hcz129_0
             try clear hcz132_0
             try clear hcz134_0
             try clear hcz136_0
             try clear hcz138_0
             try clear hcz140_0
             try clear hcz142_0
             try clear hcz145_0
             try clear hcz147_0
             try clear hcz149_0
             try clear hcz151_0
             try clear hcz153_0
             try clear hcz155_0
             try clear hcz158_0
             try clear hcz160_0
             try clear hcz162_0
             try clear hcz164_0
             try clear hcz166_0
             try clear hcz168_0
             try clear hcz171_0
             try clear hcz173_0
             try clear hcz175_0
             try clear hcz177_0
             try clear hcz179_0
             try clear hcz181_0
             try clear hcz184_0
             try clear hcz186_0
             try clear hcz188_0
             try clear hcz190_0
             try clear hcz192_0
             try clear hcz194_0
             try clear hcz197_0
             try clear hcz199_0
             try clear hcz201_0
             try clear hcz203_0
             try clear hcz205_0
             try clear hcz207_0
             try clear hcz210_0
             try clear hcz212_0
             try clear hcz214_0
             try clear hcz216_0
             try clear hcz218_0
             try clear hcz220_0
             try clear hcz223_0
             try clear hcz225_0
             try clear hcz227_0
             try clear hcz229_0
             try clear hcz231_0
             try clear hcz233_0
             try clear hcz236_0
             try clear hcz238_0
             try clear hcz240_0
             try clear hcz242_0
             try clear hcz244_0
             try clear hcz246_0
             try clear hcz249_0
             try clear hcz251_0
             try clear hcz253_0
             try clear hcz255_0
             try clear hcz257_0
             try clear hcz271_0
             try clear hcz273_0
             try clear hcz275_0
             try clear hcz277_0
             try clear hcz279_0
             try clear hcz281_0
             try clear hcz90_0
             try clear hcz93_0
             try clear hcz95_0
             try clear hcz97_0
             try clear hcz99_0
             try clear hfz101_0
             try clear hfz103_0
             try clear hfz106_0
             try clear hfz108_0
             try clear hfz110_0
             try clear hfz112_0
             try clear hfz114_0
             try clear hfz116_0
             try clear hfz119_0
             try clear hfz121_0
             try clear hfz123_0
             try clear hfz125_0
             try clear hfz127_0
             try clear hfz129_0
             try clear hfz132_0
             try clear hfz134_0
             try clear hfz136_0
             try clear hfz138_0
             try clear hfz140_0
             try clear hfz142_0
             try clear hfz145_0
             try clear hfz147_0
             try clear hfz149_0
             try clear hfz151_0
             try clear hfz153_0
             try clear hfz155_0
             try clear hfz158_0
             try clear hfz160_0
             try clear hfz162_0
             try clear hfz164_0
             try clear hfz166_0
             try clear hfz168_0
             try clear hfz171_0
             try clear hfz173_0
             try clear hfz175_0
             try clear hfz177_0
             try clear hfz179_0
             try clear hfz181_0
             try clear hfz184_0
             try clear hfz186_0
             try clear hfz188_0
             try clear hfz190_0
             try clear hfz192_0
             try clear hfz194_0
             try clear hfz197_0
             try clear hfz199_0
             try clear hfz201_0
             try clear hfz203_0
             try clear hfz205_0
             try clear hfz207_0
             try clear hfz210_0
             try clear hfz212_0
             try clear hfz214_0
             try clear hfz216_0
             try clear hfz218_0
             try clear hfz220_0
             try clear hfz223_0
             try clear hfz225_0
             try clear hfz227_0
             try clear hfz229_0
             try clear hfz231_0
             try clear hfz233_0
             try clear hfz236_0
             try clear hfz238_0
             try clear hfz240_0
             try clear hfz242_0
             try clear hfz244_0
             try clear hfz246_0
             try clear hfz249_0
             try clear hfz251_0
             try clear hfz253_0
             try clear hfz255_0
             try clear hfz257_0
             try clear hfz271_0
             try clear hfz273_0
             try clear hfz275_0
             try clear hfz277_0
             try clear hfz279_0
             try clear hfz281_0
             try clear hfz90_0
             try clear hfz93_0
             try clear hfz95_0
             try clear hfz97_0
             try clear hfz99_0
             try clear p2
             obtain ⟨kq, x382_308, rfl, HA, HJ308, HO_41, HO_45, HO_108000, HO_153000, BK107, BK152, HB⟩ := hcut
             cases kq with
             | zero => exact absurd HA.out (by simp [laws_FnWords.j3])
             | succ kj308 =>
              have H := HA.out
              clear HA
              simp only [laws_FnWords.j3] at H
              by_cases c314 : x382_308 = true
              ·subst c314
               exact laws_FnWords.no hr_ H
              ·replace c314 := Bool.eq_false_iff.mpr c314
               subst c314
               have H1 : (laws_FnWords.l0 kj308 l0 t153 t161 (t161.length : Int) 0) = some r := by rw [if_neg (show ¬ (false = true) by decide)] at H; exact H
               clear H
               have H := H1
               clear H1
               have H' := Aside0.mk H
               clear H
               obtain ⟨Ao315, co315, eo315⟩ := Kd.R_slice HO_45.out
               subst eo315
               go_wp2
               go_loopg [385] kj308 (fun kq v385 w' => ∃ (x385_5 : Int), v385 = .int .i64 x385_5 ∧ Aside0 (laws_FnWords.l0 kq l0 t153 t161 (t161.length : Int) x385_5 = some r) ∧ Aside0 (kq ≤ kj308) ∧ Aside0 (Kd.R (Kd.int .i64) 2 w' w.heap.size (fun k_ => OB_ k_ (.slice Ao315 t161.length co315) ∧ OB_ k_ (.slice Ao18 t102.length co18) ∧ OB_ k_ (.slice Ao269 t147.length co269)) v154 t153) ∧ Aside0 (Kd.R (Kd.int .i64) 2 w' w.heap.size (fun k_ => OB_ k_ v154 ∧ OB_ k_ (.slice Ao18 t102.length co18) ∧ OB_ k_ (.slice Ao269 t147.length co269)) (.slice Ao315 t161.length co315) t161) ∧ Aside0 (Kd.R (Kd.int .i64) 2 w' w.heap.size (fun k_ => OB_ k_ v154 ∧ OB_ k_ (.slice Ao315 t161.length co315) ∧ OB_ k_ (.slice Ao269 t147.length co269)) (.slice Ao18 t102.length co18) t102) ∧ Aside0 (Kd.R (Kd.int .i64) 2 w' w.heap.size (fun k_ => OB_ k_ v154 ∧ OB_ k_ (.slice Ao315 t161.length co315) ∧ OB_ k_ (.slice Ao18 t102.length co18)) (.slice Ao269 t147.length co269) t147) ∧ Aside0 (w'.heap[gb107]? = some (.cells #[(.slice Ao18 t102.length co18)] 26 (0, 0))) ∧ Aside0 (w'.heap[gb152]? = some (.cells #[(.slice Ao269 t147.length co269)] 26 (0, 0))) ∧ Aside0 (Below w.heap.size w w'))
               case atStart => exact ⟨(0), (by first | rfl | (simp; done) | (simp [*]; done)), H', ⟨Nat.le_refl _⟩, ⟨by (with_reducible repeat (first | apply Kd.R_alloc | apply Kd.R_drewN | apply Kd.R_drew)); exact HO_41.out⟩, ⟨by (with_reducible repeat (first | apply Kd.R_alloc | apply Kd.R_drewN | apply Kd.R_drew)); exact HO_45.out⟩, ⟨by (with_reducible repeat (first | apply Kd.R_alloc | apply Kd.R_drewN | apply Kd.R_drew)); exact HO_108000.out⟩, ⟨by (with_reducible repeat (first | apply Kd.R_alloc | apply Kd.R_drewN | apply Kd.R_drew)); exact HO_153000.out⟩, ⟨by (with_reducible repeat (first | refine blk_drewN ?_ _ | refine blk_drew ?_ | refine blk_alloc ?_ _)); exact BK107.out⟩, ⟨by (with_reducible repeat (first | refine blk_drewN ?_ _ | refine blk_drew ?_ | refine blk_alloc ?_ _)); exact BK152.out⟩, ⟨gb_ HB.out⟩⟩
               case round => as_aux_lemma =>
                clear H'
                try clear c1
                try clear c2
                try clear p2
                try clear c3
                try clear c6
                try clear c7
                try clear c8
                try clear c10
                try clear c14
                try clear c21
                try clear c22
                try clear c23
                try clear c24
                try clear c25
                try clear c26
                try clear c27
                try clear c28
                try clear c30
                try clear c31
                try clear c39
                try clear c39b0
                try clear c39b1
                try clear c69
                try clear c71
                try clear c71b0
                try clear c71b1
                try clear c78
                try clear c78b0
                try clear c78b1
                try clear c79
                try clear c79b0
                try clear c79b1
                try clear c80
                try clear c80b0
                try clear c80b1
                try clear c81
                try clear c81b0
                try clear c81b1
                try clear c82
                try clear c82b0
                try clear c82b1
                try clear c83
                try clear c83b0
                try clear c83b1
                try clear c84
                try clear c84b0
                try clear c84b1
                try clear c85
                try clear c85b0
                try clear c85b1
                try clear c86
                try clear c86b0
                try clear c86b1
                try clear c87
                try clear c87b0
                try clear c87b1
                try clear c88
                try clear c88b0
                try clear c88b1
                try clear c89
                try clear c89b0
                try clear c89b1
                try clear c89b2
                try clear c270
                try clear c283
                try clear c283b0
                try clear c283b1
                try clear c285
                try clear c286
                try clear c286b0
                try clear c286b1
                try clear c288
                try clear c289
                try clear c289b0
                try clear c289b1
                try clear c306
                try clear c308
                try clear c308b0
                try clear c308b1
                try clear c310
                try clear c310b0
                try clear c310b1
                try clear c314
                try clear hcz101_0
                try clear hcz103_0
                try clear hcz106_0
                try clear hcz108_0
                try clear hcz110_0
                try clear hcz112_0
                try clear hcz114_0
                try clear hcz116_0
                try clear hcz119_0
                try clear hcz121_0
                try clear hcz123_0
                try clear hcz125_0
                try clear hcz127_0
                try clear hcz129_0
                try clear hcz132_0
                try clear hcz134_0
                try clear hcz136_0
                try clear hcz138_0
                try clear hcz140_0
                try clear hcz142_0
                try clear hcz145_0
                try clear hcz147_0
                try clear hcz149_0
                try clear hcz151_0
                try clear hcz153_0
                try clear hcz155_0
                try clear hcz158_0
                try clear hcz160_0
                try clear hcz162_0
                try clear hcz164_0
                try clear hcz166_0
                try clear hcz168_0
                try clear hcz171_0
                try clear hcz173_0
                try clear hcz175_0
                try clear hcz177_0
                try clear hcz179_0
                try clear hcz181_0
                try clear hcz184_0
                try clear hcz186_0
                try clear hcz188_0
                try clear hcz190_0
                try clear hcz192_0
                try clear hcz194_0
                try clear hcz197_0
                try clear hcz199_0
                try clear hcz201_0
                try clear hcz203_0
                try clear hcz205_0
                try clear hcz207_0
                try clear hcz210_0
                try clear hcz212_0
                try clear hcz214_0
                try clear hcz216_0
                try clear hcz218_0
                try clear hcz220_0
                try clear hcz223_0
                try clear hcz225_0
                try clear hcz227_0
                try clear hcz229_0
                try clear hcz231_0
                try clear hcz233_0
                try clear hcz236_0
                try clear hcz238_0
                try clear hcz240_0
                try clear hcz242_0
                try clear hcz244_0
                try clear hcz246_0
                try clear hcz249_0
                try clear hcz251_0
                try clear hcz253_0
                try clear hcz255_0
                try clear hcz257_0
                try clear hcz271_0
                try clear hcz273_0
                try clear hcz275_0
                try clear hcz277_0
                try clear hcz279_0
                try clear hcz281_0
                try clear hcz90_0
                try clear hcz93_0
                try clear hcz95_0
                try clear hcz97_0
                try clear hcz99_0
                try clear hfz101_0
                try clear hfz103_0
                try clear hfz106_0
                try clear hfz108_0
                try clear hfz110_0
                try clear hfz112_0
                try clear hfz114_0
                try clear hfz116_0
                try clear hfz119_0
                try clear hfz121_0
                try clear hfz123_0
                try clear hfz125_0
                try clear hfz127_0
                try clear hfz129_0
                try clear hfz132_0
                try clear hfz134_0
                try clear hfz136_0
                try clear hfz138_0
                try clear hfz140_0
                try clear hfz142_0
                try clear hfz145_0
                try clear hfz147_0
                try clear hfz149_0
                try clear hfz151_0
                try clear hfz153_0
                try clear hfz155_0
                try clear hfz158_0
                try clear hfz160_0
                try clear hfz162_0
                try clear hfz164_0
                try clear hfz166_0
                try clear hfz168_0
                try clear hfz171_0
                try clear hfz173_0
                try clear hfz175_0
                try clear hfz177_0
                try clear hfz179_0
                try clear hfz181_0
                try clear hfz184_0
                try clear hfz186_0
                try clear hfz188_0
                try clear hfz190_0
                try clear hfz192_0
                try clear hfz194_0
                try clear hfz197_0
                try clear hfz199_0
                try clear hfz201_0
                try clear hfz203_0
                try clear hfz205_0
                try clear hfz207_0
                try clear hfz210_0
                try clear hfz212_0
                try clear hfz214_0
                try clear hfz216_0
                try clear hfz218_0
                try clear hfz220_0
                try clear hfz223_0
                try clear hfz225_0
                try clear hfz227_0
                try clear hfz229_0
                try clear hfz231_0
                try clear hfz233_0
                try clear hfz236_0
                try clear hfz238_0
                try clear hfz240_0
                try clear hfz242_0
                try clear hfz244_0
                try clear hfz246_0
                try clear hfz249_0
                try clear hfz251_0
                try clear hfz253_0
                try clear hfz255_0
                try clear hfz257_0
                try clear hfz271_0
                try clear hfz273_0
                try clear hfz275_0
                try clear hfz277_0
                try clear hfz279_0
                try clear hfz281_0
                try clear hfz90_0
                try clear hfz93_0
                try clear hfz95_0
                try clear hfz97_0
                try clear hfz99_0
                try clear p2
                obtain ⟨x385_5, rfl, HA, HK5, HO_41, HO_45, HO_108000, HO_153000, BK107, BK152, HB⟩ := hrel
                cases gk with
                | zero => exact absurd HA.out (by simp [laws_FnWords.l0])
                | succ k5 =>
                 have H := HA.out
                 clear HA
                 simp only [laws_FnWords.l0] at H
                 by_cases c316 : x385_5 < (t161.length : Int)
                 ·rw [if_pos c316] at H
                  have c316b0 : decide (x385_5 < (t161.length : Int)) = true := decide_eq_true c316
                  clear c316
                  by_cases c317 : 0 ≤ x385_5
                  ·rw [if_pos c317] at H
                   have c317b0 : decide (0 ≤ x385_5) = true := decide_eq_true c317
                   clear c317
                   by_cases c318 : x385_5 < (t161.length : Int)
                   ·rw [if_pos c318] at H
                    have c318b0 : decide (x385_5 < (t161.length : Int)) = true := decide_eq_true c318
                    clear c318
                    replace H := Option.bind_eq_some_iff.mp H
                    obtain ⟨t176, A3190, H⟩ := H
                    replace H : (if t176 = true then (laws_FnWords.l0 k5 l0 t153 t161 (t161.length : Int) (wrap64 (x385_5 + 1))) else (some false)) = some r := H
                    have A319 := Aside0.mk A3190
                    clear A3190
                    by_cases c320 : t176 = true
                    ·subst c320
                     have H1 : (laws_FnWords.l0 k5 l0 t153 t161 (t161.length : Int) (wrap64 (x385_5 + 1))) = some r := by rw [if_pos rfl] at H; exact H
                     clear H
                     have H := H1
                     clear H1
                     have H' := Aside0.mk H
                     clear H
                     have p175 : 0 ≤ (x385_5 : Int) := of_decide_eq_true (by first | (with_reducible assumption) | assumption)
                     have q175 : x385_5 < (t161.length : Int) := of_decide_eq_true (by first | (with_reducible assumption) | assumption)
                     obtain ⟨ad175, e175, hx175_0⟩ := Kd.at_int (Kd.R_reads' HO_45.out).2.2 x385_5 p175 q175
                     cases e175
                     replace p175 := eq_true p175
                     replace q175 := eq_true q175
                     obtain ⟨Ao321, co321, eo321⟩ := Kd.R_slice HO_41.out
                     subst eo321
                     go_wp2_with (first | ((with_reducible refine gate_callee (f := 29) rfl ?_); refine goesL_ (some 393) rfl rfl Try.func29 (by kernel_rfl) rfl #[.slice Ao321 t153.length co321, .int .i64 (rd t161 x385_5)] rfl (by (try simp only [List.map_toArray, List.map_cons, List.map_nil]); first | done | rfl | (simp only [List.length_drop, List.length_take]; rfl)) ?_; (with_reducible refine (laws_hasInt.calls k5 _ _ t153 (rd t161 x385_5) true _ ?side1 ?side2 A319.out).mono ?_); (case side1 => repeat (first | exact (Kd.R_reads' HO_41.out).2.2 | (with_reducible refine Kd.C_alloc ?_ _) | (with_reducible refine Kd.C_drewN ?_ _) | (with_reducible refine Kd.C_drew ?_))); (case side2 => exact (Kd.R_reads' HO_41.out).2.1); rintro e w' ⟨rfl, ⟨nd, rfl⟩⟩; refine ⟨_, rfl, ?_⟩))
                     go_roundg k5
                     case measure => have := HJ14.out; have := HJ69.out; have := HJ265.out; have := HJ308.out; have := HK5.out; omega
                     case rel => exact ⟨(wrap64 (x385_5 + 1)), (by first | rfl | (simp; done) | (simp [*]; done)), H', ⟨by have := HJ14.out; have := HJ69.out; have := HJ265.out; have := HJ308.out; have := HK5.out; omega⟩, ⟨by (with_reducible repeat (first | apply Kd.R_alloc | apply Kd.R_drewN | apply Kd.R_drew)); exact HO_41.out⟩, ⟨by (with_reducible repeat (first | apply Kd.R_alloc | apply Kd.R_drewN | apply Kd.R_drew)); exact HO_45.out⟩, ⟨by (with_reducible repeat (first | apply Kd.R_alloc | apply Kd.R_drewN | apply Kd.R_drew)); exact HO_108000.out⟩, ⟨by (with_reducible repeat (first | apply Kd.R_alloc | apply Kd.R_drewN | apply Kd.R_drew)); exact HO_153000.out⟩, ⟨by (with_reducible repeat (first | refine blk_drewN ?_ _ | refine blk_drew ?_ | refine blk_alloc ?_ _)); exact BK107.out⟩, ⟨by (with_reducible repeat (first | refine blk_drewN ?_ _ | refine blk_drew ?_ | refine blk_alloc ?_ _)); exact BK152.out⟩, ⟨gb_ HB.out⟩⟩
                    ·replace c320 := Bool.eq_false_iff.mpr c320
                     subst c320
                     exact laws_FnWords.no hr_ H
                   ·rw [if_neg c318] at H
                    exact laws_FnWords.no hr_ H
                  ·rw [if_neg c317] at H
                   exact laws_FnWords.no hr_ H
                 ·rw [if_neg c316] at H
                  have c316b0 : decide (x385_5 < (t161.length : Int)) = false := decide_eq_false c316
                  clear c316
                  have H' := Aside0.mk H
                  clear H
                  go_wp2
                  go_meet
                  case rel => exact ⟨_, H', ⟨by have := HJ14.out; have := HJ69.out; have := HJ265.out; have := HJ308.out; have := HK5.out; first | omega | exact Nat.le_refl _⟩, ⟨by (with_reducible repeat (first | apply Kd.R_alloc | apply Kd.R_drewN | apply Kd.R_drew)); exact Kd.R_mono HO_108000.out (fun _ hk => hk.2.2)⟩, ⟨by (with_reducible repeat (first | apply Kd.R_alloc | apply Kd.R_drewN | apply Kd.R_drew)); exact Kd.R_mono HO_153000.out (fun _ hk => hk.2.2)⟩, ⟨by (with_reducible repeat (first | refine blk_drewN ?_ _ | refine blk_drew ?_ | refine blk_alloc ?_ _)); exact BK107.out⟩, ⟨by (with_reducible repeat (first | refine blk_drewN ?_ _ | refine blk_drew ?_ | refine blk_alloc ?_ _)); exact BK152.out⟩, ⟨gb_ HB.out⟩⟩
           ·rw [if_neg c308] at H
            have c308b0 : (t156 == 0) = false := beq_eq_false_iff_ne.mpr c308
            have c308b1 : (t156 != 0) = true := bne_iff_ne.mpr c308
            (first | rw [c308b0] | (simp only [i64_w, i32_w]; rw [c308b0]) | skip)
            have H' := Aside0.mk H
            clear H
            go_wp2
            go_meet
            case rel => exact ⟨_, H', ⟨by have := HJ14.out; have := HJ69.out; have := HJ265.out; first | omega | exact Nat.le_refl _⟩, ⟨by (with_reducible repeat (first | apply Kd.R_alloc | apply Kd.R_drewN | apply Kd.R_drew)); exact Kd.R_mono HO_108000.out (fun _ hk => hk.2.2)⟩, ⟨by (with_reducible repeat (first | apply Kd.R_alloc | apply Kd.R_drewN | apply Kd.R_drew)); exact Kd.R_mono HO_153000.out (fun _ hk => hk.2.2)⟩, ⟨by (with_reducible repeat (first | refine blk_drewN ?_ _ | refine blk_drew ?_ | refine blk_alloc ?_ _)); exact BK107.out⟩, ⟨by (with_reducible repeat (first | refine blk_drewN ?_ _ | refine blk_drew ?_ | refine blk_alloc ?_ _)); exact BK152.out⟩, ⟨gb_ HB.out⟩⟩
          case rest => as_aux_lemma =>
           clear HC307
           try clear c1
           try clear p1
           try clear q1
           try clear hx1
           try clear c2
           try clear p2
           try clear c3
           try clear c6
           try clear p6
           try clear c7
           try clear c8
           try clear c10
           try clear c14
           try clear p17
           try clear q17
           try clear hx17
           try clear c21
           try clear c22
           try clear c23
           try clear c24
           try clear c25
           try clear c26
           try clear c27
           try clear c28
           try clear c29
           try clear c30
           try clear c31
           try clear c32
           try clear c39
           try clear c39b0
           try clear c39b1
           try clear p64
           try clear c69
           try clear c71
           try clear c71b0
           try clear c71b1
           try clear c78
           try clear c78b0
           try clear c78b1
           try clear c79
           try clear c79b0
           try clear c79b1
           try clear c80
           try clear c80b0
           try clear c80b1
           try clear c81
           try clear c81b0
           try clear c81b1
           try clear c82
           try clear c82b0
           try clear c82b1
           try clear c83
           try clear c83b0
           try clear c83b1
           try clear c84
           try clear c84b0
           try clear c84b1
           try clear c85
           try clear c85b0
           try clear c85b1
           try clear c86
           try clear c86b0
           try clear c86b1
           try clear c87
           try clear c87b0
           try clear c87b1
           try clear c88
           try clear c88b0
           try clear c88b1
           try clear c89
           try clear c89b0
           try clear c89b1
           try clear c89b2
           try clear p175
           try clear q175
           try clear hx175
           try clear c270
           try clear c283
           try clear c283b0
           try clear c283b1
           try clear c285
           try clear c286
           try clear c286b0
           try clear c286b1
           try clear c288
           try clear c289
           try clear c289b0
           try clear c289b1
           try clear c306
           try clear c308
           try clear c308b0
           try clear c308b1
           try clear c310
           try clear c310b0
           try clear c310b1
           try clear c314
           try clear c316
           try clear c316b0
           try clear c317
           try clear c317b0
           try clear c318
           try clear c318b0
           try clear c320
           try clear hcz101_0
           try clear hcz103_0
           try clear hcz106_0
           try clear hcz108_0
           try clear hcz110_0
           try clear hcz112_0
           try clear hcz114_0
           try clear hcz116_0
           try clear hcz119_0
           try clear hcz121_0
           try clear hcz123_0
           try clear hcz125_0
           try clear hcz127_0
           try clear hcz129_0
           try clear hcz132_0
           try clear hcz134_0
           try clear hcz136_0
           try clear hcz138_0
           try clear hcz140_0
           try clear hcz142_0
           try clear hcz145_0
           try clear hcz147_0
           try clear hcz149_0
           try clear hcz151_0
           try clear hcz153_0
           try clear hcz155_0
           try clear hcz158_0
           try clear hcz160_0
           try clear hcz162_0
           try clear hcz164_0
           try clear hcz166_0
           try clear hcz168_0
           try clear hcz171_0
           try clear hcz173_0
           try clear hcz175_0
           try clear hcz177_0
           try clear hcz179_0
           try clear hcz181_0
           try clear hcz184_0
           try clear hcz186_0
           try clear hcz188_0
           try clear hcz190_0
           try clear hcz192_0
           try clear hcz194_0
           try clear hcz197_0
           try clear hcz199_0
           try clear hcz201_0
           try clear hcz203_0
           try clear hcz205_0
           try clear hcz207_0
           try clear hcz210_0
           try clear hcz212_0
           try clear hcz214_0
           try clear hcz216_0
           try clear hcz218_0
           try clear hcz220_0
           try clear hcz223_0
           try clear hcz225_0
           try clear hcz227_0
           try clear hcz229_0
           try clear hcz231_0
           try clear hcz233_0
           try clear hcz236_0
           try clear hcz238_0
           try clear hcz240_0
           try clear hcz242_0
           try clear hcz244_0
           try clear hcz246_0
           try clear hcz249_0
           try clear hcz251_0
           try clear hcz253_0
           try clear hcz255_0
           try clear hcz257_0
           try clear hcz271_0
           try clear hcz273_0
           try clear hcz275_0
           try clear hcz277_0
           try clear hcz279_0
           try clear hcz281_0
           try clear hcz90_0
           try clear hcz93_0
           try clear hcz95_0
           try clear hcz97_0
           try clear hcz99_0
           try clear hfz101_0
           try clear hfz103_0
           try clear hfz106_0
           try clear hfz108_0
           try clear hfz110_0
           try clear hfz112_0
           try clear hfz114_0
           try clear hfz116_0
           try clear hfz119_0
           try clear hfz121_0
           try clear hfz123_0
           try clear hfz125_0
           try clear hfz127_0
           try clear hfz129_0
           try clear hfz132_0
           try clear hfz134_0
           try clear hfz136_0
           try clear hfz138_0
           try clear hfz140_0
           try clear hfz142_0
           try clear hfz145_0
           try clear hfz147_0
           try clear hfz149_0
           try clear hfz151_0
           try clear hfz153_0
           try clear hfz155_0
           try clear hfz158_0
           try clear hfz160_0
           try clear hfz162_0
           try clear hfz164_0
           try clear hfz166_0
           try clear hfz168_0
           try clear hfz171_0
           try clear hfz173_0
           try clear hfz175_0
           try clear hfz177_0
           try clear hfz179_0
           try clear hfz181_0
           try clear hfz184_0
           try clear hfz186_0
           try clear hfz188_0
           try clear hfz190_0
           try clear hfz192_0
           try clear hfz194_0
           try clear hfz197_0
           try clear hfz199_0
           try clear hfz201_0
           try clear hfz203_0
           try clear hfz205_0
           try clear hfz207_0
           try clear hfz210_0
           try clear hfz212_0
           try clear hfz214_0
           try clear hfz216_0
           try clear hfz218_0
           try clear hfz220_0
           try clear hfz223_0
           try clear hfz225_0
           try clear hfz227_0
           try clear hfz229_0
           try clear hfz231_0
           try clear hfz233_0
           try clear hfz236_0
           try clear hfz238_0
           try clear hfz240_0
           try clear hfz242_0
           try clear hfz244_0
           try clear hfz246_0
           try clear hfz249_0
           try clear hfz251_0
           try clear hfz253_0
           try clear hfz255_0
           try clear hfz257_0
           try clear hfz271_0
           try clear hfz273_0
           try clear hfz275_0
           try clear hfz277_0
           try clear hfz279_0
           try clear hfz281_0
           try clear hfz90_0
           try clear hfz93_0
           try clear hfz95_0
           try clear hfz97_0
           try clear hfz99_0
           try clear hx175_0
           try clear p175
           try clear p2
           try clear q175
           obtain ⟨kq, HA, HJ306, HO_108000, HO_153000, BK107, BK152, HB⟩ := hcut
           cases kq with
           | zero => exact absurd HA.out (by simp [laws_FnWords.j5])
           | succ kj306 =>
            have H := HA.out
            clear HA
            simp only [laws_FnWords.j5] at H
            replace H := Option.bind_eq_some_iff.mp H
            obtain ⟨⟨t177, t180, t181, t182⟩, A3230, H⟩ := H
            replace H : ((impl_ChangeDigit.f t177 t180 t181 t182).bind fun bt184 => ((spec_ChangeDigit.f kj306 t177 t180 t181 t182).bind fun bt186 => ((spec_DrawWordOf.f kj306 l0).bind fun bt188 => ((impl_WordOf.f kj306 bt188.1 bt188.2).bind fun bt195 => ((spec_WordOf.f kj306 bt188.1 bt188.2).bind fun bt197 => (if bt184.2 = bt186.2 then (if bt184.1 = bt186.1 then (if bt195.2 = bt197.2 then (laws_FnWords.j6 kj306 t180 bt184.1 bt184.2 (bt195.1 != bt197.1) t177) else (laws_FnWords.j6 kj306 t180 bt184.1 bt184.2 true t177)) else (laws_FnWords.j6 kj306 t180 bt184.1 bt184.2 true t177)) else (laws_FnWords.j6 kj306 t180 bt184.1 bt184.2 true t177))))))) = some r := H
            have A323 := Aside0.mk A3230
            clear A3230
            replace H := Option.bind_eq_some_iff.mp H
            obtain ⟨⟨t184, t185⟩, A3240, H⟩ := H
            replace H : ((spec_ChangeDigit.f kj306 t177 t180 t181 t182).bind fun bt186 => ((spec_DrawWordOf.f kj306 l0).bind fun bt188 => ((impl_WordOf.f kj306 bt188.1 bt188.2).bind fun bt195 => ((spec_WordOf.f kj306 bt188.1 bt188.2).bind fun bt197 => (if t185 = bt186.2 then (if t184 = bt186.1 then (if bt195.2 = bt197.2 then (laws_FnWords.j6 kj306 t180 t184 t185 (bt195.1 != bt197.1) t177) else (laws_FnWords.j6 kj306 t180 t184 t185 true t177)) else (laws_FnWords.j6 kj306 t180 t184 t185 true t177)) else (laws_FnWords.j6 kj306 t180 t184 t185 true t177)))))) = some r := H
            have A324 := Aside0.mk A3240
            clear A3240
            replace H := Option.bind_eq_some_iff.mp H
            obtain ⟨⟨t186, t187⟩, A3250, H⟩ := H
            replace H : ((spec_DrawWordOf.f kj306 l0).bind fun bt188 => ((impl_WordOf.f kj306 bt188.1 bt188.2).bind fun bt195 => ((spec_WordOf.f kj306 bt188.1 bt188.2).bind fun bt197 => (if t185 = t187 then (if t184 = t186 then (if bt195.2 = bt197.2 then (laws_FnWords.j6 kj306 t180 t184 t185 (bt195.1 != bt197.1) t177) else (laws_FnWords.j6 kj306 t180 t184 t185 true t177)) else (laws_FnWords.j6 kj306 t180 t184 t185 true t177)) else (laws_FnWords.j6 kj306 t180 t184 t185 true t177))))) = some r := H
            have A325 := Aside0.mk A3250
            clear A3250
            replace H := Option.bind_eq_some_iff.mp H
            obtain ⟨⟨t188, t191⟩, A3260, H⟩ := H
            replace H : ((impl_WordOf.f kj306 t188 t191).bind fun bt195 => ((spec_WordOf.f kj306 t188 t191).bind fun bt197 => (if t185 = t187 then (if t184 = t186 then (if bt195.2 = bt197.2 then (laws_FnWords.j6 kj306 t180 t184 t185 (bt195.1 != bt197.1) t177) else (laws_FnWords.j6 kj306 t180 t184 t185 true t177)) else (laws_FnWords.j6 kj306 t180 t184 t185 true t177)) else (laws_FnWords.j6 kj306 t180 t184 t185 true t177)))) = some r := H
            have A326 := Aside0.mk A3260
            clear A3260
            replace H := Option.bind_eq_some_iff.mp H
            obtain ⟨⟨t195, t196⟩, A3270, H⟩ := H
            replace H : ((spec_WordOf.f kj306 t188 t191).bind fun bt197 => (if t185 = t187 then (if t184 = t186 then (if t196 = bt197.2 then (laws_FnWords.j6 kj306 t180 t184 t185 (t195 != bt197.1) t177) else (laws_FnWords.j6 kj306 t180 t184 t185 true t177)) else (laws_FnWords.j6 kj306 t180 t184 t185 true t177)) else (laws_FnWords.j6 kj306 t180 t184 t185 true t177))) = some r := H
            have A327 := Aside0.mk A3270
            clear A3270
            replace H := Option.bind_eq_some_iff.mp H
            obtain ⟨⟨t197, t198⟩, A3280, H⟩ := H
            replace H : (if t185 = t187 then (if t184 = t186 then (if t196 = t198 then (laws_FnWords.j6 kj306 t180 t184 t185 (t195 != t197) t177) else (laws_FnWords.j6 kj306 t180 t184 t185 true t177)) else (laws_FnWords.j6 kj306 t180 t184 t185 true t177)) else (laws_FnWords.j6 kj306 t180 t184 t185 true t177)) = some r := H
            have A328 := Aside0.mk A3280
            clear A3280
            have HC329 := Aside0.mk H
            clear H
            go_upto_region 49 with (first | ((with_reducible refine gate_callee (f := 30) rfl ?_); refine goesL_ (some 398) rfl rfl Try.func30 (by kernel_rfl) rfl #[.slice A0 l0.length c0] rfl (by (try simp only [List.map_toArray, List.map_cons, List.map_nil]); first | done | rfl | (simp only [List.length_drop, List.length_take]; rfl)) ?_; (with_reducible refine (spec_DrawChangeDigit.calls kj306 _ _ l0 t177 t180 t181 t182 _ ?side1 ?side2 A323.out).mono ?_); (case side1 => repeat (first | exact (Kd.C_below HR0.out HB.out) | (with_reducible refine Kd.C_alloc ?_ _) | (with_reducible refine Kd.C_drewN ?_ _) | (with_reducible refine Kd.C_drew ?_))); (case side2 => exact HC0.out); rintro e w330 ⟨v178, rfl, ho0, hb⟩; refine ⟨_, rfl, ?_⟩; have n0_ := Aside0.mk (Kd.R_elder' (rb_ HO_108000.out) (Kd.R_base ho0) hb); have n1_ := Aside0.mk (Kd.R_elder' (rb_ HO_153000.out) (Kd.R_base ho0) hb); have n2_ := Aside0.mk (Kd.R_lower (Kd.R_new' (Kd.R_new' ho0 (Kd.R_lt (rb_ HO_108000.out))) (Kd.R_lt (rb_ HO_153000.out))) (below_size (gb_ HB.out))); have n3_ := Aside0.mk (blk_below (g := gb107) (o := .cells #[.slice Ao18 t102.length co18] 26 (0, 0)) (bb_ BK107.out) hb); have n4_ := Aside0.mk (blk_below (g := gb152) (o := .cells #[.slice Ao269 t147.length co269] 26 (0, 0)) (bb_ BK152.out) hb); have n5_ := Aside0.mk (below_step (gb_ HB.out) hb); clear HO_108000 HO_153000 BK107 BK152 HB; have HO_108000 := n0_; have HO_153000 := n1_; have HO179 := n2_; have BK107 := n3_; have BK152 := n4_; have HB := n5_; clear n0_ n1_ n2_ n3_ n4_ n5_; (try clear hb); (try clear hb2); (try clear hk); (try clear hi); (try clear ho0)) | ((with_reducible refine gate_dst (N := 54) rfl ?_); refine box_event ?hg (N := 54) ?hd (cs := #[.slice none 0 0]) (t := 26) ?hr ?_; (case hd => rfl); (case hg => rfl); (case hr => first | (go_simp; done) | (go_simp; rfl)); intro gb183 hg w331 hbox hb; have n0_ := Aside0.mk (Kd.R_below (rb_ HO_108000.out) hb); have n1_ := Aside0.mk (Kd.R_below (rb_ HO_153000.out) hb); have n2_ := Aside0.mk (Kd.R_below (rb_ HO179.out) hb); have n3_ := Aside0.mk (blk_below (g := gb107) (o := .cells #[.slice Ao18 t102.length co18] 26 (0, 0)) (bb_ BK107.out) hb); have n4_ := Aside0.mk (blk_below (g := gb152) (o := .cells #[.slice Ao269 t147.length co269] 26 (0, 0)) (bb_ BK152.out) hb); have n5_ := Aside0.mk (below_step (gb_ HB.out) hb); have n6_ := Aside0.mk (hbox); have n7_ := Aside0.mk ((by rw [hg]; exact (below_size (gb_ HB.out)) : w.heap.size ≤ gb183)); have n8_ := Aside0.mk ((by rw [hg]; exact (below_size (gb_ HB.out)) : w.heap.size ≤ gb183)); have n9_ := Aside0.mk ((by rw [hg]; exact Nat.ne_of_lt (blk_lt (g := gb107) (o := .cells #[.slice Ao18 t102.length co18] 26 (0, 0)) (bb_ BK107.out)) : gb107 ≠ gb183)); have n10_ := Aside0.mk ((by rw [hg]; exact Nat.ne_of_gt (blk_lt (g := gb107) (o := .cells #[.slice Ao18 t102.length co18] 26 (0, 0)) (bb_ BK107.out)) : gb183 ≠ gb107)); have n11_ := Aside0.mk ((by rw [hg]; exact Nat.ne_of_lt (blk_lt (g := gb152) (o := .cells #[.slice Ao269 t147.length co269] 26 (0, 0)) (bb_ BK152.out)) : gb152 ≠ gb183)); have n12_ := Aside0.mk ((by rw [hg]; exact Nat.ne_of_gt (blk_lt (g := gb152) (o := .cells #[.slice Ao269 t147.length co269] 26 (0, 0)) (bb_ BK152.out)) : gb183 ≠ gb152)); clear HO_108000 HO_153000 HO179 BK107 BK152 HB; have HO_108000 := n0_; have HO_153000 := n1_; have HO179 := n2_; have BK107 := n3_; have BK152 := n4_; have HB := n5_; have BK183 := n6_; have GW183 := n7_; have GE183 := n8_; have NB107_183 := n9_; have NB183_107 := n10_; have NB152_183 := n11_; have NB183_152 := n12_; clear n0_ n1_ n2_ n3_ n4_ n5_ n6_ n7_ n8_ n9_ n10_ n11_ n12_ hb hbox hg; obtain ⟨Ao332, co332, eo332⟩ := Kd.R_slice HO179.out; subst eo332; have hnb333 := NB183_107.out; have hnc333 := NB107_183.out; have hnb334 := NB183_152.out; have hnc334 := NB152_183.out; have hcz335_0 : w331.cell? ⟨gb183, 0, none⟩ = some (.slice none 0 0) := (blk_cell BK183.out 0).trans rfl; have hfz335_0 := blk_frozen BK183.out 0) | ((with_reducible refine gate_callee (f := 31) rfl ?_); refine goesL_ (some 408) rfl rfl Try.func31 (by kernel_rfl) rfl #[.agg #[.slice Ao332 t177.length co332], .int .i64 t180, .int .i64 t181, .int .i64 t182] rfl (by (try simp only [List.map_toArray, List.map_cons, List.map_nil]); first | done | rfl | (simp only [List.length_drop, List.length_take]; rfl)) ?_; (with_reducible refine (impl_ChangeDigit.calls _ _ t177 t180 t181 t182 t184 t185 _ ?side1 ?side2 A324.out).mono ?_); (case side1 => refine (Kd.R_reads' (e := 2) (base := w.heap.size) (ok := fun _ => True) (n := t177.length) (c := co332) ?_).2.2; exact (rb_ (Kd.R_mono (Kd.R_far (p := ⟨gb183, 0, none⟩) (Kd.R_types HO179.out BK183.out (by decide)) (fun _ hk => hk.2) (.slice Ao332 t177.length co332)) (fun _ _ => trivial)))); (case side2 => exact (Kd.R_reads' HO179.out).2.1); rintro e w336 ⟨rfl, hb⟩; refine ⟨_, rfl, ?_⟩; have n0_ := Aside0.mk (Kd.R_below (rb_ (Kd.R_mono (Kd.R_far (p := ⟨gb183, 0, none⟩) (Kd.R_types HO_108000.out BK183.out (by decide)) (fun _ hk => hk.2) (.slice Ao332 t177.length co332)) (fun _ h_ => h_.1))) hb); have n1_ := Aside0.mk (Kd.R_below (rb_ (Kd.R_mono (Kd.R_far (p := ⟨gb183, 0, none⟩) (Kd.R_types HO_153000.out BK183.out (by decide)) (fun _ hk => hk.2) (.slice Ao332 t177.length co332)) (fun _ h_ => h_.1))) hb); have n2_ := Aside0.mk (Kd.R_below (rb_ (Kd.R_mono (Kd.R_far (p := ⟨gb183, 0, none⟩) (Kd.R_types HO179.out BK183.out (by decide)) (fun _ hk => hk.2) (.slice Ao332 t177.length co332)) (fun _ h_ => h_.1))) hb); have n3_ := Aside0.mk (blk_below (g := gb107) (o := .cells #[.slice Ao18 t102.length co18] 26 (0, 0)) (by (with_reducible repeat (first | refine blk_drewN ?_ _ | refine blk_drew ?_ | refine blk_alloc ?_ _)); refine blk_far ?_ NB107_183.out _; (with_reducible repeat (first | refine blk_drewN ?_ _ | refine blk_drew ?_ | refine blk_alloc ?_ _)); exact BK107.out) hb); have n4_ := Aside0.mk (blk_below (g := gb152) (o := .cells #[.slice Ao269 t147.length co269] 26 (0, 0)) (by (with_reducible repeat (first | refine blk_drewN ?_ _ | refine blk_drew ?_ | refine blk_alloc ?_ _)); refine blk_far ?_ NB152_183.out _; (with_reducible repeat (first | refine blk_drewN ?_ _ | refine blk_drew ?_ | refine blk_alloc ?_ _)); exact BK152.out) hb); have n5_ := Aside0.mk (blk_below (g := gb183) (o := .cells #[.slice Ao332 t177.length co332] 26 (0, 0)) (by (with_reducible repeat (first | refine blk_drewN ?_ _ | refine blk_drew ?_ | refine blk_alloc ?_ _)); refine blk_put (cs := #[.slice none 0 0]) ?_ 0 _ rfl; (with_reducible repeat (first | refine blk_drewN ?_ _ | refine blk_drew ?_ | refine blk_alloc ?_ _)); exact BK183.out) hb); have n6_ := Aside0.mk (below_step (gb_ HB.out) hb); clear HO_108000 HO_153000 HO179 BK107 BK152 BK183 HB; have HO_108000 := n0_; have HO_153000 := n1_; have HO179 := n2_; have BK107 := n3_; have BK152 := n4_; have BK183 := n5_; have HB := n6_; clear n0_ n1_ n2_ n3_ n4_ n5_ n6_; (try clear hb); (try clear hb2); (try clear hk); (try clear hi); have hcz337_0 : w336.cell? ⟨gb183, 0, none⟩ = some (.slice Ao332 t177.length co332) := (blk_cell BK183.out 0).trans rfl; have hfz337_0 := blk_frozen BK183.out 0) | ((with_reducible refine gate_callee (f := 32) rfl ?_); refine goesL_ (some 416) rfl rfl Try.func32 (by kernel_rfl) rfl #[.agg #[.slice Ao332 t177.length co332], .int .i64 t180, .int .i64 t181, .int .i64 t182] rfl (by (try simp only [List.map_toArray, List.map_cons, List.map_nil]); first | done | rfl | (simp only [List.length_drop, List.length_take]; rfl)) ?_; (with_reducible refine (spec_ChangeDigit.calls kj306 _ _ t177 t180 t181 t182 t186 t187 _ ?side1 ?side2 A325.out).mono ?_); (case side1 => repeat (first | exact (Kd.R_reads' HO179.out).2.2 | (with_reducible refine Kd.C_alloc ?_ _) | (with_reducible refine Kd.C_drewN ?_ _) | (with_reducible refine Kd.C_drew ?_))); (case side2 => exact (Kd.R_reads' HO179.out).2.1); rintro e w338 ⟨rfl, hb⟩; refine ⟨_, rfl, ?_⟩; have n0_ := Aside0.mk (Kd.R_below (rb_ HO_108000.out) hb); have n1_ := Aside0.mk (Kd.R_below (rb_ HO_153000.out) hb); have n2_ := Aside0.mk (Kd.R_below (rb_ HO179.out) hb); have n3_ := Aside0.mk (blk_below (g := gb107) (o := .cells #[.slice Ao18 t102.length co18] 26 (0, 0)) (bb_ BK107.out) hb); have n4_ := Aside0.mk (blk_below (g := gb152) (o := .cells #[.slice Ao269 t147.length co269] 26 (0, 0)) (bb_ BK152.out) hb); have n5_ := Aside0.mk (blk_below (g := gb183) (o := .cells #[.slice Ao332 t177.length co332] 26 (0, 0)) (bb_ BK183.out) hb); have n6_ := Aside0.mk (below_step (gb_ HB.out) hb); clear HO_108000 HO_153000 HO179 BK107 BK152 BK183 HB; have HO_108000 := n0_; have HO_153000 := n1_; have HO179 := n2_; have BK107 := n3_; have BK152 := n4_; have BK183 := n5_; have HB := n6_; clear n0_ n1_ n2_ n3_ n4_ n5_ n6_; (try clear hb); (try clear hb2); (try clear hk); (try clear hi)) | ((with_reducible refine gate_callee (f := 33) rfl ?_); refine goesL_ (some 421) rfl rfl Try.func33 (by kernel_rfl) rfl #[.slice A0 l0.length c0] rfl (by (try simp only [List.map_toArray, List.map_cons, List.map_nil]); first | done | rfl | (simp only [List.length_drop, List.length_take]; rfl)) ?_; (with_reducible refine (spec_DrawWordOf.calls kj306 _ _ l0 t188 t191 _ ?side1 ?side2 A326.out).mono ?_); (case side1 => repeat (first | exact (Kd.C_below HR0.out HB.out) | (with_reducible refine Kd.C_alloc ?_ _) | (with_reducible refine Kd.C_drewN ?_ _) | (with_reducible refine Kd.C_drew ?_))); (case side2 => exact HC0.out); rintro e w339 ⟨v189, v192, rfl, ho0, ho1, hb⟩; refine ⟨_, rfl, ?_⟩; have n0_ := Aside0.mk (Kd.R_mono (Kd.R_told (Kd.R_told (Kd.R_old (rb_ HO_108000.out) hb) (Kd.R_base ho0)) (Kd.R_base ho1)) (fun _ h_ => h_.1)); have n1_ := Aside0.mk (Kd.R_mono (Kd.R_told (Kd.R_told (Kd.R_old (rb_ HO_153000.out) hb) (Kd.R_base ho0)) (Kd.R_base ho1)) (fun _ h_ => h_.1)); have n2_ := Aside0.mk (Kd.R_mono (Kd.R_told (Kd.R_told (Kd.R_old (rb_ HO179.out) hb) (Kd.R_base ho0)) (Kd.R_base ho1)) (fun _ h_ => h_.1)); have n3_ := Aside0.mk (Kd.R_lower (Kd.R_new' (Kd.R_new' (Kd.R_new' ho0 (Kd.R_lt (rb_ HO_108000.out))) (Kd.R_lt (rb_ HO_153000.out))) (Kd.R_lt (rb_ HO179.out))) (below_size (gb_ HB.out))); have n4_ := Aside0.mk (Kd.R_lower (Kd.R_new' (Kd.R_new' (Kd.R_new' ho1 (Kd.R_lt (rb_ HO_108000.out))) (Kd.R_lt (rb_ HO_153000.out))) (Kd.R_lt (rb_ HO179.out))) (below_size (gb_ HB.out))); have n5_ := Aside0.mk (blk_below (g := gb107) (o := .cells #[.slice Ao18 t102.length co18] 26 (0, 0)) (bb_ BK107.out) hb); have n6_ := Aside0.mk (blk_below (g := gb152) (o := .cells #[.slice Ao269 t147.length co269] 26 (0, 0)) (bb_ BK152.out) hb); have n7_ := Aside0.mk (blk_below (g := gb183) (o := .cells #[.slice Ao332 t177.length co332] 26 (0, 0)) (bb_ BK183.out) hb); have n8_ := Aside0.mk (below_step (gb_ HB.out) hb); clear HO_108000 HO_153000 HO179 BK107 BK152 BK183 HB; have HO_108000 := n0_; have HO_153000 := n1_; have HO179 := n2_; have HO190 := n3_; have HO193 := n4_; have BK107 := n5_; have BK152 := n6_; have BK183 := n7_; have HB := n8_; clear n0_ n1_ n2_ n3_ n4_ n5_ n6_ n7_ n8_; (try clear hb); (try clear hb2); (try clear hk); (try clear hi); (try clear ho0); (try clear ho1)) | ((with_reducible refine gate_dst (N := 62) rfl ?_); refine box_event ?hg (N := 62) ?hd (cs := #[.slice none 0 0]) (t := 26) ?hr ?_; (case hd => rfl); (case hg => rfl); (case hr => first | (go_simp; done) | (go_simp; rfl)); intro gb194 hg w340 hbox hb; have n0_ := Aside0.mk (Kd.R_below (rb_ HO_108000.out) hb); have n1_ := Aside0.mk (Kd.R_below (rb_ HO_153000.out) hb); have n2_ := Aside0.mk (Kd.R_below (rb_ HO179.out) hb); have n3_ := Aside0.mk (Kd.R_below (rb_ HO190.out) hb); have n4_ := Aside0.mk (Kd.R_below (rb_ HO193.out) hb); have n5_ := Aside0.mk (blk_below (g := gb107) (o := .cells #[.slice Ao18 t102.length co18] 26 (0, 0)) (bb_ BK107.out) hb); have n6_ := Aside0.mk (blk_below (g := gb152) (o := .cells #[.slice Ao269 t147.length co269] 26 (0, 0)) (bb_ BK152.out) hb); have n7_ := Aside0.mk (blk_below (g := gb183) (o := .cells #[.slice Ao332 t177.length co332] 26 (0, 0)) (bb_ BK183.out) hb); have n8_ := Aside0.mk (below_step (gb_ HB.out) hb); have n9_ := Aside0.mk (hbox); have n10_ := Aside0.mk ((by rw [hg]; exact (below_size (gb_ HB.out)) : w.heap.size ≤ gb194)); have n11_ := Aside0.mk ((by rw [hg]; exact (below_size (gb_ HB.out)) : w.heap.size ≤ gb194)); have n12_ := Aside0.mk ((by rw [hg]; exact Nat.ne_of_lt (blk_lt (g := gb107) (o := .cells #[.slice Ao18 t102.length co18] 26 (0, 0)) (bb_ BK107.out)) : gb107 ≠ gb194)); have n13_ := Aside0.mk ((by rw [hg]; exact Nat.ne_of_gt (blk_lt (g := gb107) (o := .cells #[.slice Ao18 t102.length co18] 26 (0, 0)) (bb_ BK107.out)) : gb194 ≠ gb107)); have n14_ := Aside0.mk ((by rw [hg]; exact Nat.ne_of_lt (blk_lt (g := gb152) (o := .cells #[.slice Ao269 t147.length co269] 26 (0, 0)) (bb_ BK152.out)) : gb152 ≠ gb194)); have n15_ := Aside0.mk ((by rw [hg]; exact Nat.ne_of_gt (blk_lt (g := gb152) (o := .cells #[.slice Ao269 t147.length co269] 26 (0, 0)) (bb_ BK152.out)) : gb194 ≠ gb152)); have n16_ := Aside0.mk ((by rw [hg]; exact Nat.ne_of_lt (blk_lt (g := gb183) (o := .cells #[.slice Ao332 t177.length co332] 26 (0, 0)) (bb_ BK183.out)) : gb183 ≠ gb194)); have n17_ := Aside0.mk ((by rw [hg]; exact Nat.ne_of_gt (blk_lt (g := gb183) (o := .cells #[.slice Ao332 t177.length co332] 26 (0, 0)) (bb_ BK183.out)) : gb194 ≠ gb183)); clear HO_108000 HO_153000 HO179 HO190 HO193 BK107 BK152 BK183 HB; have HO_108000 := n0_; have HO_153000 := n1_; have HO179 := n2_; have HO190 := n3_; have HO193 := n4_; have BK107 := n5_; have BK152 := n6_; have BK183 := n7_; have HB := n8_; have BK194 := n9_; have GW194 := n10_; have GE194 := n11_; have NB107_194 := n12_; have NB194_107 := n13_; have NB152_194 := n14_; have NB194_152 := n15_; have NB183_194 := n16_; have NB194_183 := n17_; clear n0_ n1_ n2_ n3_ n4_ n5_ n6_ n7_ n8_ n9_ n10_ n11_ n12_ n13_ n14_ n15_ n16_ n17_ hb hbox hg; obtain ⟨Ao341, co341, eo341⟩ := Kd.R_slice HO190.out; subst eo341; have hnb342 := NB194_107.out; have hnc342 := NB107_194.out; have hnb343 := NB194_152.out; have hnc343 := NB152_194.out; have hnb344 := NB194_183.out; have hnc344 := NB183_194.out; have hcz345_0 : w340.cell? ⟨gb194, 0, none⟩ = some (.slice none 0 0) := (blk_cell BK194.out 0).trans rfl; have hfz345_0 := blk_frozen BK194.out 0; obtain ⟨Ao346, co346, eo346⟩ := Kd.R_slice HO193.out; subst eo346) | ((with_reducible refine gate_callee (f := 21) rfl ?_); refine goesL_ (some 427) rfl rfl Try.func21 (by kernel_rfl) rfl #[.agg #[.slice Ao341 t188.length co341], .slice Ao346 t191.length co346] rfl (by (try simp only [List.map_toArray, List.map_cons, List.map_nil]); first | done | rfl | (simp only [List.length_drop, List.length_take]; rfl)) ?_; (with_reducible refine (impl_WordOf.calls kj306 _ _ t188 _ _ t191 t195 t196 _ ?side1 ?side2 ?side3 ?side4 A327.out).mono ?_); (case side1 => refine (Kd.R_reads' (e := 2) (base := w.heap.size) (ok := fun _ => True) (n := t188.length) (c := co341) ?_).2.2; exact (rb_ (Kd.R_mono (Kd.R_far (p := ⟨gb194, 0, none⟩) (Kd.R_types HO190.out BK194.out (by decide)) (fun _ hk => hk.2) (.slice Ao341 t188.length co341)) (fun _ _ => trivial)))); (case side2 => exact (Kd.R_reads' HO190.out).2.1); (case side3 => refine (Kd.R_reads' (e := 2) (base := w.heap.size) (ok := fun _ => True) (n := t191.length) (c := co346) ?_).2.2; exact (rb_ (Kd.R_mono (Kd.R_far (p := ⟨gb194, 0, none⟩) (Kd.R_types HO193.out BK194.out (by decide)) (fun _ hk => hk.2) (.slice Ao341 t188.length co341)) (fun _ _ => trivial)))); (case side4 => exact (Kd.R_reads' HO193.out).2.1); rintro e w347 ⟨rfl, hb⟩; refine ⟨_, rfl, ?_⟩; have n0_ := Aside0.mk (Kd.R_below (rb_ (Kd.R_mono (Kd.R_far (p := ⟨gb194, 0, none⟩) (Kd.R_types HO_108000.out BK194.out (by decide)) (fun _ hk => hk.2) (.slice Ao341 t188.length co341)) (fun _ h_ => h_.1))) hb); have n1_ := Aside0.mk (Kd.R_below (rb_ (Kd.R_mono (Kd.R_far (p := ⟨gb194, 0, none⟩) (Kd.R_types HO_153000.out BK194.out (by decide)) (fun _ hk => hk.2) (.slice Ao341 t188.length co341)) (fun _ h_ => h_.1))) hb); have n2_ := Aside0.mk (Kd.R_below (rb_ (Kd.R_mono (Kd.R_far (p := ⟨gb194, 0, none⟩) (Kd.R_types HO179.out BK194.out (by decide)) (fun _ hk => hk.2) (.slice Ao341 t188.length co341)) (fun _ h_ => h_.1))) hb); have n3_ := Aside0.mk (Kd.R_below (rb_ (Kd.R_mono (Kd.R_far (p := ⟨gb194, 0, none⟩) (Kd.R_types HO190.out BK194.out (by decide)) (fun _ hk => hk.2) (.slice Ao341 t188.length co341)) (fun _ h_ => h_.1))) hb); have n4_ := Aside0.mk (Kd.R_below (rb_ (Kd.R_mono (Kd.R_far (p := ⟨gb194, 0, none⟩) (Kd.R_types HO193.out BK194.out (by decide)) (fun _ hk => hk.2) (.slice Ao341 t188.length co341)) (fun _ h_ => h_.1))) hb); have n5_ := Aside0.mk (blk_below (g := gb107) (o := .cells #[.slice Ao18 t102.length co18] 26 (0, 0)) (by (with_reducible repeat (first | refine blk_drewN ?_ _ | refine blk_drew ?_ | refine blk_alloc ?_ _)); refine blk_far ?_ NB107_194.out _; (with_reducible repeat (first | refine blk_drewN ?_ _ | refine blk_drew ?_ | refine blk_alloc ?_ _)); exact BK107.out) hb); have n6_ := Aside0.mk (blk_below (g := gb152) (o := .cells #[.slice Ao269 t147.length co269] 26 (0, 0)) (by (with_reducible repeat (first | refine blk_drewN ?_ _ | refine blk_drew ?_ | refine blk_alloc ?_ _)); refine blk_far ?_ NB152_194.out _; (with_reducible repeat (first | refine blk_drewN ?_ _ | refine blk_drew ?_ | refine blk_alloc ?_ _)); exact BK152.out) hb); have n7_ := Aside0.mk (blk_below (g := gb183) (o := .cells #[.slice Ao332 t177.length co332] 26 (0, 0)) (by (with_reducible repeat (first | refine blk_drewN ?_ _ | refine blk_drew ?_ | refine blk_alloc ?_ _)); refine blk_far ?_ NB183_194.out _; (with_reducible repeat (first | refine blk_drewN ?_ _ | refine blk_drew ?_ | refine blk_alloc ?_ _)); exact BK183.out) hb); have n8_ := Aside0.mk (blk_below (g := gb194) (o := .cells #[.slice Ao341 t188.length co341] 26 (0, 0)) (by (with_reducible repeat (first | refine blk_drewN ?_ _ | refine blk_drew ?_ | refine blk_alloc ?_ _)); refine blk_put (cs := #[.slice none 0 0]) ?_ 0 _ rfl; (with_reducible repeat (first | refine blk_drewN ?_ _ | refine blk_drew ?_ | refine blk_alloc ?_ _)); exact BK194.out) hb); have n9_ := Aside0.mk (below_step (gb_ HB.out) hb); clear HO_108000 HO_153000 HO179 HO190 HO193 BK107 BK152 BK183 BK194 HB; have HO_108000 := n0_; have HO_153000 := n1_; have HO179 := n2_; have HO190 := n3_; have HO193 := n4_; have BK107 := n5_; have BK152 := n6_; have BK183 := n7_; have BK194 := n8_; have HB := n9_; clear n0_ n1_ n2_ n3_ n4_ n5_ n6_ n7_ n8_ n9_; (try clear hb); (try clear hb2); (try clear hk); (try clear hi); have hcz348_0 : w347.cell? ⟨gb194, 0, none⟩ = some (.slice Ao341 t188.length co341) := (blk_cell BK194.out 0).trans rfl; have hfz348_0 := blk_frozen BK194.out 0) | ((with_reducible refine gate_callee (f := 34) rfl ?_); refine goesL_ (some 433) rfl rfl Try.func34 (by kernel_rfl) rfl #[.agg #[.slice Ao341 t188.length co341], .slice Ao346 t191.length co346] rfl (by (try simp only [List.map_toArray, List.map_cons, List.map_nil]); first | done | rfl | (simp only [List.length_drop, List.length_take]; rfl)) ?_; (with_reducible refine (spec_WordOf.calls kj306 _ _ t188 _ _ t191 t197 t198 _ ?side1 ?side2 ?side3 ?side4 A328.out).mono ?_); (case side1 => repeat (first | exact (Kd.R_reads' HO190.out).2.2 | (with_reducible refine Kd.C_alloc ?_ _) | (with_reducible refine Kd.C_drewN ?_ _) | (with_reducible refine Kd.C_drew ?_))); (case side2 => exact (Kd.R_reads' HO190.out).2.1); (case side3 => repeat (first | exact (Kd.R_reads' HO193.out).2.2 | (with_reducible refine Kd.C_alloc ?_ _) | (with_reducible refine Kd.C_drewN ?_ _) | (with_reducible refine Kd.C_drew ?_))); (case side4 => exact (Kd.R_reads' HO193.out).2.1); rintro e w349 ⟨rfl, hb⟩; refine ⟨_, rfl, ?_⟩; have n0_ := Aside0.mk (Kd.R_below (rb_ HO_108000.out) hb); have n1_ := Aside0.mk (Kd.R_below (rb_ HO_153000.out) hb); have n2_ := Aside0.mk (Kd.R_below (rb_ HO179.out) hb); have n3_ := Aside0.mk (Kd.R_below (rb_ HO190.out) hb); have n4_ := Aside0.mk (Kd.R_below (rb_ HO193.out) hb); have n5_ := Aside0.mk (blk_below (g := gb107) (o := .cells #[.slice Ao18 t102.length co18] 26 (0, 0)) (bb_ BK107.out) hb); have n6_ := Aside0.mk (blk_below (g := gb152) (o := .cells #[.slice Ao269 t147.length co269] 26 (0, 0)) (bb_ BK152.out) hb); have n7_ := Aside0.mk (blk_below (g := gb183) (o := .cells #[.slice Ao332 t177.length co332] 26 (0, 0)) (bb_ BK183.out) hb); have n8_ := Aside0.mk (blk_below (g := gb194) (o := .cells #[.slice Ao341 t188.length co341] 26 (0, 0)) (bb_ BK194.out) hb); have n9_ := Aside0.mk (below_step (gb_ HB.out) hb); clear HO_108000 HO_153000 HO179 HO190 HO193 BK107 BK152 BK183 BK194 HB; have HO_108000 := n0_; have HO_153000 := n1_; have HO179 := n2_; have HO190 := n3_; have HO193 := n4_; have BK107 := n5_; have BK152 := n6_; have BK183 := n7_; have BK194 := n8_; have HB := n9_; clear n0_ n1_ n2_ n3_ n4_ n5_ n6_ n7_ n8_ n9_; (try clear hb); (try clear hb2); (try clear hk); (try clear hi)))
            (try simp only [Act.put, List.setIfInBounds_toArray, List.set_cons_zero, List.set_cons_succ])
            go_cut [453] (fun cs_453 wc => ∃ (kq : Nat) (x453_328 : Bool), cs_453 = .bool x453_328 ∧ Aside0 (laws_FnWords.j6 kq t180 t184 t185 x453_328 t177 = some r) ∧ Aside0 (kq ≤ kj306) ∧ Aside0 (Kd.R (Kd.int .i64) 2 wc w.heap.size (fun k_ => OB_ k_ (.slice Ao269 t147.length co269) ∧ OB_ k_ (.slice Ao332 t177.length co332) ∧ OB_ k_ (.slice Ao341 t188.length co341)) (.slice Ao18 t102.length co18) t102) ∧ Aside0 (Kd.R (Kd.int .i64) 2 wc w.heap.size (fun k_ => OB_ k_ (.slice Ao18 t102.length co18) ∧ OB_ k_ (.slice Ao332 t177.length co332) ∧ OB_ k_ (.slice Ao341 t188.length co341)) (.slice Ao269 t147.length co269) t147) ∧ Aside0 (Kd.R (Kd.int .i64) 2 wc w.heap.size (fun k_ => OB_ k_ (.slice Ao18 t102.length co18) ∧ OB_ k_ (.slice Ao269 t147.length co269) ∧ OB_ k_ (.slice Ao341 t188.length co341)) (.slice Ao332 t177.length co332) t177) ∧ Aside0 (Kd.R (Kd.int .i64) 2 wc w.heap.size (fun k_ => OB_ k_ (.slice Ao18 t102.length co18) ∧ OB_ k_ (.slice Ao269 t147.length co269) ∧ OB_ k_ (.slice Ao332 t177.length co332)) (.slice Ao341 t188.length co341) t188) ∧ Aside0 (wc.heap[gb107]? = some (.cells #[(.slice Ao18 t102.length co18)] 26 (0, 0))) ∧ Aside0 (wc.heap[gb152]? = some (.cells #[(.slice Ao269 t147.length co269)] 26 (0, 0))) ∧ Aside0 (wc.heap[gb183]? = some (.cells #[(.slice Ao332 t177.length co332)] 26 (0, 0))) ∧ Aside0 (wc.heap[gb194]? = some (.cells #[(.slice Ao341 t188.length co341)] 26 (0, 0))) ∧ Aside0 (Below w.heap.size w wc))
            case first => as_aux_lemma =>
             have H := HC329.out
             clear HC329
             by_cases c350 : t185 = t187
             ·rw [if_pos c350] at H
              have c350b0 : (t185 == t187) = true := beq_iff_eq.mpr c350
              have c350b1 : (t185 != t187) = false := bne_eq_false_iff_eq.mpr c350
              clear c350
              (first | rw [c350b0] | (simp only [i64_w, i32_w]; rw [c350b0]) | skip)
              by_cases c351 : t184 = t186
              ·rw [if_pos c351] at H
               have c351b0 : (t184 == t186) = true := beq_iff_eq.mpr c351
               have c351b1 : (t184 != t186) = false := bne_eq_false_iff_eq.mpr c351
               clear c351
               by_cases c352 : t196 = t198
               ·rw [if_pos c352] at H
                have c352b0 : (t196 == t198) = true := beq_iff_eq.mpr c352
                have c352b1 : (t196 != t198) = false := bne_eq_false_iff_eq.mpr c352
                clear c352
                have H' := Aside0.mk H
                clear H
                go_wp2
                go_meet
                case rel => exact ⟨_, ((t195 != t197)), (by first | rfl | (simp; done) | (simp [*]; done)), H', ⟨by have := HJ14.out; have := HJ69.out; have := HJ265.out; have := HJ306.out; first | omega | exact Nat.le_refl _⟩, ⟨by (with_reducible repeat (first | apply Kd.R_alloc | apply Kd.R_drewN | apply Kd.R_drew)); exact Kd.R_mono HO_108000.out (fun _ hk => ⟨hk.1.1.1, ⟨hk.1.1.2, hk.1.2⟩⟩)⟩, ⟨by (with_reducible repeat (first | apply Kd.R_alloc | apply Kd.R_drewN | apply Kd.R_drew)); exact Kd.R_mono HO_153000.out (fun _ hk => ⟨hk.1.1.1, ⟨hk.1.1.2, hk.1.2⟩⟩)⟩, ⟨by (with_reducible repeat (first | apply Kd.R_alloc | apply Kd.R_drewN | apply Kd.R_drew)); exact Kd.R_mono HO179.out (fun _ hk => ⟨hk.1.1.1.2, ⟨hk.1.1.2, hk.1.2⟩⟩)⟩, ⟨by (with_reducible repeat (first | apply Kd.R_alloc | apply Kd.R_drewN | apply Kd.R_drew)); exact Kd.R_mono HO190.out (fun _ hk => ⟨hk.1.1.2, ⟨hk.1.2, hk.2⟩⟩)⟩, ⟨by (with_reducible repeat (first | refine blk_drewN ?_ _ | refine blk_drew ?_ | refine blk_alloc ?_ _)); exact BK107.out⟩, ⟨by (with_reducible repeat (first | refine blk_drewN ?_ _ | refine blk_drew ?_ | refine blk_alloc ?_ _)); exact BK152.out⟩, ⟨by (with_reducible repeat (first | refine blk_drewN ?_ _ | refine blk_drew ?_ | refine blk_alloc ?_ _)); exact BK183.out⟩, ⟨by (with_reducible repeat (first | refine blk_drewN ?_ _ | refine blk_drew ?_ | refine blk_alloc ?_ _)); exact BK194.out⟩, ⟨gb_ HB.out⟩⟩
               ·rw [if_neg c352] at H
                exact laws_FnWords.no hr_ H
              ·rw [if_neg c351] at H
               exact laws_FnWords.no hr_ H
             ·rw [if_neg c350] at H
              exact laws_FnWords.no hr_ H
            case rest => as_aux_lemma =>
             clear HC329
             try clear c1
             try clear p1
             try clear q1
             try clear hx1
             try clear c2
             try clear p2
             try clear c3
             try clear c6
             try clear p6
             try clear c7
             try clear c8
             try clear c10
             try clear c14
             try clear p17
             try clear q17
             try clear hx17
             try clear c21
             try clear c22
             try clear c23
             try clear c24
             try clear c25
             try clear c26
             try clear c27
             try clear c28
             try clear c29
             try clear c30
             try clear c31
             try clear c32
             try clear c33
             try clear c34
             try clear c35
             try clear c39
             try clear c39b0
             try clear c39b1
             try clear p64
             try clear c69
             try clear c71
             try clear c71b0
             try clear c71b1
             try clear c78
             try clear c78b0
             try clear c78b1
             try clear c79
             try clear c79b0
             try clear c79b1
             try clear c80
             try clear c80b0
             try clear c80b1
             try clear c81
             try clear c81b0
             try clear c81b1
             try clear c82
             try clear c82b0
             try clear c82b1
             try clear c83
             try clear c83b0
             try clear c83b1
             try clear c84
             try clear c84b0
             try clear c84b1
             try clear c85
             try clear c85b0
             try clear c85b1
             try clear c86
             try clear c86b0
             try clear c86b1
             try clear c87
             try clear c87b0
             try clear c87b1
             try clear c88
             try clear c88b0
             try clear c88b1
             try clear c89
             try clear c89b0
             try clear c89b1
             try clear c89b2
             try clear p175
             try clear q175
             try clear hx175
             try clear c270
             try clear c283
             try clear c283b0
             try clear c283b1
             try clear c285
             try clear c286
             try clear c286b0
             try clear c286b1
             try clear c288
             try clear c289
             try clear c289b0
             try clear c289b1
             try clear c306
             try clear c308
             try clear c308b0
             try clear c308b1
             try clear c310
             try clear c310b0
             try clear c310b1
             try clear c314
             try clear c316
             try clear c316b0
             try clear c317
             try clear c317b0
             try clear c318
             try clear c318b0
             try clear c320
             try clear c333
             try clear c334
             try clear c342
             try clear c343
             try clear c344
             try clear c350
             try clear c350b0
             try clear c350b1
             try clear c351
             try clear c351b0
             try clear c351b1
             try clear c352
             try clear c352b0
             try clear c352b1
             try clear hcz101_0
             try clear hcz103_0
             try clear hcz106_0
             try clear hcz108_0
             try clear hcz110_0
             try clear hcz112_0
             try clear hcz114_0
             try clear hcz116_0
             try clear hcz119_0
             try clear hcz121_0
             try clear hcz123_0
             try clear hcz125_0
             try clear hcz127_0
             try clear hcz129_0
             try clear hcz132_0
             try clear hcz134_0
             try clear hcz136_0
             try clear hcz138_0
             try clear hcz140_0
             try clear hcz142_0
             try clear hcz145_0
             try clear hcz147_0
             try clear hcz149_0
             try clear hcz151_0
             try clear hcz153_0
             try clear hcz155_0
             try clear hcz158_0
             try clear hcz160_0
             try clear hcz162_0
             try clear hcz164_0
             try clear hcz166_0
             try clear hcz168_0
             try clear hcz171_0
             try clear hcz173_0
             try clear hcz175_0
             try clear hcz177_0
             try clear hcz179_0
             try clear hcz181_0
             try clear hcz184_0
             try clear hcz186_0
             try clear hcz188_0
             try clear hcz190_0
             try clear hcz192_0
             try clear hcz194_0
             try clear hcz197_0
             try clear hcz199_0
             try clear hcz201_0
             try clear hcz203_0
             try clear hcz205_0
             try clear hcz207_0
             try clear hcz210_0
             try clear hcz212_0
             try clear hcz214_0
             try clear hcz216_0
             try clear hcz218_0
             try clear hcz220_0
             try clear hcz223_0
             try clear hcz225_0
             try clear hcz227_0
             try clear hcz229_0
             try clear hcz231_0
             try clear hcz233_0
             try clear hcz236_0
             try clear hcz238_0
             try clear hcz240_0
             try clear hcz242_0
             try clear hcz244_0
             try clear hcz246_0
             try clear hcz249_0
             try clear hcz251_0
             try clear hcz253_0
             try clear hcz255_0
             try clear hcz257_0
             try clear hcz271_0
             try clear hcz273_0
             try clear hcz275_0
             try clear hcz277_0
             try clear hcz279_0
             try clear hcz281_0
             try clear hcz335_0
             try clear hcz337_0
             try clear hcz345_0
             try clear hcz348_0
             try clear hcz90_0
             try clear hcz93_0
             try clear hcz95_0
             try clear hcz97_0
             try clear hcz99_0
             try clear hfz101_0
             try clear hfz103_0
             try clear hfz106_0
             try clear hfz108_0
             try clear hfz110_0
             try clear hfz112_0
             try clear hfz114_0
             try clear hfz116_0
             try clear hfz119_0
             try clear hfz121_0
             try clear hfz123_0
             try clear hfz125_0
             try clear hfz127_0
             try clear hfz129_0
             try clear hfz132_0
             try clear hfz134_0
             try clear hfz136_0
             try clear hfz138_0
             try clear hfz140_0
             try clear hfz142_0
             try clear hfz145_0
             try clear hfz147_0
             try clear hfz149_0
             try clear hfz151_0
             try clear hfz153_0
             try clear hfz155_0
             try clear hfz158_0
             try clear hfz160_0
             try clear hfz162_0
             try clear hfz164_0
             try clear hfz166_0
             try clear hfz168_0
             try clear hfz171_0
             try clear hfz173_0
             try clear hfz175_0
             try clear hfz177_0
             try clear hfz179_0
             try clear hfz181_0
             try clear hfz184_0
             try clear hfz186_0
             try clear hfz188_0
             try clear hfz190_0
             try clear hfz192_0
             try clear hfz194_0
             try clear hfz197_0
             try clear hfz199_0
             try clear hfz201_0
             try clear hfz203_0
             try clear hfz205_0
             try clear hfz207_0
             try clear hfz210_0
             try clear hfz212_0
             try clear hfz214_0
             try clear hfz216_0
             try clear hfz218_0
             try clear hfz220_0
             try clear hfz223_0
             try clear hfz225_0
             try clear hfz227_0
             try clear hfz229_0
             try clear hfz231_0
             try clear hfz233_0
             try clear hfz236_0
             try clear hfz238_0
             try clear hfz240_0
             try clear hfz242_0
             try clear hfz244_0
             try clear hfz246_0
             try clear hfz249_0
             try clear hfz251_0
             try clear hfz253_0
             try clear hfz255_0
             try clear hfz257_0
             try clear hfz271_0
             try clear hfz273_0
             try clear hfz275_0
             try clear hfz277_0
             try clear hfz279_0
             try clear hfz281_0
             try clear hfz335_0
             try clear hfz337_0
             try clear hfz345_0
             try clear hfz348_0
             try clear hfz90_0
             try clear hfz93_0
             try clear hfz95_0
             try clear hfz97_0
             try clear hfz99_0
             try clear hx175_0
             try clear p1
             try clear p17
             try clear p175
             try clear p2
             try clear p6
             try clear p64
             try clear q1
             try clear q17
             try clear q175
             obtain ⟨kq, x453_328, rfl, HA, HJ328, HO_108000, HO_153000, HO_184000, HO_195000, BK107, BK152, BK183, BK194, HB⟩ := hcut
             cases kq with
             | zero => exact absurd HA.out (by simp [laws_FnWords.j6])
             | succ kj328 =>
              have H := HA.out
              clear HA
              simp only [laws_FnWords.j6] at H
              by_cases c353 : x453_328 = true
              ·subst c353
               exact laws_FnWords.no hr_ H
              ·replace c353 := Bool.eq_false_iff.mpr c353
               subst c353
               have H1 : (if t185 = 0 then ((impl_DistanceOf.f kj328 t177 t180 t184).bind fun bt199 => (if bt199.2 = 0 then (some (decide (bt199.1 ≤ 1))) else (some false))) else (some true)) = some r := by rw [if_neg (show ¬ (false = true) by decide)] at H; exact H
               clear H
               have H := H1
               clear H1
               by_cases c354 : t185 = 0
               ·rw [if_pos c354] at H
                have c354b0 : (t185 == 0) = true := beq_iff_eq.mpr c354
                have c354b1 : (t185 != 0) = false := bne_eq_false_iff_eq.mpr c354
                clear c354
                replace H := Option.bind_eq_some_iff.mp H
                obtain ⟨⟨t199, t200⟩, A3550, H⟩ := H
                replace H : (if t200 = 0 then (some (decide (t199 ≤ 1))) else (some false)) = some r := H
                have A355 := Aside0.mk A3550
                clear A3550
                by_cases c356 : t200 = 0
                ·rw [if_pos c356] at H
                 have c356b0 : (t200 == 0) = true := beq_iff_eq.mpr c356
                 have c356b1 : (t200 != 0) = false := bne_eq_false_iff_eq.mpr c356
                 clear c356
                 obtain rfl := Option.some.inj H
                 have hnb357 := NB183_107.out
                 have hnc357 := NB107_183.out
                 have hnb358 := NB183_152.out
                 have hnc358 := NB152_183.out
                 have hnb359 := NB183_194.out
                 have hnc359 := NB194_183.out
                 have hcz360_0 : wc.cell? ⟨gb183, 0, none⟩ = some (.slice Ao332 t177.length co332) := (blk_cell BK183.out 0).trans rfl
                 have hfz360_0 := blk_frozen BK183.out 0
                 go_wp2_with (first | ((with_reducible refine gate_callee (f := 10) rfl ?_); refine goesL_ (some 460) rfl rfl Try.func10 (by kernel_rfl) rfl #[.agg #[.slice Ao332 t177.length co332], .int .i64 t180, .int .i64 t184] rfl (by (try simp only [List.map_toArray, List.map_cons, List.map_nil]); first | done | rfl | (simp only [List.length_drop, List.length_take]; rfl)) ?_; (with_reducible refine (impl_DistanceOf.calls kj328 _ _ t177 t180 t184 t199 t200 _ ?side1 ?side2 A355.out).mono ?_); (case side1 => repeat (first | exact (Kd.R_reads' HO_184000.out).2.2 | (with_reducible refine Kd.C_alloc ?_ _) | (with_reducible refine Kd.C_drewN ?_ _) | (with_reducible refine Kd.C_drew ?_))); (case side2 => exact (Kd.R_reads' HO_184000.out).2.1); rintro e w361 ⟨rfl, hb⟩; refine ⟨_, rfl, ?_⟩; have n0_ := Aside0.mk (Kd.R_below (rb_ HO_108000.out) hb); have n1_ := Aside0.mk (Kd.R_below (rb_ HO_153000.out) hb); have n2_ := Aside0.mk (Kd.R_below (rb_ HO_184000.out) hb); have n3_ := Aside0.mk (Kd.R_below (rb_ HO_195000.out) hb); have n4_ := Aside0.mk (blk_below (g := gb107) (o := .cells #[.slice Ao18 t102.length co18] 26 (0, 0)) (bb_ BK107.out) hb); have n5_ := Aside0.mk (blk_below (g := gb152) (o := .cells #[.slice Ao269 t147.length co269] 26 (0, 0)) (bb_ BK152.out) hb); have n6_ := Aside0.mk (blk_below (g := gb183) (o := .cells #[.slice Ao332 t177.length co332] 26 (0, 0)) (bb_ BK183.out) hb); have n7_ := Aside0.mk (blk_below (g := gb194) (o := .cells #[.slice Ao341 t188.length co341] 26 (0, 0)) (bb_ BK194.out) hb); have n8_ := Aside0.mk (below_step (gb_ HB.out) hb); clear HO_108000 HO_153000 HO_184000 HO_195000 BK107 BK152 BK183 BK194 HB; have HO_108000 := n0_; have HO_153000 := n1_; have HO_184000 := n2_; have HO_195000 := n3_; have BK107 := n4_; have BK152 := n5_; have BK183 := n6_; have BK194 := n7_; have HB := n8_; clear n0_ n1_ n2_ n3_ n4_ n5_ n6_ n7_ n8_; (try clear hb); (try clear hb2); (try clear hk); (try clear hi)))
                 go_ret
                 exact ⟨by first | rfl | (simp [errW_none, errW_some] <;> rfl) | (simp [*, errW_none, errW_some] <;> rfl), gb_ HB.out⟩
                ·rw [if_neg c356] at H
                 exact laws_FnWords.no hr_ H
               ·rw [if_neg c354] at H
                have c354b0 : (t185 == 0) = false := beq_eq_false_iff_ne.mpr c354
                have c354b1 : (t185 != 0) = true := bne_iff_ne.mpr c354
                obtain rfl := Option.some.inj H
                go_wp2
                go_ret
                exact ⟨by first | rfl | (simp [errW_none, errW_some] <;> rfl) | (simp [*, errW_none, errW_some] <;> rfl), gb_ HB.out⟩
end Go.Proofs.Ytlfipjdjmpdblaa.P
set_option linter.unusedVariables false
set_option linter.unusedSimpArgs false
namespace Go.Proofs.Ytlfipjdjmpdblaa.Q
open Go.RowKit Go.Proofs.Ytlfipjdjmpdblaa.P Go.Proofs.YtlfipjdjmpdblaaW.PrintWords CC
theorem dgr_hor : ∀ (r e : List Int), r.all sizeOk = true → e.length = r.length → inR r e = true → dgr r (hor 0 r.reverse e.reverse) = e
  | [], [], _, _, _ => rfl
  | [], x :: e, _, h, _ => by simp at h
  | q :: r, [], _, h, _ => by simp at h
  | q :: r, x :: e, hs, hl, hr => by
    simp only [List.all_cons, Bool.and_eq_true, sizeOk_iff] at hs
    simp only [inR, Bool.and_eq_true, decide_eq_true_eq] at hr
    simp only [List.length_cons] at hl
    have ih := dgr_hor r e hs.2 (by omega) hr.2
    rw [List.reverse_cons, List.reverse_cons, hor_append _ _ _ _ _ (by simp; omega)]
    generalize hor 0 r.reverse e.reverse = y at *
    simp only [hor, dgr]
    have h1 : (y * q + x) % q = x := by rw [Int.add_comm, Int.add_mul_emod_self_right]; exact Int.emod_eq_of_lt hr.1.1 hr.1.2
    have h2 : (y * q + x) / q = y := by
      rw [Int.add_comm, Int.add_mul_ediv_right _ _ (by omega), Int.ediv_eq_zero_of_lt hr.1.1 hr.1.2, Int.zero_add]
    rw [h1, h2, ih]
theorem dg_wd {s d : List Int} (hs : s.all sizeOk = true) (hl : d.length = s.length) (hr : inR s d = true) : dg s (wd s d) = d := by
  have h := dgr_hor s.reverse d.reverse (by rw [List.all_reverse]; exact hs) (by simp [hl]) (by rw [inR_reverse _ _ hl.symm]; exact hr)
  rw [List.reverse_reverse, List.reverse_reverse] at h
  unfold dg wd
  rw [h, List.reverse_reverse]
theorem dgr_zero : ∀ r : List Int, dgr r 0 = List.replicate r.length 0
  | [] => rfl
  | q :: r => by simp [dgr, dgr_zero r, List.replicate_succ]
theorem dg_zero (s : List Int) : dg s 0 = List.replicate s.length 0 := by
  unfold dg
  rw [dgr_zero, List.length_reverse, List.reverse_replicate]
theorem rd_zeros (n k : Nat) : rd (List.replicate n 0) (k : Int) = 0 := by
  simp only [rd, Int.toNat_natCast, List.getD_eq_getElem?_getD, List.getElem?_replicate]
  split <;> rfl
theorem rd_cons0 (x : Int) (l : List Int) : rd (x :: l) ((0 : Nat) : Int) = x := by simp [rd]
theorem rd_consS (x : Int) (l : List Int) (k : Nat) : rd (x :: l) ((k + 1 : Nat) : Int) = rd l (k : Int) := by
  simp only [rd, Int.toNat_natCast, List.getD_eq_getElem?_getD, List.getElem?_cons_succ]
theorem ham_same : ∀ (a b c d : List Int), a.length = b.length → a.length = c.length → a.length = d.length → (∀ k : Nat, k < a.length → (rd a (k : Int) = rd b (k : Int) ↔ rd c (k : Int) = rd d (k : Int))) → ham a b = ham c d
  | [], b, c, d, h1, h2, h3, _ => by
    have hb := List.eq_nil_of_length_eq_zero h1.symm
    have hc := List.eq_nil_of_length_eq_zero h2.symm
    have hd := List.eq_nil_of_length_eq_zero h3.symm
    subst hb hc hd
    rfl
  | x :: a, [], c, d, h1, _, _, _ => by simp at h1
  | x :: a, y :: b, [], d, _, h2, _, _ => by simp at h2
  | x :: a, y :: b, z :: c, [], _, _, h3, _ => by simp at h3
  | x :: a, y :: b, z :: c, u :: d, h1, h2, h3, h => by
    simp only [List.length_cons, Nat.add_right_cancel_iff] at h1 h2 h3
    have ih := ham_same a b c d h1 h2 h3 (fun k hk => by
      have := h (k + 1) (by simp; omega)
      simpa only [rd_consS] using this)
    have h0 := h 0 (by simp)
    simp only [rd_cons0] at h0
    simp only [ham, ih]
    by_cases e : x = y
    · rw [if_pos e, if_pos (h0.1 e)]
    · rw [if_neg e, if_neg (fun z => e (h0.2 z))]
theorem ham_nil_eq : ∀ (a b : List Int), a.length = b.length → ham a b = 0 → a = b
  | [], b, h, _ => (List.eq_nil_of_length_eq_zero h.symm).symm
  | x :: a, [], h, _ => by simp at h
  | x :: a, y :: b, h, e => by
    simp only [List.length_cons, Nat.add_right_cancel_iff] at h
    simp only [ham] at e
    have hn := ham_nonneg a b
    by_cases hxy : x = y
    · rw [if_pos hxy] at e
      rw [hxy, ham_nil_eq a b h (by omega)]
    · rw [if_neg hxy] at e
      omega
theorem ham_put : ∀ (a : List Int) (n : Nat) (x : Int), ham a (a.set n x) ≤ 1
  | [], n, x => by simp [ham]
  | y :: a, 0, x => by
    simp only [List.set_cons_zero, ham, ham_self]
    split <;> omega
  | y :: a, n + 1, x => by
    simp only [List.set_cons_succ, ham, if_pos]
    have := ham_put a n x
    omega
theorem dg_inj {s : List Int} (hs : isSp s = true) {u w : Int} (hu : isW s u = true) (hw : isW s w = true) (h : dg s u = dg s w) : u = w := by
  have h1 := (isW_iff s u).1 hu
  have h2 := (isW_iff s w).1 hw
  rw [← wd_dg (isSp_all hs) h1.1 h1.2, ← wd_dg (isSp_all hs) h2.1 h2.2, h]
theorem dist_zero {s : List Int} (hs : isSp s = true) {u w : Int} (hu : isW s u = true) (hw : isW s w = true) : dist s u w = 0 ↔ u = w := by
  constructor
  · intro h
    exact dg_inj hs hu hw (ham_nil_eq _ _ (by rw [dg_length, dg_length]) h)
  · rintro rfl
    exact ham_self _
def oppL (s b : List Int) : List Int := genL (fun k => (-rd b (k : Int)) % rd s (k : Int)) s.length
theorem oppL_length (s b : List Int) : (oppL s b).length = s.length := genL_length _ _
theorem oppL_inR {s : List Int} (hs : s.all sizeOk = true) (b : List Int) : inR s (oppL s b) = true := by
  refine genL_inR fun k hk => ?_
  have hq := all_rd hs hk
  exact ⟨Int.emod_nonneg _ (by omega), Int.emod_lt_of_pos _ (by omega)⟩
def oppW (s : List Int) (w : Int) : Int := wd s (oppL s (dg s w))
theorem oppW_isW {s : List Int} (hs : isSp s = true) (w : Int) : isW s (oppW s w) = true := wd_word (isSp_all hs) (oppL_length s _).symm (oppL_inR (isSp_all hs) _)
theorem rOpp_eq {s : List Int} {w : Int} (h : rWords s [w] = 0) : rOpp s w = (oppW s w, 0) := by
  obtain ⟨hs, hc⟩ := rWords_zero h
  unfold rOpp
  rw [if_pos h]
  have e : hor 0 s (opp8 s (dig8 s w)) = oppW s w := by
    unfold opp8 oppW oppL wd
    rw [upd8_gen _ (isSp_len hs), hor_pad (genL_length _ _)]
    congr 1
    apply genL_congr
    intro k hk
    rw [rd_dig8 (isSp_len hs) w hk]
  rw [e]
theorem dg_sum {s : List Int} (hs : isSp s = true) (u w : Int) : dg s (sumW s u w) = sumL s (dg s u) (dg s w) := dg_wd (isSp_all hs) (sumL_length _ _ _) (sumL_inR (isSp_all hs) _ _)
theorem dg_opp {s : List Int} (hs : isSp s = true) (w : Int) : dg s (oppW s w) = oppL s (dg s w) := dg_wd (isSp_all hs) (oppL_length _ _) (oppL_inR (isSp_all hs) _)
theorem digit_in {s : List Int} (hs : isSp s = true) (w : Int) {k : Nat} (hk : k < s.length) : 0 ≤ rd (dg s w) (k : Int) ∧ rd (dg s w) (k : Int) < rd s (k : Int) :=
  inR_rd s (dg s w) k (inR_dg (isSp_all hs) w) hk (by rw [dg_length]; exact hk)
theorem list_rd {a b : List Int} (hl : a.length = b.length) (h : ∀ k : Nat, k < a.length → rd a (k : Int) = rd b (k : Int)) : a = b := by
  apply List.ext_getElem hl
  intro k h1 h2
  have := h k h1
  simpa [rd, List.getD_eq_getElem?_getD, h1, h2] using this
theorem sum_opp {s : List Int} (hs : isSp s = true) (w : Int) : sumW s w (oppW s w) = 0 := by
  refine dg_inj hs (sumW_isW hs _ _) (isW_zero hs) ?_
  rw [dg_sum hs, dg_opp hs, dg_zero]
  refine list_rd (by rw [sumL_length, List.length_replicate]) fun k hk => ?_
  rw [sumL_length] at hk
  have hq := all_rd (isSp_all hs) hk
  have hd := digit_in hs w hk
  rw [rd_zeros]
  unfold sumL oppL
  rw [genL_rd _ hk, genL_rd _ hk]
  generalize rd (dg s w) (k : Int) = b at *
  generalize rd s (k : Int) = q at *
  rcases hq with rfl | rfl | rfl <;> omega
theorem weight_diff {s : List Int} (hs : isSp s = true) (u w : Int) : dist s 0 (sumW s u (oppW s w)) = dist s u w := by
  unfold dist
  rw [dg_sum hs, dg_opp hs, dg_zero]
  refine ham_same _ _ _ _ (by rw [sumL_length, List.length_replicate]) (by rw [List.length_replicate, dg_length]) (by rw [List.length_replicate, dg_length]) fun k hk => ?_
  rw [List.length_replicate] at hk
  have hq := all_rd (isSp_all hs) hk
  have hu := digit_in hs u hk
  have hw := digit_in hs w hk
  rw [rd_zeros]
  unfold sumL oppL
  rw [genL_rd _ hk, genL_rd _ hk]
  generalize rd (dg s w) (k : Int) = b at *
  generalize rd (dg s u) (k : Int) = a at *
  generalize rd s (k : Int) = q at *
  rcases hq with rfl | rfl | rfl <;> omega
theorem dist_sum {s : List Int} (hs : isSp s = true) (u w : Int) : dist s u (sumW s u w) = dist s 0 w := by
  unfold dist
  rw [dg_sum hs, dg_zero]
  refine ham_same _ _ _ _ (by rw [sumL_length, dg_length]) (by rw [List.length_replicate, dg_length]) (by rw [dg_length, dg_length]) fun k hk => ?_
  rw [dg_length] at hk
  have hq := all_rd (isSp_all hs) hk
  have hu := digit_in hs u hk
  have hw := digit_in hs w hk
  rw [rd_zeros]
  unfold sumL
  rw [genL_rd _ hk]
  generalize rd (dg s w) (k : Int) = b at *
  generalize rd (dg s u) (k : Int) = a at *
  generalize rd s (k : Int) = q at *
  rcases hq with rfl | rfl | rfl <;> omega
theorem ball_size {s : List Int} (hs : isSp s = true) {v : Int} (hv : isW s v = true) (r : Int) : (ballL s v r).length = (ballL s 0 r).length := by
  have h1 := (isW_iff s v).1 hv
  obtain ⟨n, rfl⟩ : ∃ n : Nat, v = (n : Int) := ⟨v.toNat, by omega⟩
  rw [← near_any hs r n]
  unfold ballL selL NW
  rw [List.length_map, List.countP_eq_length_filter]
  congr 1
  apply List.filter_congr
  intro i _
  unfold nrb
  rw [ham_dig8 (isSp_len hs)]
theorem filter_len {p q : Nat → Bool} : ∀ l : List Nat, (∀ x ∈ l, p x = true → q x = true) → (l.filter p).length ≤ (l.filter q).length
  | [], _ => by simp
  | x :: l, h => by
    have ih := filter_len l (fun y hy => h y (List.mem_cons_of_mem _ hy))
    have hx := h x (by simp)
    simp only [List.filter_cons]
    by_cases hp : p x = true
    · rw [if_pos hp, if_pos (hx hp)]
      simp
      exact ih
    · rw [if_neg hp]
      split
      · simp
        omega
      · exact ih
theorem sphere_len (s : List Int) (v r : Int) : (selL (fun u => decide (dist s v u = r)) (NW s)).length ≤ (ballL s v r).length := by
  unfold ballL selL
  rw [List.length_map, List.length_map]
  refine filter_len _ fun x _ h => ?_
  simp at h ⊢
  omega
theorem sphere_in {s : List Int} {v r x : Int} (h : x ∈ selL (fun u => decide (dist s v u = r)) (NW s)) : x ∈ ballL s v r := by
  unfold ballL
  rw [mem_selL] at h ⊢
  refine ⟨h.1, h.2.1, ?_⟩
  have := h.2.2
  simp at this ⊢
  omega
theorem change_dist {s : List Int} {w i d : Int} (h : (rChange s w i d).2 = 0) : isSp s = true ∧ isW s w = true ∧ isW s (rChange s w i d).1 = true ∧ dist s w (rChange s w i d).1 ≤ 1 := by
  unfold rChange at *
  by_cases h0 : rWords s [w] = 0
  · obtain ⟨hs, hc⟩ := rWords_zero h0
    have hl := isSp_len hs
    rw [if_pos h0] at h ⊢
    by_cases h1 : 0 ≤ i ∧ i < s.length ∧ 0 ≤ d ∧ d < rd s i
    · rw [if_pos h1] at h ⊢
      obtain ⟨n, rfl⟩ : ∃ n : Nat, i = (n : Int) := ⟨i.toNat, by omega⟩
      have hn : n < s.length := by omega
      have hset : inR s ((dg s w).set n d) = true := set_inR (inR_dg (isSp_all hs) w) hn h1.2.2.1 h1.2.2.2
      have e : hor 0 s ((dig8 s w).set n d) = wd s ((dg s w).set n d) := by
        rw [dig8_eq hl, List.set_append_left _ _ (by rw [dg_length]; exact hn), hor_pad (by simp [dg_length])]
        rfl
      simp only [Int.toNat_natCast]
      rw [e]
      have hls : ((dg s w).set n d).length = s.length := by rw [List.length_set, dg_length]
      refine ⟨hs, hc w (by simp), wd_word (isSp_all hs) hls.symm hset, ?_⟩
      unfold dist
      rw [dg_wd (isSp_all hs) hls hset]
      exact ham_put _ _ _
    · rw [if_neg h1] at h
      cases h
  · rw [if_neg h0] at h
    exact absurd h h0
end Go.Proofs.Ytlfipjdjmpdblaa.Q
