-- The walks of some functions, printed by a program for this claim.
import Derived.Test.YtaphfmbloappkaaDoorPAllx0
import Derived.Test.YtaphfmbloappkaaDoorPAllx1
import Derived.Test.YtaphfmbloappkaaDoorPAllx2
import Derived.Test.YtaphfmbloappkaaDoorPAllx3
import Derived.Test.YtaphfmbloappkaaDoorPAllx4
import Derived.Test.YtaphfmbloappkaaDoorPAllx5
import Derived.Test.YtaphfmbloappkaaDoorPAllx7
import Derived.Test.YtaphfmbloappkaaDoorPAllx9
import Derived.Test.YtaphfmbloappkaaDoorPAllx11
import Derived.Test.YtaphfmbloappkaaDoorPAllx12
import Derived.Test.YtaphfmbloappkaaDoorPAllx14
import Derived.Test.YtaphfmbloappkaaDoorPAllx15
import Derived.Test.YtaphfmbloappkaaDoorPAllx16
import Derived.Test.YtaphfmbloappkaaDoorPAllx17
namespace Go.Proofs.YtaphfmbloappkaaDoorG.PAll
open Go.RowKit Go.Proofs.YtaphfmbloappkaaDoorW.PrintWords Go.Proofs.YtaphfmbloappkaaDoorW.PrintLast Go.Proofs.YtaphfmbloappkaaDoorW.PrintMore
attribute [local go_sem] max2_int min2_int max_two min_two max_three min_three max_four min_four   -- for this text's walks alone
set_option linter.unusedVariables false
set_option linter.unusedSimpArgs false
attribute [local go_sem high] eqA25
/-! ### timeboundlaw08_agree: function 18 -/
def timeboundlaw08_agree.f (k : Nat) (a0 : Int) (a1_0 : Int) (a1_1 : Int) (a2_0 : Int) (a2_1 : Int) (a3 : Int) : Option (Bool) := (congruence_Do.f k a0 a1_0 a1_1 a2_0 a2_1).bind fun bt419 => ((timeboundref08_Do.f k a0 a1_0 a1_1 a2_0 a2_1).bind fun bt421 => (if (bt419.1 == bt421.1 && (bt419.2 == bt421.2)) = true then ((congruence_Join.f k a1_0 a1_1 a2_0 a2_1).bind fun bt423 => ((timeboundref08_Join.f k a1_0 a1_1 a2_0 a2_1).bind fun bt425 => (if (bt423.1 == bt425.1 && (bt423.2 == bt425.2)) = true then ((congruence_Meet.f k a1_0 a1_1 a2_0 a2_1).bind fun bt427 => ((timeboundref08_Meet.f k a1_0 a1_1 a2_0 a2_1).bind fun bt429 => (if (bt427.1 == bt429.1 && (bt427.2 == bt429.2)) = true then ((congruence_Leq.f k a1_0 a1_1 a2_0 a2_1).bind fun t431 => ((timeboundref08_Leq.f k a1_0 a1_1 a2_0 a2_1).bind fun t432 => (if (t431 == t432) = true then ((congruence_Has.f k a1_0 a1_1 a3).bind fun t433 => ((timeboundref08_Has.f k a1_0 a1_1 a3).bind fun t434 => (if (t433 == t434) = true then ((congruence_Valid.f a1_0 a1_1).bind fun t435 => ((timeboundref08_Valid.f k a1_0 a1_1).bind fun t436 => (if (t435 == t436) = true then ((congruence_Of.f a3).bind fun bt437 => ((timeboundref08_Of.f a3).bind fun bt439 => (some (bt437.1 == bt439.1 && (bt437.2 == bt439.2))))) else (none)))) else (none)))) else (none)))) else (none)))) else (none)))) else (none)))
theorem timeboundlaw08_agree.mono : ∀ a0 a1 a2 a3 a4 a5 k, LeO (timeboundlaw08_agree.f k a0 a1 a2 a3 a4 a5) (timeboundlaw08_agree.f (k + 1) a0 a1 a2 a3 a4 a5) := by
 intro a0 a1 a2 a3 a4 a5 k
 unfold timeboundlaw08_agree.f
 repeat' first
  | (with_reducible exact congruence_Do.mono _ _ _ _ _ _)
  | (with_reducible exact congruence_Has.mono _ _ _ _)
  | (with_reducible exact congruence_Join.mono _ _ _ _ _)
  | (with_reducible exact congruence_Leq.mono _ _ _ _ _)
  | (with_reducible exact congruence_Meet.mono _ _ _ _ _)
  | (with_reducible exact timeboundref08_Do.mono _ _ _ _ _ _)
  | (with_reducible exact timeboundref08_Has.mono _ _ _ _)
  | (with_reducible exact timeboundref08_Join.mono _ _ _ _ _)
  | (with_reducible exact timeboundref08_Leq.mono _ _ _ _ _)
  | (with_reducible exact timeboundref08_Meet.mono _ _ _ _ _)
  | (with_reducible exact timeboundref08_Valid.mono _ _ _)
  | (with_reducible exact LeO.refl _)
  | (with_reducible exact LeO.none _)
  | (with_reducible refine LeO.ite ?_ ?_)
  | (with_reducible refine LeO.bind ?_ (fun _ => ?_))
  | exact congruence_Do.mono _ _ _ _ _ _
  | exact congruence_Has.mono _ _ _ _
  | exact congruence_Join.mono _ _ _ _ _
  | exact congruence_Leq.mono _ _ _ _ _
  | exact congruence_Meet.mono _ _ _ _ _
  | exact timeboundref08_Do.mono _ _ _ _ _ _
  | exact timeboundref08_Has.mono _ _ _ _
  | exact timeboundref08_Join.mono _ _ _ _ _
  | exact timeboundref08_Leq.mono _ _ _ _ _
  | exact timeboundref08_Meet.mono _ _ _ _ _
  | exact timeboundref08_Valid.mono _ _ _
  | exact LeO.none _
  | refine LeO.ite ?_ ?_
  | refine LeO.bind ?_ (fun _ => ?_)
def timeboundlaw08_agree.T1 : Bool × List (List Nat × List Nat) := (true, [([], []), ([], []), ([], []), ([0, 1, 2], [0, 1, 2]), ([], []), ([], []), ([], []), ([4, 5, 6, 3], [4, 5, 6]), ([3, 7], [3, 7]), ([8, 7], [8]), ([9], [9]), ([9], [9]), ([10, 11, 9, 9], [9, 10, 11]), ([9], [9]), ([9], [9]), ([13, 14, 12, 9], [9, 13, 14]), ([12, 15, 9], [9, 12, 15]), ([9, 16], [9, 16]), ([17, 15], [17]), ([18], [18]), ([18], [18]), ([19, 20, 18, 18], [18, 19, 20]), ([18], [18]), ([18], [18]), ([22, 23, 21, 18], [18, 22, 23]), ([21, 24, 18], [18, 21, 24]), ([18, 25], [18, 25]), ([26, 24], [26]), ([27], [27]), ([27], [27]), ([28, 29, 27, 27], [27, 28, 29]), ([27], [27]), ([27], [27]), ([31, 32, 30, 27], [27, 31, 32]), ([30, 33, 27], [27, 30, 33]), ([27, 34], [27, 34]), ([35, 33], [35]), ([36], [36]), ([36], [36]), ([37, 38, 36, 36], [36, 37, 38]), ([36], [36]), ([36], [36]), ([40, 41, 39, 36], [36, 40, 41]), ([39, 42, 36], [36, 39, 42]), ([36, 43], [36, 43]), ([44, 42], [44]), ([45], [45]), ([46, 45, 45], [45, 46]), ([45], [45]), ([48, 47, 45], [45, 48]), ([47, 49, 45], [45, 47, 49]), ([45, 50], [45, 50]), ([51, 49], [51]), ([52], [52]), ([53, 52, 52], [52, 53]), ([52], [52]), ([55, 54, 52], [52, 55]), ([54, 56, 52], [52, 54, 56]), ([52, 57], [52, 57]), ([58, 56, 0, 1, 2, 3, 4, 5, 6, 7, 8, 9, 10, 11, 12, 13, 14, 15, 16, 17, 18, 19, 20, 21, 22, 23, 24, 25, 26, 27, 28, 29, 30, 31, 32, 33, 34, 35, 36, 37, 38, 39, 40, 41, 42, 43, 44, 45, 46, 47, 48, 49, 50, 51, 52, 53, 54, 55, 56, 57, 58], [58])])
def timeboundlaw08_agree.B1 : List Nat := [0, 0, 0, 7, 0, 0, 0, 127, 255, 511, 1023, 1023, 4095, 1023, 1023, 32767, 65535, 131071, 262143, 524287, 524287, 2097151, 524287, 524287, 16777215, 33554431, 67108863, 134217727, 268435455, 268435455, 1073741823, 268435455, 268435455, 8589934591, 17179869183, 34359738367, 68719476735, 137438953471, 137438953471, 549755813887, 137438953471, 137438953471, 4398046511103, 8796093022207, 17592186044415, 35184372088831, 70368744177663, 140737488355327, 70368744177663, 562949953421311, 1125899906842623, 2251799813685247, 4503599627370495, 9007199254740991, 18014398509481983, 9007199254740991, 72057594037927935, 144115188075855871, 288230376151711743, 576460752303423487]
theorem timeboundlaw08_agree.tab1 : rtab .any (opsOf Tryd.f18 1) = timeboundlaw08_agree.T1 := by kernel_rfl
theorem timeboundlaw08_agree.bits1 : waitsOk timeboundlaw08_agree.T1.2 timeboundlaw08_agree.B1 = true := by kernel_rfl
set_option maxHeartbeats 80000000 in
set_option maxRecDepth 100000 in
theorem timeboundlaw08_agree.calls (k : Nat) (a0 : Int) (a1_0 : Int) (a1_1 : Int) (a2_0 : Int) (a2_1 : Int) (a3 : Int) (r : Bool) (w : World) (h : timeboundlaw08_agree.f k a0 a1_0 a1_1 a2_0 a2_1 a3 = some r) (hT0 : Go.Proofs.YtaphfmbloappkaaDoor.TabOK w) :
 Calls Tryd.prog 18 #[.int .i64 a0, .agg #[.int .i64 a1_0, .int .i64 a1_1], .agg #[.int .i64 a2_0, .int .i64 a2_1], .int .i64 a3] w fun e w' => e = .returned (.bool r) ∧ Below w.heap.size w w' := by
 have hT := aK hT0
 clear hT0
 have hu25 := Tryd.underlying25
 have HB := aK (Below.refl w.heap.size w)
 have H : ((congruence_Do.f k a0 a1_0 a1_1 a2_0 a2_1).bind fun bt419 => ((timeboundref08_Do.f k a0 a1_0 a1_1 a2_0 a2_1).bind fun bt421 => (if (bt419.1 == bt421.1 && (bt419.2 == bt421.2)) = true then ((congruence_Join.f k a1_0 a1_1 a2_0 a2_1).bind fun bt423 => ((timeboundref08_Join.f k a1_0 a1_1 a2_0 a2_1).bind fun bt425 => (if (bt423.1 == bt425.1 && (bt423.2 == bt425.2)) = true then ((congruence_Meet.f k a1_0 a1_1 a2_0 a2_1).bind fun bt427 => ((timeboundref08_Meet.f k a1_0 a1_1 a2_0 a2_1).bind fun bt429 => (if (bt427.1 == bt429.1 && (bt427.2 == bt429.2)) = true then ((congruence_Leq.f k a1_0 a1_1 a2_0 a2_1).bind fun t431 => ((timeboundref08_Leq.f k a1_0 a1_1 a2_0 a2_1).bind fun t432 => (if (t431 == t432) = true then ((congruence_Has.f k a1_0 a1_1 a3).bind fun t433 => ((timeboundref08_Has.f k a1_0 a1_1 a3).bind fun t434 => (if (t433 == t434) = true then ((congruence_Valid.f a1_0 a1_1).bind fun t435 => ((timeboundref08_Valid.f k a1_0 a1_1).bind fun t436 => (if (t435 == t436) = true then ((congruence_Of.f a3).bind fun bt437 => ((timeboundref08_Of.f a3).bind fun bt439 => (some (bt437.1 == bt439.1 && (bt437.2 == bt439.2))))) else (none)))) else (none)))) else (none)))) else (none)))) else (none)))) else (none)))) = some r := h
 clear h
 replace H := Option.bind_eq_some_iff.mp H
 obtain ⟨⟨t419, t420⟩, A50, H⟩ := H
 replace H : ((timeboundref08_Do.f k a0 a1_0 a1_1 a2_0 a2_1).bind fun bt421 => (if (t419 == bt421.1 && (t420 == bt421.2)) = true then ((congruence_Join.f k a1_0 a1_1 a2_0 a2_1).bind fun bt423 => ((timeboundref08_Join.f k a1_0 a1_1 a2_0 a2_1).bind fun bt425 => (if (bt423.1 == bt425.1 && (bt423.2 == bt425.2)) = true then ((congruence_Meet.f k a1_0 a1_1 a2_0 a2_1).bind fun bt427 => ((timeboundref08_Meet.f k a1_0 a1_1 a2_0 a2_1).bind fun bt429 => (if (bt427.1 == bt429.1 && (bt427.2 == bt429.2)) = true then ((congruence_Leq.f k a1_0 a1_1 a2_0 a2_1).bind fun t431 => ((timeboundref08_Leq.f k a1_0 a1_1 a2_0 a2_1).bind fun t432 => (if (t431 == t432) = true then ((congruence_Has.f k a1_0 a1_1 a3).bind fun t433 => ((timeboundref08_Has.f k a1_0 a1_1 a3).bind fun t434 => (if (t433 == t434) = true then ((congruence_Valid.f a1_0 a1_1).bind fun t435 => ((timeboundref08_Valid.f k a1_0 a1_1).bind fun t436 => (if (t435 == t436) = true then ((congruence_Of.f a3).bind fun bt437 => ((timeboundref08_Of.f a3).bind fun bt439 => (some (bt437.1 == bt439.1 && (bt437.2 == bt439.2))))) else (none)))) else (none)))) else (none)))) else (none)))) else (none)))) else (none))) = some r := H
 have A5 := aK A50
 clear A50
 replace H := Option.bind_eq_some_iff.mp H
 obtain ⟨⟨t421, t422⟩, A60, H⟩ := H
 replace H : (if (t419 == t421 && (t420 == t422)) = true then ((congruence_Join.f k a1_0 a1_1 a2_0 a2_1).bind fun bt423 => ((timeboundref08_Join.f k a1_0 a1_1 a2_0 a2_1).bind fun bt425 => (if (bt423.1 == bt425.1 && (bt423.2 == bt425.2)) = true then ((congruence_Meet.f k a1_0 a1_1 a2_0 a2_1).bind fun bt427 => ((timeboundref08_Meet.f k a1_0 a1_1 a2_0 a2_1).bind fun bt429 => (if (bt427.1 == bt429.1 && (bt427.2 == bt429.2)) = true then ((congruence_Leq.f k a1_0 a1_1 a2_0 a2_1).bind fun t431 => ((timeboundref08_Leq.f k a1_0 a1_1 a2_0 a2_1).bind fun t432 => (if (t431 == t432) = true then ((congruence_Has.f k a1_0 a1_1 a3).bind fun t433 => ((timeboundref08_Has.f k a1_0 a1_1 a3).bind fun t434 => (if (t433 == t434) = true then ((congruence_Valid.f a1_0 a1_1).bind fun t435 => ((timeboundref08_Valid.f k a1_0 a1_1).bind fun t436 => (if (t435 == t436) = true then ((congruence_Of.f a3).bind fun bt437 => ((timeboundref08_Of.f a3).bind fun bt439 => (some (bt437.1 == bt439.1 && (bt437.2 == bt439.2))))) else (none)))) else (none)))) else (none)))) else (none)))) else (none)))) else (none)) = some r := H
 have A6 := aK A60
 clear A60
 by_cases c7 : (t419 == t421 && (t420 == t422)) = true
 · rw [if_pos c7] at H
   have c7b0 : (t419 == t421 && (t420 == t422)) = true := c7
   (try (have c7b1 : decide (t419 = t421 && (t420 == t422)) = true := by simpa using c7))
   (try (have c7b2 : (t419 == t421 && (t420 == t422)) = true := by simpa using c7))
   clear c7
   replace H := Option.bind_eq_some_iff.mp H
   obtain ⟨⟨t423, t424⟩, A80, H⟩ := H
   replace H : ((timeboundref08_Join.f k a1_0 a1_1 a2_0 a2_1).bind fun bt425 => (if (t423 == bt425.1 && (t424 == bt425.2)) = true then ((congruence_Meet.f k a1_0 a1_1 a2_0 a2_1).bind fun bt427 => ((timeboundref08_Meet.f k a1_0 a1_1 a2_0 a2_1).bind fun bt429 => (if (bt427.1 == bt429.1 && (bt427.2 == bt429.2)) = true then ((congruence_Leq.f k a1_0 a1_1 a2_0 a2_1).bind fun t431 => ((timeboundref08_Leq.f k a1_0 a1_1 a2_0 a2_1).bind fun t432 => (if (t431 == t432) = true then ((congruence_Has.f k a1_0 a1_1 a3).bind fun t433 => ((timeboundref08_Has.f k a1_0 a1_1 a3).bind fun t434 => (if (t433 == t434) = true then ((congruence_Valid.f a1_0 a1_1).bind fun t435 => ((timeboundref08_Valid.f k a1_0 a1_1).bind fun t436 => (if (t435 == t436) = true then ((congruence_Of.f a3).bind fun bt437 => ((timeboundref08_Of.f a3).bind fun bt439 => (some (bt437.1 == bt439.1 && (bt437.2 == bt439.2))))) else (none)))) else (none)))) else (none)))) else (none)))) else (none))) = some r := H
   have A8 := aK A80
   clear A80
   replace H := Option.bind_eq_some_iff.mp H
   obtain ⟨⟨t425, t426⟩, A90, H⟩ := H
   replace H : (if (t423 == t425 && (t424 == t426)) = true then ((congruence_Meet.f k a1_0 a1_1 a2_0 a2_1).bind fun bt427 => ((timeboundref08_Meet.f k a1_0 a1_1 a2_0 a2_1).bind fun bt429 => (if (bt427.1 == bt429.1 && (bt427.2 == bt429.2)) = true then ((congruence_Leq.f k a1_0 a1_1 a2_0 a2_1).bind fun t431 => ((timeboundref08_Leq.f k a1_0 a1_1 a2_0 a2_1).bind fun t432 => (if (t431 == t432) = true then ((congruence_Has.f k a1_0 a1_1 a3).bind fun t433 => ((timeboundref08_Has.f k a1_0 a1_1 a3).bind fun t434 => (if (t433 == t434) = true then ((congruence_Valid.f a1_0 a1_1).bind fun t435 => ((timeboundref08_Valid.f k a1_0 a1_1).bind fun t436 => (if (t435 == t436) = true then ((congruence_Of.f a3).bind fun bt437 => ((timeboundref08_Of.f a3).bind fun bt439 => (some (bt437.1 == bt439.1 && (bt437.2 == bt439.2))))) else (none)))) else (none)))) else (none)))) else (none)))) else (none)) = some r := H
   have A9 := aK A90
   clear A90
   by_cases c10 : (t423 == t425 && (t424 == t426)) = true
   · rw [if_pos c10] at H
     have c10b0 : (t423 == t425 && (t424 == t426)) = true := c10
     (try (have c10b1 : decide (t423 = t425 && (t424 == t426)) = true := by simpa using c10))
     (try (have c10b2 : (t423 == t425 && (t424 == t426)) = true := by simpa using c10))
     clear c10
     replace H := Option.bind_eq_some_iff.mp H
     obtain ⟨⟨t427, t428⟩, A110, H⟩ := H
     replace H : ((timeboundref08_Meet.f k a1_0 a1_1 a2_0 a2_1).bind fun bt429 => (if (t427 == bt429.1 && (t428 == bt429.2)) = true then ((congruence_Leq.f k a1_0 a1_1 a2_0 a2_1).bind fun t431 => ((timeboundref08_Leq.f k a1_0 a1_1 a2_0 a2_1).bind fun t432 => (if (t431 == t432) = true then ((congruence_Has.f k a1_0 a1_1 a3).bind fun t433 => ((timeboundref08_Has.f k a1_0 a1_1 a3).bind fun t434 => (if (t433 == t434) = true then ((congruence_Valid.f a1_0 a1_1).bind fun t435 => ((timeboundref08_Valid.f k a1_0 a1_1).bind fun t436 => (if (t435 == t436) = true then ((congruence_Of.f a3).bind fun bt437 => ((timeboundref08_Of.f a3).bind fun bt439 => (some (bt437.1 == bt439.1 && (bt437.2 == bt439.2))))) else (none)))) else (none)))) else (none)))) else (none))) = some r := H
     have A11 := aK A110
     clear A110
     replace H := Option.bind_eq_some_iff.mp H
     obtain ⟨⟨t429, t430⟩, A120, H⟩ := H
     replace H : (if (t427 == t429 && (t428 == t430)) = true then ((congruence_Leq.f k a1_0 a1_1 a2_0 a2_1).bind fun t431 => ((timeboundref08_Leq.f k a1_0 a1_1 a2_0 a2_1).bind fun t432 => (if (t431 == t432) = true then ((congruence_Has.f k a1_0 a1_1 a3).bind fun t433 => ((timeboundref08_Has.f k a1_0 a1_1 a3).bind fun t434 => (if (t433 == t434) = true then ((congruence_Valid.f a1_0 a1_1).bind fun t435 => ((timeboundref08_Valid.f k a1_0 a1_1).bind fun t436 => (if (t435 == t436) = true then ((congruence_Of.f a3).bind fun bt437 => ((timeboundref08_Of.f a3).bind fun bt439 => (some (bt437.1 == bt439.1 && (bt437.2 == bt439.2))))) else (none)))) else (none)))) else (none)))) else (none)) = some r := H
     have A12 := aK A120
     clear A120
     by_cases c13 : (t427 == t429 && (t428 == t430)) = true
     · rw [if_pos c13] at H
       have c13b0 : (t427 == t429 && (t428 == t430)) = true := c13
       (try (have c13b1 : decide (t427 = t429 && (t428 == t430)) = true := by simpa using c13))
       (try (have c13b2 : (t427 == t429 && (t428 == t430)) = true := by simpa using c13))
       clear c13
       replace H := Option.bind_eq_some_iff.mp H
       obtain ⟨t431, A140, H⟩ := H
       replace H : ((timeboundref08_Leq.f k a1_0 a1_1 a2_0 a2_1).bind fun t432 => (if (t431 == t432) = true then ((congruence_Has.f k a1_0 a1_1 a3).bind fun t433 => ((timeboundref08_Has.f k a1_0 a1_1 a3).bind fun t434 => (if (t433 == t434) = true then ((congruence_Valid.f a1_0 a1_1).bind fun t435 => ((timeboundref08_Valid.f k a1_0 a1_1).bind fun t436 => (if (t435 == t436) = true then ((congruence_Of.f a3).bind fun bt437 => ((timeboundref08_Of.f a3).bind fun bt439 => (some (bt437.1 == bt439.1 && (bt437.2 == bt439.2))))) else (none)))) else (none)))) else (none))) = some r := H
       have A14 := aK A140
       clear A140
       replace H := Option.bind_eq_some_iff.mp H
       obtain ⟨t432, A150, H⟩ := H
       replace H : (if (t431 == t432) = true then ((congruence_Has.f k a1_0 a1_1 a3).bind fun t433 => ((timeboundref08_Has.f k a1_0 a1_1 a3).bind fun t434 => (if (t433 == t434) = true then ((congruence_Valid.f a1_0 a1_1).bind fun t435 => ((timeboundref08_Valid.f k a1_0 a1_1).bind fun t436 => (if (t435 == t436) = true then ((congruence_Of.f a3).bind fun bt437 => ((timeboundref08_Of.f a3).bind fun bt439 => (some (bt437.1 == bt439.1 && (bt437.2 == bt439.2))))) else (none)))) else (none)))) else (none)) = some r := H
       have A15 := aK A150
       clear A150
       by_cases c16 : (t431 == t432) = true
       · rw [if_pos c16] at H
         have c16b0 : (t431 == t432) = true := c16
         (try (have c16b1 : decide (t431 = t432) = true := by simpa using c16))
         (try (have c16b2 : (t431 == t432) = true := by simpa using c16))
         clear c16
         replace H := Option.bind_eq_some_iff.mp H
         obtain ⟨t433, A170, H⟩ := H
         replace H : ((timeboundref08_Has.f k a1_0 a1_1 a3).bind fun t434 => (if (t433 == t434) = true then ((congruence_Valid.f a1_0 a1_1).bind fun t435 => ((timeboundref08_Valid.f k a1_0 a1_1).bind fun t436 => (if (t435 == t436) = true then ((congruence_Of.f a3).bind fun bt437 => ((timeboundref08_Of.f a3).bind fun bt439 => (some (bt437.1 == bt439.1 && (bt437.2 == bt439.2))))) else (none)))) else (none))) = some r := H
         have A17 := aK A170
         clear A170
         replace H := Option.bind_eq_some_iff.mp H
         obtain ⟨t434, A180, H⟩ := H
         replace H : (if (t433 == t434) = true then ((congruence_Valid.f a1_0 a1_1).bind fun t435 => ((timeboundref08_Valid.f k a1_0 a1_1).bind fun t436 => (if (t435 == t436) = true then ((congruence_Of.f a3).bind fun bt437 => ((timeboundref08_Of.f a3).bind fun bt439 => (some (bt437.1 == bt439.1 && (bt437.2 == bt439.2))))) else (none)))) else (none)) = some r := H
         have A18 := aK A180
         clear A180
         by_cases c19 : (t433 == t434) = true
         · rw [if_pos c19] at H
           have c19b0 : (t433 == t434) = true := c19
           (try (have c19b1 : decide (t433 = t434) = true := by simpa using c19))
           (try (have c19b2 : (t433 == t434) = true := by simpa using c19))
           clear c19
           replace H := Option.bind_eq_some_iff.mp H
           obtain ⟨t435, A200, H⟩ := H
           replace H : ((timeboundref08_Valid.f k a1_0 a1_1).bind fun t436 => (if (t435 == t436) = true then ((congruence_Of.f a3).bind fun bt437 => ((timeboundref08_Of.f a3).bind fun bt439 => (some (bt437.1 == bt439.1 && (bt437.2 == bt439.2))))) else (none))) = some r := H
           have A20 := aK A200
           clear A200
           replace H := Option.bind_eq_some_iff.mp H
           obtain ⟨t436, A210, H⟩ := H
           replace H : (if (t435 == t436) = true then ((congruence_Of.f a3).bind fun bt437 => ((timeboundref08_Of.f a3).bind fun bt439 => (some (bt437.1 == bt439.1 && (bt437.2 == bt439.2))))) else (none)) = some r := H
           have A21 := aK A210
           clear A210
           by_cases c22 : (t435 == t436) = true
           · rw [if_pos c22] at H
             have c22b0 : (t435 == t436) = true := c22
             (try (have c22b1 : decide (t435 = t436) = true := by simpa using c22))
             (try (have c22b2 : (t435 == t436) = true := by simpa using c22))
             clear c22
             replace H := Option.bind_eq_some_iff.mp H
             obtain ⟨⟨t437, t438⟩, A230, H⟩ := H
             replace H : ((timeboundref08_Of.f a3).bind fun bt439 => (some (t437 == bt439.1 && (t438 == bt439.2)))) = some r := H
             have A23 := aK A230
             clear A230
             replace H := Option.bind_eq_some_iff.mp H
             obtain ⟨⟨t439, t440⟩, A240, H⟩ := H
             replace H : (some (t437 == t439 && (t438 == t440))) = some r := H
             have A24 := aK A240
             clear A240
             obtain rfl := Option.some.inj H
             go_enter Tryd.func18, Tryd.ntmps18
             try go_wp2_with (first | ((with_reducible refine gate_dst (N := 5) rfl ?_); refine box_event ?hg (N := 5) ?hd (cs := #[.int .i64 a1_0, .int .i64 a1_1]) (t := 25) ?hr ?_; (case hd => rfl); (case hg => rfl); (case hr => first | (go_simp; done) | (go_simp; rfl)); intro gb417 hg w25 hbox hb; have n0_ := aK (below_step (by repeat (first | (with_reducible first | exact HB.out | apply hA | apply hN | apply hD) | exact HB.out)) hb); have n1_ := aK (hbox); have n2_ := aK ((by rw [hg]; exact (below_size (by repeat (first | (with_reducible first | exact HB.out | apply hA | apply hN | apply hD) | exact HB.out))) : w.heap.size ≤ gb417)); have n3_ := aK ((by rw [hg]; exact (below_size (by repeat (first | (with_reducible first | exact HB.out | apply hA | apply hN | apply hD) | exact HB.out))) : w.heap.size ≤ gb417)); clear HB; have HB := n0_; have BK417 := n1_; have GW417 := n2_; have GE417 := n3_; clear n0_ n1_ n2_ n3_; clear hb hbox hg) | ((with_reducible refine gate_dst (N := 6) rfl ?_); refine box_event ?hg (N := 6) ?hd (cs := #[.int .i64 a2_0, .int .i64 a2_1]) (t := 25) ?hr ?_; (case hd => rfl); (case hg => rfl); (case hr => first | (go_simp; done) | (go_simp; rfl)); intro gb418 hg w26 hbox hb; have n0_ := aK (blk_below (g := gb417) (o := .cells #[.int .i64 a1_0, .int .i64 a1_1] 25 (0, 0)) (by (with_reducible repeat (first | refine bR ?_ | refine bA ?_ _)); exact BK417.out) hb); have n1_ := aK (below_step (by repeat (first | (with_reducible first | exact HB.out | apply hA | apply hN | apply hD | refine below_set ?_ GE417.out) | exact HB.out)) hb); have n2_ := aK (hbox); have n3_ := aK ((by rw [hg]; exact (below_size (by repeat (first | (with_reducible first | exact HB.out | apply hA | apply hN | apply hD | refine below_set ?_ GE417.out) | exact HB.out))) : w.heap.size ≤ gb418)); have n4_ := aK ((by rw [hg]; exact (below_size (by repeat (first | (with_reducible first | exact HB.out | apply hA | apply hN | apply hD | refine below_set ?_ GE417.out) | exact HB.out))) : w.heap.size ≤ gb418)); have n5_ := aK ((by rw [hg]; exact Nat.ne_of_lt (blk_lt (g := gb417) (o := .cells #[.int .i64 a1_0, .int .i64 a1_1] 25 (0, 0)) (by (with_reducible repeat (first | refine bR ?_ | refine bA ?_ _)); exact BK417.out)) : gb417 ≠ gb418)); have n6_ := aK ((by rw [hg]; exact Nat.ne_of_gt (blk_lt (g := gb417) (o := .cells #[.int .i64 a1_0, .int .i64 a1_1] 25 (0, 0)) (by (with_reducible repeat (first | refine bR ?_ | refine bA ?_ _)); exact BK417.out)) : gb418 ≠ gb417)); clear BK417; clear HB; have BK417 := n0_; have HB := n1_; have BK418 := n2_; have GW418 := n3_; have GE418 := n4_; have NB417_418 := n5_; have NB418_417 := n6_; clear n0_ n1_ n2_ n3_ n4_ n5_ n6_; clear hb hbox hg))
             have n0_ := aK (blk_drew BK417.out)
             have n1_ := aK (blk_drew BK418.out)
             have n2_ := aK (below_drew1 HB.out)
             clear BK417
             clear BK418
             clear HB
             have BK417 := n0_
             have BK418 := n1_
             have HB := n2_
             clear n0_ n1_ n2_
             refine start_ (n := 60) (S := fun w' => w'.cell? ⟨gb417, 0, none⟩ = some (.int .i64 a1_0) ∧ w'.cell? ⟨gb417, 1, none⟩ = some (.int .i64 a1_1) ∧ w'.cell? ⟨gb418, 0, none⟩ = some (.int .i64 a2_0) ∧ w'.cell? ⟨gb418, 1, none⟩ = some (.int .i64 a2_1)) (ds := []) #[Z,Z,Z,Z,Z,Z,Z,Z,Z,Z,Z,Z,Z,Z,Z,Z,Z,Z,Z,Z,Z,Z,Z,Z,Z,Z,Z,Z,Z,Z,Z,Z,Z,Z,Z,Z,Z,Z,Z,Z,Z,Z,Z,Z,Z,Z,Z,Z,Z,Z,Z,Z,Z,Z,Z,Z,Z,Z,Z,Z] (by kernel_rfl) rfl rfl ⟨(blk_cell BK417.out 0).trans rfl, (blk_cell BK417.out 1).trans rfl, (blk_cell BK418.out 0).trans rfl, (blk_cell BK418.out 1).trans rfl⟩ (fun hHeld => ?_); refine with_tabW timeboundlaw08_agree.tab1 timeboundlaw08_agree.bits1 (fun HT_ HW_ => ?_)
             generalize w26.drew = w27 at BK417 BK418 HB hHeld ⊢
             refine pure_ (i := 0) (N := some 9) (v := ?_) (a' := ?_) #[Y,Z,Z,Z,Z,Z,Z,Z,Z,Z,Z,Z,Z,Z,Z,Z,Z,Z,Z,Z,Z,Z,Z,Z,Z,Z,Z,Z,Z,Z,Z,Z,Z,Z,Z,Z,Z,Z,Z,Z,Z,Z,Z,Z,Z,Z,Z,Z,Z,Z,Z,Z,Z,Z,Z,Z,Z,Z,Z,Z] rfl rfl (any_of HT_.out (by kernel_rfl)) (fun _ _ _ h => h) (Or.inl ⟨by rfl, ?_⟩) ?_ ?_
             rotate_left
             · intro w'
               go_simp
               with_reducible rfl
             rotate_left
             · simp only [Act.put, sA, sB, sC, i64_w, i32_w]
               rfl
             refine pure_ (i := 4) (N := some 13) (v := ?_) (a' := ?_) #[Y,Z,Z,Z,Y,Z,Z,Z,Z,Z,Z,Z,Z,Z,Z,Z,Z,Z,Z,Z,Z,Z,Z,Z,Z,Z,Z,Z,Z,Z,Z,Z,Z,Z,Z,Z,Z,Z,Z,Z,Z,Z,Z,Z,Z,Z,Z,Z,Z,Z,Z,Z,Z,Z,Z,Z,Z,Z,Z,Z] rfl rfl (any_of HT_.out (by kernel_rfl)) (fun _ _ _ h => h) (Or.inl ⟨by rfl, ?_⟩) ?_ ?_
             rotate_left
             · intro w'
               go_simp
               with_reducible rfl
             rotate_left
             · simp only [Act.put, sA, sB, sC, i64_w, i32_w]
               rfl
             refine take_ (i := 1) (N := some 10) (v := ?_) (a' := ?_) #[Y,Y,Z,Z,Y,Z,Z,Z,Z,Z,Z,Z,Z,Z,Z,Z,Z,Z,Z,Z,Z,Z,Z,Z,Z,Z,Z,Z,Z,Z,Z,Z,Z,Z,Z,Z,Z,Z,Z,Z,Z,Z,Z,Z,Z,Z,Z,Z,Z,Z,Z,Z,Z,Z,Z,Z,Z,Z,Z,Z] rfl rfl (take_ofW HT_.out HW_.out (by kernel_rfl)) (fun _ _ _ h => h) (Or.inl ⟨by rfl, ?_⟩) hHeld ?_ ?_
             rotate_left
             · rintro w' ⟨s0, s1, s2, s3⟩
               go_simp
               with_reducible rfl
             rotate_left
             · simp only [Act.put, sA, sB, sC, i64_w, i32_w]
               rfl
             refine take_ (i := 2) (N := some 11) (v := ?_) (a' := ?_) #[Y,Y,Y,Z,Y,Z,Z,Z,Z,Z,Z,Z,Z,Z,Z,Z,Z,Z,Z,Z,Z,Z,Z,Z,Z,Z,Z,Z,Z,Z,Z,Z,Z,Z,Z,Z,Z,Z,Z,Z,Z,Z,Z,Z,Z,Z,Z,Z,Z,Z,Z,Z,Z,Z,Z,Z,Z,Z,Z,Z] rfl rfl (take_ofW HT_.out HW_.out (by kernel_rfl)) (fun _ _ _ h => h) (Or.inl ⟨by rfl, ?_⟩) hHeld ?_ ?_
             rotate_left
             · rintro w' ⟨s0, s1, s2, s3⟩
               go_simp
               with_reducible rfl
             rotate_left
             · simp only [Act.put, sA, sB, sC, i64_w, i32_w]
               rfl
             refine take_ (i := 5) (N := some 14) (v := ?_) (a' := ?_) #[Y,Y,Y,Z,Y,Y,Z,Z,Z,Z,Z,Z,Z,Z,Z,Z,Z,Z,Z,Z,Z,Z,Z,Z,Z,Z,Z,Z,Z,Z,Z,Z,Z,Z,Z,Z,Z,Z,Z,Z,Z,Z,Z,Z,Z,Z,Z,Z,Z,Z,Z,Z,Z,Z,Z,Z,Z,Z,Z,Z] rfl rfl (take_ofW HT_.out HW_.out (by kernel_rfl)) (fun _ _ _ h => h) (Or.inl ⟨by rfl, ?_⟩) hHeld ?_ ?_
             rotate_left
             · rintro w' ⟨s0, s1, s2, s3⟩
               go_simp
               with_reducible rfl
             rotate_left
             · simp only [Act.put, sA, sB, sC, i64_w, i32_w]
               rfl
             refine take_ (i := 6) (N := some 15) (v := ?_) (a' := ?_) #[Y,Y,Y,Z,Y,Y,Y,Z,Z,Z,Z,Z,Z,Z,Z,Z,Z,Z,Z,Z,Z,Z,Z,Z,Z,Z,Z,Z,Z,Z,Z,Z,Z,Z,Z,Z,Z,Z,Z,Z,Z,Z,Z,Z,Z,Z,Z,Z,Z,Z,Z,Z,Z,Z,Z,Z,Z,Z,Z,Z] rfl rfl (take_ofW HT_.out HW_.out (by kernel_rfl)) (fun _ _ _ h => h) (Or.inl ⟨by rfl, ?_⟩) hHeld ?_ ?_
             rotate_left
             · rintro w' ⟨s0, s1, s2, s3⟩
               go_simp
               with_reducible rfl
             rotate_left
             · simp only [Act.put, sA, sB, sC, i64_w, i32_w]
               rfl
             refine one_ (i := 3) (N := some 12) #[Y,Y,Y,Y,Y,Y,Y,Z,Z,Z,Z,Z,Z,Z,Z,Z,Z,Z,Z,Z,Z,Z,Z,Z,Z,Z,Z,Z,Z,Z,Z,Z,Z,Z,Z,Z,Z,Z,Z,Z,Z,Z,Z,Z,Z,Z,Z,Z,Z,Z,Z,Z,Z,Z,Z,Z,Z,Z,Z,Z] rfl rfl (one_of HT_.out (by kernel_rfl)) (by decide) (fun K hK => ?_)
             refine goes_ Tryd.func10 (by kernel_rfl) rfl #[.int .i64 a0, .agg #[.int .i64 a1_0, .int .i64 a1_1], .agg #[.int .i64 a2_0, .int .i64 a2_1]] (by rfl) rfl rfl (by (try simp only [mA, mB, mC]); first | done | rfl) ?_
             with_reducible refine (congruence_Do.calls k a0 a1_0 a1_1 a2_0 a2_1 t419 t420 _ A5.out (Go.Proofs.YtaphfmbloappkaaDoor.TabOK.below hT.out (by repeat (first | (with_reducible first | exact HB.out | apply hA | apply hN | apply hD | refine below_set ?_ GE417.out | refine below_set ?_ GE418.out) | exact HB.out)))).mono ?_
             rintro e w28 ⟨rfl, hb⟩
             refine ⟨_, rfl, ?_⟩
             have n0_ := aK (blk_below (g := gb417) (o := .cells #[.int .i64 a1_0, .int .i64 a1_1] 25 (0, 0)) (by (with_reducible repeat (first | refine bR ?_ | refine bA ?_ _)); exact BK417.out) hb)
             have n1_ := aK (blk_below (g := gb418) (o := .cells #[.int .i64 a2_0, .int .i64 a2_1] 25 (0, 0)) (by (with_reducible repeat (first | refine bR ?_ | refine bA ?_ _)); exact BK418.out) hb)
             have n2_ := aK (below_step (by repeat (first | (with_reducible first | exact HB.out | apply hA | apply hN | apply hD | refine below_set ?_ GE417.out | refine below_set ?_ GE418.out) | exact HB.out)) hb)
             clear BK417
             clear BK418
             clear HB
             have BK417 := n0_
             have BK418 := n1_
             have HB := n2_
             clear n0_ n1_ n2_
             (try clear hb)
             (try clear hb2)
             (try clear hk)
             (try clear hi)
             refine hK.out _ _ ⟨(blk_cell BK417.out 0).trans rfl, (blk_cell BK417.out 1).trans rfl, (blk_cell BK418.out 0).trans rfl, (blk_cell BK418.out 1).trans rfl⟩ (fun hHeld => ?_)
             clear hK K
             refine norm_ (a' := ?_) ?_ ?_
             rotate_left
             · show Act.put _ (some 12) _ = _
               simp only [Act.put, sA, sB, sC, i64_w, i32_w]
               rfl
             refine one_ (i := 7) (N := some 16) #[Y,Y,Y,Y,Y,Y,Y,Y,Z,Z,Z,Z,Z,Z,Z,Z,Z,Z,Z,Z,Z,Z,Z,Z,Z,Z,Z,Z,Z,Z,Z,Z,Z,Z,Z,Z,Z,Z,Z,Z,Z,Z,Z,Z,Z,Z,Z,Z,Z,Z,Z,Z,Z,Z,Z,Z,Z,Z,Z,Z] rfl rfl (one_of HT_.out (by kernel_rfl)) (by decide) (fun K hK => ?_)
             refine goes_ Tryd.func32 (by kernel_rfl) rfl #[.int .i64 a0, .agg #[.int .i64 a1_0, .int .i64 a1_1], .agg #[.int .i64 a2_0, .int .i64 a2_1]] (by rfl) rfl rfl (by (try simp only [mA, mB, mC]); first | done | rfl) ?_
             with_reducible refine (timeboundref08_Do.calls k a0 a1_0 a1_1 a2_0 a2_1 t421 t422 _ A6.out).mono ?_
             rintro e w29 ⟨rfl, hb⟩
             refine ⟨_, rfl, ?_⟩
             have n0_ := aK (blk_below (g := gb417) (o := .cells #[.int .i64 a1_0, .int .i64 a1_1] 25 (0, 0)) (by (with_reducible repeat (first | refine bR ?_ | refine bA ?_ _)); exact BK417.out) hb)
             have n1_ := aK (blk_below (g := gb418) (o := .cells #[.int .i64 a2_0, .int .i64 a2_1] 25 (0, 0)) (by (with_reducible repeat (first | refine bR ?_ | refine bA ?_ _)); exact BK418.out) hb)
             have n2_ := aK (below_step (by repeat (first | (with_reducible first | exact HB.out | apply hA | apply hN | apply hD | refine below_set ?_ GE417.out | refine below_set ?_ GE418.out) | exact HB.out)) hb)
             clear BK417
             clear BK418
             clear HB
             have BK417 := n0_
             have BK418 := n1_
             have HB := n2_
             clear n0_ n1_ n2_
             (try clear hb)
             (try clear hb2)
             (try clear hk)
             (try clear hi)
             refine hK.out _ _ ⟨(blk_cell BK417.out 0).trans rfl, (blk_cell BK417.out 1).trans rfl, (blk_cell BK418.out 0).trans rfl, (blk_cell BK418.out 1).trans rfl⟩ (fun hHeld => ?_)
             clear hK K
             refine norm_ (a' := ?_) ?_ ?_
             rotate_left
             · show Act.put _ (some 16) _ = _
               simp only [Act.put, sA, sB, sC, i64_w, i32_w]
               rfl
             refine pure_ (i := 8) (N := some 17) (v := ?_) (a' := ?_) #[Y,Y,Y,Y,Y,Y,Y,Y,Y,Z,Z,Z,Z,Z,Z,Z,Z,Z,Z,Z,Z,Z,Z,Z,Z,Z,Z,Z,Z,Z,Z,Z,Z,Z,Z,Z,Z,Z,Z,Z,Z,Z,Z,Z,Z,Z,Z,Z,Z,Z,Z,Z,Z,Z,Z,Z,Z,Z,Z,Z] rfl rfl (any_of HT_.out (by kernel_rfl)) (fun _ _ _ h => h) (Or.inl ⟨by rfl, ?_⟩) ?_ ?_
             rotate_left
             · intro w'
               go_simp
               with_reducible rfl
             rotate_left
             · simp only [Act.put, sA, sB, sC, i64_w, i32_w]
               rfl
             refine pure_ (i := 9) (N := some 18) (v := ?_) (a' := ?_) #[Y,Y,Y,Y,Y,Y,Y,Y,Y,Y,Z,Z,Z,Z,Z,Z,Z,Z,Z,Z,Z,Z,Z,Z,Z,Z,Z,Z,Z,Z,Z,Z,Z,Z,Z,Z,Z,Z,Z,Z,Z,Z,Z,Z,Z,Z,Z,Z,Z,Z,Z,Z,Z,Z,Z,Z,Z,Z,Z,Z] rfl rfl (any_of HT_.out (by kernel_rfl)) (fun _ _ _ h => h) (Or.inl ⟨by rfl, ?_⟩) ?_ ?_
             rotate_left
             · intro w'
               go_simp
               with_reducible rfl
             rotate_left
             · simp only [Act.put, sA, sB, sC, i64_w, i32_w]
               rfl
             refine take_ (i := 10) (N := some 19) (v := ?_) (a' := ?_) #[Y,Y,Y,Y,Y,Y,Y,Y,Y,Y,Y,Z,Z,Z,Z,Z,Z,Z,Z,Z,Z,Z,Z,Z,Z,Z,Z,Z,Z,Z,Z,Z,Z,Z,Z,Z,Z,Z,Z,Z,Z,Z,Z,Z,Z,Z,Z,Z,Z,Z,Z,Z,Z,Z,Z,Z,Z,Z,Z,Z] rfl rfl (take_ofW HT_.out HW_.out (by kernel_rfl)) (fun _ _ _ h => h) (Or.inl ⟨by rfl, ?_⟩) hHeld ?_ ?_
             rotate_left
             · rintro w' ⟨s0, s1, s2, s3⟩
               go_simp
               with_reducible rfl
             rotate_left
             · simp only [Act.put, sA, sB, sC, i64_w, i32_w]
               rfl
             refine take_ (i := 11) (N := some 20) (v := ?_) (a' := ?_) #[Y,Y,Y,Y,Y,Y,Y,Y,Y,Y,Y,Y,Z,Z,Z,Z,Z,Z,Z,Z,Z,Z,Z,Z,Z,Z,Z,Z,Z,Z,Z,Z,Z,Z,Z,Z,Z,Z,Z,Z,Z,Z,Z,Z,Z,Z,Z,Z,Z,Z,Z,Z,Z,Z,Z,Z,Z,Z,Z,Z] rfl rfl (take_ofW HT_.out HW_.out (by kernel_rfl)) (fun _ _ _ h => h) (Or.inl ⟨by rfl, ?_⟩) hHeld ?_ ?_
             rotate_left
             · rintro w' ⟨s0, s1, s2, s3⟩
               go_simp
               with_reducible rfl
             rotate_left
             · simp only [Act.put, sA, sB, sC, i64_w, i32_w]
               rfl
             refine take_ (i := 13) (N := some 22) (v := ?_) (a' := ?_) #[Y,Y,Y,Y,Y,Y,Y,Y,Y,Y,Y,Y,Z,Y,Z,Z,Z,Z,Z,Z,Z,Z,Z,Z,Z,Z,Z,Z,Z,Z,Z,Z,Z,Z,Z,Z,Z,Z,Z,Z,Z,Z,Z,Z,Z,Z,Z,Z,Z,Z,Z,Z,Z,Z,Z,Z,Z,Z,Z,Z] rfl rfl (take_ofW HT_.out HW_.out (by kernel_rfl)) (fun _ _ _ h => h) (Or.inl ⟨by rfl, ?_⟩) hHeld ?_ ?_
             rotate_left
             · rintro w' ⟨s0, s1, s2, s3⟩
               go_simp
               with_reducible rfl
             rotate_left
             · simp only [Act.put, sA, sB, sC, i64_w, i32_w]
               rfl
             refine take_ (i := 14) (N := some 23) (v := ?_) (a' := ?_) #[Y,Y,Y,Y,Y,Y,Y,Y,Y,Y,Y,Y,Z,Y,Y,Z,Z,Z,Z,Z,Z,Z,Z,Z,Z,Z,Z,Z,Z,Z,Z,Z,Z,Z,Z,Z,Z,Z,Z,Z,Z,Z,Z,Z,Z,Z,Z,Z,Z,Z,Z,Z,Z,Z,Z,Z,Z,Z,Z,Z] rfl rfl (take_ofW HT_.out HW_.out (by kernel_rfl)) (fun _ _ _ h => h) (Or.inl ⟨by rfl, ?_⟩) hHeld ?_ ?_
             rotate_left
             · rintro w' ⟨s0, s1, s2, s3⟩
               go_simp
               with_reducible rfl
             rotate_left
             · simp only [Act.put, sA, sB, sC, i64_w, i32_w]
               rfl
             refine one_ (i := 12) (N := some 21) #[Y,Y,Y,Y,Y,Y,Y,Y,Y,Y,Y,Y,Y,Y,Y,Z,Z,Z,Z,Z,Z,Z,Z,Z,Z,Z,Z,Z,Z,Z,Z,Z,Z,Z,Z,Z,Z,Z,Z,Z,Z,Z,Z,Z,Z,Z,Z,Z,Z,Z,Z,Z,Z,Z,Z,Z,Z,Z,Z,Z] rfl rfl (one_of HT_.out (by kernel_rfl)) (by decide) (fun K hK => ?_)
             refine goes_ Tryd.func22 (by kernel_rfl) rfl #[.agg #[.int .i64 a1_0, .int .i64 a1_1], .agg #[.int .i64 a2_0, .int .i64 a2_1]] (by rfl) rfl rfl (by (try simp only [mA, mB, mC]); first | done | rfl) ?_
             with_reducible refine (congruence_Join.calls k a1_0 a1_1 a2_0 a2_1 t423 t424 _ A8.out (Go.Proofs.YtaphfmbloappkaaDoor.TabOK.below hT.out (by repeat (first | (with_reducible first | exact HB.out | apply hA | apply hN | apply hD | refine below_set ?_ GE417.out | refine below_set ?_ GE418.out) | exact HB.out)))).mono ?_
             rintro e w30 ⟨rfl, hb⟩
             refine ⟨_, rfl, ?_⟩
             have n0_ := aK (blk_below (g := gb417) (o := .cells #[.int .i64 a1_0, .int .i64 a1_1] 25 (0, 0)) (by (with_reducible repeat (first | refine bR ?_ | refine bA ?_ _)); exact BK417.out) hb)
             have n1_ := aK (blk_below (g := gb418) (o := .cells #[.int .i64 a2_0, .int .i64 a2_1] 25 (0, 0)) (by (with_reducible repeat (first | refine bR ?_ | refine bA ?_ _)); exact BK418.out) hb)
             have n2_ := aK (below_step (by repeat (first | (with_reducible first | exact HB.out | apply hA | apply hN | apply hD | refine below_set ?_ GE417.out | refine below_set ?_ GE418.out) | exact HB.out)) hb)
             clear BK417
             clear BK418
             clear HB
             have BK417 := n0_
             have BK418 := n1_
             have HB := n2_
             clear n0_ n1_ n2_
             (try clear hb)
             (try clear hb2)
             (try clear hk)
             (try clear hi)
             refine hK.out _ _ ⟨(blk_cell BK417.out 0).trans rfl, (blk_cell BK417.out 1).trans rfl, (blk_cell BK418.out 0).trans rfl, (blk_cell BK418.out 1).trans rfl⟩ (fun hHeld => ?_)
             clear hK K
             refine norm_ (a' := ?_) ?_ ?_
             rotate_left
             · show Act.put _ (some 21) _ = _
               simp only [Act.put, sA, sB, sC, i64_w, i32_w]
               rfl
             refine one_ (i := 15) (N := some 24) #[Y,Y,Y,Y,Y,Y,Y,Y,Y,Y,Y,Y,Y,Y,Y,Y,Z,Z,Z,Z,Z,Z,Z,Z,Z,Z,Z,Z,Z,Z,Z,Z,Z,Z,Z,Z,Z,Z,Z,Z,Z,Z,Z,Z,Z,Z,Z,Z,Z,Z,Z,Z,Z,Z,Z,Z,Z,Z,Z,Z] rfl rfl (one_of HT_.out (by kernel_rfl)) (by decide) (fun K hK => ?_)
             refine goes_ Tryd.func33 (by kernel_rfl) rfl #[.agg #[.int .i64 a1_0, .int .i64 a1_1], .agg #[.int .i64 a2_0, .int .i64 a2_1]] (by rfl) rfl rfl (by (try simp only [mA, mB, mC]); first | done | rfl) ?_
             with_reducible refine (timeboundref08_Join.calls k a1_0 a1_1 a2_0 a2_1 t425 t426 _ A9.out).mono ?_
             rintro e w31 ⟨rfl, hb⟩
             refine ⟨_, rfl, ?_⟩
             have n0_ := aK (blk_below (g := gb417) (o := .cells #[.int .i64 a1_0, .int .i64 a1_1] 25 (0, 0)) (by (with_reducible repeat (first | refine bR ?_ | refine bA ?_ _)); exact BK417.out) hb)
             have n1_ := aK (blk_below (g := gb418) (o := .cells #[.int .i64 a2_0, .int .i64 a2_1] 25 (0, 0)) (by (with_reducible repeat (first | refine bR ?_ | refine bA ?_ _)); exact BK418.out) hb)
             have n2_ := aK (below_step (by repeat (first | (with_reducible first | exact HB.out | apply hA | apply hN | apply hD | refine below_set ?_ GE417.out | refine below_set ?_ GE418.out) | exact HB.out)) hb)
             clear BK417
             clear BK418
             clear HB
             have BK417 := n0_
             have BK418 := n1_
             have HB := n2_
             clear n0_ n1_ n2_
             (try clear hb)
             (try clear hb2)
             (try clear hk)
             (try clear hi)
             refine hK.out _ _ ⟨(blk_cell BK417.out 0).trans rfl, (blk_cell BK417.out 1).trans rfl, (blk_cell BK418.out 0).trans rfl, (blk_cell BK418.out 1).trans rfl⟩ (fun hHeld => ?_)
             clear hK K
             refine norm_ (a' := ?_) ?_ ?_
             rotate_left
             · show Act.put _ (some 24) _ = _
               simp only [Act.put, sA, sB, sC, i64_w, i32_w]
               rfl
             refine pure_ (i := 16) (N := some 25) (v := ?_) (a' := ?_) #[Y,Y,Y,Y,Y,Y,Y,Y,Y,Y,Y,Y,Y,Y,Y,Y,Y,Z,Z,Z,Z,Z,Z,Z,Z,Z,Z,Z,Z,Z,Z,Z,Z,Z,Z,Z,Z,Z,Z,Z,Z,Z,Z,Z,Z,Z,Z,Z,Z,Z,Z,Z,Z,Z,Z,Z,Z,Z,Z,Z] rfl rfl (any_of HT_.out (by kernel_rfl)) (fun _ _ _ h => h) (Or.inl ⟨by rfl, ?_⟩) ?_ ?_
             rotate_left
             · intro w'
               go_simp
               with_reducible rfl
             rotate_left
             · simp only [Act.put, sA, sB, sC, i64_w, i32_w]
               rfl
             refine pure_ (i := 17) (N := some 26) (v := ?_) (a' := ?_) #[Y,Y,Y,Y,Y,Y,Y,Y,Y,Y,Y,Y,Y,Y,Y,Y,Y,Y,Z,Z,Z,Z,Z,Z,Z,Z,Z,Z,Z,Z,Z,Z,Z,Z,Z,Z,Z,Z,Z,Z,Z,Z,Z,Z,Z,Z,Z,Z,Z,Z,Z,Z,Z,Z,Z,Z,Z,Z,Z,Z] rfl rfl (any_of HT_.out (by kernel_rfl)) (fun _ _ _ h => h) (Or.inl ⟨by rfl, ?_⟩) ?_ ?_
             rotate_left
             · intro w'
               go_simp
               with_reducible rfl
             rotate_left
             · simp only [Act.put, sA, sB, sC, i64_w, i32_w]
               rfl
             refine pure_ (i := 18) (N := some 27) (v := ?_) (a' := ?_) #[Y,Y,Y,Y,Y,Y,Y,Y,Y,Y,Y,Y,Y,Y,Y,Y,Y,Y,Y,Z,Z,Z,Z,Z,Z,Z,Z,Z,Z,Z,Z,Z,Z,Z,Z,Z,Z,Z,Z,Z,Z,Z,Z,Z,Z,Z,Z,Z,Z,Z,Z,Z,Z,Z,Z,Z,Z,Z,Z,Z] rfl rfl (any_of HT_.out (by kernel_rfl)) (fun _ _ _ h => h) (Or.inl ⟨by rfl, ?_⟩) ?_ ?_
             rotate_left
             · intro w'
               go_simp
               with_reducible rfl
             rotate_left
             · simp only [Act.put, sA, sB, sC, i64_w, i32_w]
               rfl
             refine take_ (i := 19) (N := some 28) (v := ?_) (a' := ?_) #[Y,Y,Y,Y,Y,Y,Y,Y,Y,Y,Y,Y,Y,Y,Y,Y,Y,Y,Y,Y,Z,Z,Z,Z,Z,Z,Z,Z,Z,Z,Z,Z,Z,Z,Z,Z,Z,Z,Z,Z,Z,Z,Z,Z,Z,Z,Z,Z,Z,Z,Z,Z,Z,Z,Z,Z,Z,Z,Z,Z] rfl rfl (take_ofW HT_.out HW_.out (by kernel_rfl)) (fun _ _ _ h => h) (Or.inl ⟨by rfl, ?_⟩) hHeld ?_ ?_
             rotate_left
             · rintro w' ⟨s0, s1, s2, s3⟩
               go_simp
               with_reducible rfl
             rotate_left
             · simp only [Act.put, sA, sB, sC, i64_w, i32_w]
               rfl
             refine take_ (i := 20) (N := some 29) (v := ?_) (a' := ?_) #[Y,Y,Y,Y,Y,Y,Y,Y,Y,Y,Y,Y,Y,Y,Y,Y,Y,Y,Y,Y,Y,Z,Z,Z,Z,Z,Z,Z,Z,Z,Z,Z,Z,Z,Z,Z,Z,Z,Z,Z,Z,Z,Z,Z,Z,Z,Z,Z,Z,Z,Z,Z,Z,Z,Z,Z,Z,Z,Z,Z] rfl rfl (take_ofW HT_.out HW_.out (by kernel_rfl)) (fun _ _ _ h => h) (Or.inl ⟨by rfl, ?_⟩) hHeld ?_ ?_
             rotate_left
             · rintro w' ⟨s0, s1, s2, s3⟩
               go_simp
               with_reducible rfl
             rotate_left
             · simp only [Act.put, sA, sB, sC, i64_w, i32_w]
               rfl
             refine take_ (i := 22) (N := some 31) (v := ?_) (a' := ?_) #[Y,Y,Y,Y,Y,Y,Y,Y,Y,Y,Y,Y,Y,Y,Y,Y,Y,Y,Y,Y,Y,Z,Y,Z,Z,Z,Z,Z,Z,Z,Z,Z,Z,Z,Z,Z,Z,Z,Z,Z,Z,Z,Z,Z,Z,Z,Z,Z,Z,Z,Z,Z,Z,Z,Z,Z,Z,Z,Z,Z] rfl rfl (take_ofW HT_.out HW_.out (by kernel_rfl)) (fun _ _ _ h => h) (Or.inl ⟨by rfl, ?_⟩) hHeld ?_ ?_
             rotate_left
             · rintro w' ⟨s0, s1, s2, s3⟩
               go_simp
               with_reducible rfl
             rotate_left
             · simp only [Act.put, sA, sB, sC, i64_w, i32_w]
               rfl
             refine take_ (i := 23) (N := some 32) (v := ?_) (a' := ?_) #[Y,Y,Y,Y,Y,Y,Y,Y,Y,Y,Y,Y,Y,Y,Y,Y,Y,Y,Y,Y,Y,Z,Y,Y,Z,Z,Z,Z,Z,Z,Z,Z,Z,Z,Z,Z,Z,Z,Z,Z,Z,Z,Z,Z,Z,Z,Z,Z,Z,Z,Z,Z,Z,Z,Z,Z,Z,Z,Z,Z] rfl rfl (take_ofW HT_.out HW_.out (by kernel_rfl)) (fun _ _ _ h => h) (Or.inl ⟨by rfl, ?_⟩) hHeld ?_ ?_
             rotate_left
             · rintro w' ⟨s0, s1, s2, s3⟩
               go_simp
               with_reducible rfl
             rotate_left
             · simp only [Act.put, sA, sB, sC, i64_w, i32_w]
               rfl
             refine one_ (i := 21) (N := some 30) #[Y,Y,Y,Y,Y,Y,Y,Y,Y,Y,Y,Y,Y,Y,Y,Y,Y,Y,Y,Y,Y,Y,Y,Y,Z,Z,Z,Z,Z,Z,Z,Z,Z,Z,Z,Z,Z,Z,Z,Z,Z,Z,Z,Z,Z,Z,Z,Z,Z,Z,Z,Z,Z,Z,Z,Z,Z,Z,Z,Z] rfl rfl (one_of HT_.out (by kernel_rfl)) (by decide) (fun K hK => ?_)
             refine goes_ Tryd.func23 (by kernel_rfl) rfl #[.agg #[.int .i64 a1_0, .int .i64 a1_1], .agg #[.int .i64 a2_0, .int .i64 a2_1]] (by rfl) rfl rfl (by (try simp only [mA, mB, mC]); first | done | rfl) ?_
             with_reducible refine (congruence_Meet.calls k a1_0 a1_1 a2_0 a2_1 t427 t428 _ A11.out).mono ?_
             rintro e w32 ⟨rfl, hb⟩
             refine ⟨_, rfl, ?_⟩
             have n0_ := aK (blk_below (g := gb417) (o := .cells #[.int .i64 a1_0, .int .i64 a1_1] 25 (0, 0)) (by (with_reducible repeat (first | refine bR ?_ | refine bA ?_ _)); exact BK417.out) hb)
             have n1_ := aK (blk_below (g := gb418) (o := .cells #[.int .i64 a2_0, .int .i64 a2_1] 25 (0, 0)) (by (with_reducible repeat (first | refine bR ?_ | refine bA ?_ _)); exact BK418.out) hb)
             have n2_ := aK (below_step (by repeat (first | (with_reducible first | exact HB.out | apply hA | apply hN | apply hD | refine below_set ?_ GE417.out | refine below_set ?_ GE418.out) | exact HB.out)) hb)
             clear BK417
             clear BK418
             clear HB
             have BK417 := n0_
             have BK418 := n1_
             have HB := n2_
             clear n0_ n1_ n2_
             (try clear hb)
             (try clear hb2)
             (try clear hk)
             (try clear hi)
             refine hK.out _ _ ⟨(blk_cell BK417.out 0).trans rfl, (blk_cell BK417.out 1).trans rfl, (blk_cell BK418.out 0).trans rfl, (blk_cell BK418.out 1).trans rfl⟩ (fun hHeld => ?_)
             clear hK K
             refine norm_ (a' := ?_) ?_ ?_
             rotate_left
             · show Act.put _ (some 30) _ = _
               simp only [Act.put, sA, sB, sC, i64_w, i32_w]
               rfl
             refine one_ (i := 24) (N := some 33) #[Y,Y,Y,Y,Y,Y,Y,Y,Y,Y,Y,Y,Y,Y,Y,Y,Y,Y,Y,Y,Y,Y,Y,Y,Y,Z,Z,Z,Z,Z,Z,Z,Z,Z,Z,Z,Z,Z,Z,Z,Z,Z,Z,Z,Z,Z,Z,Z,Z,Z,Z,Z,Z,Z,Z,Z,Z,Z,Z,Z] rfl rfl (one_of HT_.out (by kernel_rfl)) (by decide) (fun K hK => ?_)
             refine goes_ Tryd.func34 (by kernel_rfl) rfl #[.agg #[.int .i64 a1_0, .int .i64 a1_1], .agg #[.int .i64 a2_0, .int .i64 a2_1]] (by rfl) rfl rfl (by (try simp only [mA, mB, mC]); first | done | rfl) ?_
             with_reducible refine (timeboundref08_Meet.calls k a1_0 a1_1 a2_0 a2_1 t429 t430 _ A12.out).mono ?_
             rintro e w33 ⟨rfl, hb⟩
             refine ⟨_, rfl, ?_⟩
             have n0_ := aK (blk_below (g := gb417) (o := .cells #[.int .i64 a1_0, .int .i64 a1_1] 25 (0, 0)) (by (with_reducible repeat (first | refine bR ?_ | refine bA ?_ _)); exact BK417.out) hb)
             have n1_ := aK (blk_below (g := gb418) (o := .cells #[.int .i64 a2_0, .int .i64 a2_1] 25 (0, 0)) (by (with_reducible repeat (first | refine bR ?_ | refine bA ?_ _)); exact BK418.out) hb)
             have n2_ := aK (below_step (by repeat (first | (with_reducible first | exact HB.out | apply hA | apply hN | apply hD | refine below_set ?_ GE417.out | refine below_set ?_ GE418.out) | exact HB.out)) hb)
             clear BK417
             clear BK418
             clear HB
             have BK417 := n0_
             have BK418 := n1_
             have HB := n2_
             clear n0_ n1_ n2_
             (try clear hb)
             (try clear hb2)
             (try clear hk)
             (try clear hi)
             refine hK.out _ _ ⟨(blk_cell BK417.out 0).trans rfl, (blk_cell BK417.out 1).trans rfl, (blk_cell BK418.out 0).trans rfl, (blk_cell BK418.out 1).trans rfl⟩ (fun hHeld => ?_)
             clear hK K
             refine norm_ (a' := ?_) ?_ ?_
             rotate_left
             · show Act.put _ (some 33) _ = _
               simp only [Act.put, sA, sB, sC, i64_w, i32_w]
               rfl
             refine pure_ (i := 25) (N := some 34) (v := ?_) (a' := ?_) #[Y,Y,Y,Y,Y,Y,Y,Y,Y,Y,Y,Y,Y,Y,Y,Y,Y,Y,Y,Y,Y,Y,Y,Y,Y,Y,Z,Z,Z,Z,Z,Z,Z,Z,Z,Z,Z,Z,Z,Z,Z,Z,Z,Z,Z,Z,Z,Z,Z,Z,Z,Z,Z,Z,Z,Z,Z,Z,Z,Z] rfl rfl (any_of HT_.out (by kernel_rfl)) (fun _ _ _ h => h) (Or.inl ⟨by rfl, ?_⟩) ?_ ?_
             rotate_left
             · intro w'
               go_simp
               with_reducible rfl
             rotate_left
             · simp only [Act.put, sA, sB, sC, i64_w, i32_w]
               rfl
             refine pure_ (i := 26) (N := some 35) (v := ?_) (a' := ?_) #[Y,Y,Y,Y,Y,Y,Y,Y,Y,Y,Y,Y,Y,Y,Y,Y,Y,Y,Y,Y,Y,Y,Y,Y,Y,Y,Y,Z,Z,Z,Z,Z,Z,Z,Z,Z,Z,Z,Z,Z,Z,Z,Z,Z,Z,Z,Z,Z,Z,Z,Z,Z,Z,Z,Z,Z,Z,Z,Z,Z] rfl rfl (any_of HT_.out (by kernel_rfl)) (fun _ _ _ h => h) (Or.inl ⟨by rfl, ?_⟩) ?_ ?_
             rotate_left
             · intro w'
               go_simp
               with_reducible rfl
             rotate_left
             · simp only [Act.put, sA, sB, sC, i64_w, i32_w]
               rfl
             refine pure_ (i := 27) (N := some 36) (v := ?_) (a' := ?_) #[Y,Y,Y,Y,Y,Y,Y,Y,Y,Y,Y,Y,Y,Y,Y,Y,Y,Y,Y,Y,Y,Y,Y,Y,Y,Y,Y,Y,Z,Z,Z,Z,Z,Z,Z,Z,Z,Z,Z,Z,Z,Z,Z,Z,Z,Z,Z,Z,Z,Z,Z,Z,Z,Z,Z,Z,Z,Z,Z,Z] rfl rfl (any_of HT_.out (by kernel_rfl)) (fun _ _ _ h => h) (Or.inl ⟨by rfl, ?_⟩) ?_ ?_
             rotate_left
             · intro w'
               go_simp
               with_reducible rfl
             rotate_left
             · simp only [Act.put, sA, sB, sC, i64_w, i32_w]
               rfl
             refine take_ (i := 28) (N := some 37) (v := ?_) (a' := ?_) #[Y,Y,Y,Y,Y,Y,Y,Y,Y,Y,Y,Y,Y,Y,Y,Y,Y,Y,Y,Y,Y,Y,Y,Y,Y,Y,Y,Y,Y,Z,Z,Z,Z,Z,Z,Z,Z,Z,Z,Z,Z,Z,Z,Z,Z,Z,Z,Z,Z,Z,Z,Z,Z,Z,Z,Z,Z,Z,Z,Z] rfl rfl (take_ofW HT_.out HW_.out (by kernel_rfl)) (fun _ _ _ h => h) (Or.inl ⟨by rfl, ?_⟩) hHeld ?_ ?_
             rotate_left
             · rintro w' ⟨s0, s1, s2, s3⟩
               go_simp
               with_reducible rfl
             rotate_left
             · simp only [Act.put, sA, sB, sC, i64_w, i32_w]
               rfl
             refine take_ (i := 29) (N := some 38) (v := ?_) (a' := ?_) #[Y,Y,Y,Y,Y,Y,Y,Y,Y,Y,Y,Y,Y,Y,Y,Y,Y,Y,Y,Y,Y,Y,Y,Y,Y,Y,Y,Y,Y,Y,Z,Z,Z,Z,Z,Z,Z,Z,Z,Z,Z,Z,Z,Z,Z,Z,Z,Z,Z,Z,Z,Z,Z,Z,Z,Z,Z,Z,Z,Z] rfl rfl (take_ofW HT_.out HW_.out (by kernel_rfl)) (fun _ _ _ h => h) (Or.inl ⟨by rfl, ?_⟩) hHeld ?_ ?_
             rotate_left
             · rintro w' ⟨s0, s1, s2, s3⟩
               go_simp
               with_reducible rfl
             rotate_left
             · simp only [Act.put, sA, sB, sC, i64_w, i32_w]
               rfl
             refine take_ (i := 31) (N := some 40) (v := ?_) (a' := ?_) #[Y,Y,Y,Y,Y,Y,Y,Y,Y,Y,Y,Y,Y,Y,Y,Y,Y,Y,Y,Y,Y,Y,Y,Y,Y,Y,Y,Y,Y,Y,Z,Y,Z,Z,Z,Z,Z,Z,Z,Z,Z,Z,Z,Z,Z,Z,Z,Z,Z,Z,Z,Z,Z,Z,Z,Z,Z,Z,Z,Z] rfl rfl (take_ofW HT_.out HW_.out (by kernel_rfl)) (fun _ _ _ h => h) (Or.inl ⟨by rfl, ?_⟩) hHeld ?_ ?_
             rotate_left
             · rintro w' ⟨s0, s1, s2, s3⟩
               go_simp
               with_reducible rfl
             rotate_left
             · simp only [Act.put, sA, sB, sC, i64_w, i32_w]
               rfl
             refine take_ (i := 32) (N := some 41) (v := ?_) (a' := ?_) #[Y,Y,Y,Y,Y,Y,Y,Y,Y,Y,Y,Y,Y,Y,Y,Y,Y,Y,Y,Y,Y,Y,Y,Y,Y,Y,Y,Y,Y,Y,Z,Y,Y,Z,Z,Z,Z,Z,Z,Z,Z,Z,Z,Z,Z,Z,Z,Z,Z,Z,Z,Z,Z,Z,Z,Z,Z,Z,Z,Z] rfl rfl (take_ofW HT_.out HW_.out (by kernel_rfl)) (fun _ _ _ h => h) (Or.inl ⟨by rfl, ?_⟩) hHeld ?_ ?_
             rotate_left
             · rintro w' ⟨s0, s1, s2, s3⟩
               go_simp
               with_reducible rfl
             rotate_left
             · simp only [Act.put, sA, sB, sC, i64_w, i32_w]
               rfl
             refine one_ (i := 30) (N := some 39) #[Y,Y,Y,Y,Y,Y,Y,Y,Y,Y,Y,Y,Y,Y,Y,Y,Y,Y,Y,Y,Y,Y,Y,Y,Y,Y,Y,Y,Y,Y,Y,Y,Y,Z,Z,Z,Z,Z,Z,Z,Z,Z,Z,Z,Z,Z,Z,Z,Z,Z,Z,Z,Z,Z,Z,Z,Z,Z,Z,Z] rfl rfl (one_of HT_.out (by kernel_rfl)) (by decide) (fun K hK => ?_)
             refine goes_ Tryd.func17 (by kernel_rfl) rfl #[.agg #[.int .i64 a1_0, .int .i64 a1_1], .agg #[.int .i64 a2_0, .int .i64 a2_1]] (by rfl) rfl rfl (by (try simp only [mA, mB, mC]); first | done | rfl) ?_
             with_reducible refine (congruence_Leq.calls k a1_0 a1_1 a2_0 a2_1 t431 _ A14.out).mono ?_
             rintro e w34 ⟨rfl, hb⟩
             refine ⟨_, rfl, ?_⟩
             have n0_ := aK (blk_below (g := gb417) (o := .cells #[.int .i64 a1_0, .int .i64 a1_1] 25 (0, 0)) (by (with_reducible repeat (first | refine bR ?_ | refine bA ?_ _)); exact BK417.out) hb)
             have n1_ := aK (blk_below (g := gb418) (o := .cells #[.int .i64 a2_0, .int .i64 a2_1] 25 (0, 0)) (by (with_reducible repeat (first | refine bR ?_ | refine bA ?_ _)); exact BK418.out) hb)
             have n2_ := aK (below_step (by repeat (first | (with_reducible first | exact HB.out | apply hA | apply hN | apply hD | refine below_set ?_ GE417.out | refine below_set ?_ GE418.out) | exact HB.out)) hb)
             clear BK417
             clear BK418
             clear HB
             have BK417 := n0_
             have BK418 := n1_
             have HB := n2_
             clear n0_ n1_ n2_
             (try clear hb)
             (try clear hb2)
             (try clear hk)
             (try clear hi)
             refine hK.out _ _ ⟨(blk_cell BK417.out 0).trans rfl, (blk_cell BK417.out 1).trans rfl, (blk_cell BK418.out 0).trans rfl, (blk_cell BK418.out 1).trans rfl⟩ (fun hHeld => ?_)
             clear hK K
             refine norm_ (a' := ?_) ?_ ?_
             rotate_left
             · show Act.put _ (some 39) _ = _
               simp only [Act.put, sA, sB, sC, i64_w, i32_w]
               rfl
             refine one_ (i := 33) (N := some 42) #[Y,Y,Y,Y,Y,Y,Y,Y,Y,Y,Y,Y,Y,Y,Y,Y,Y,Y,Y,Y,Y,Y,Y,Y,Y,Y,Y,Y,Y,Y,Y,Y,Y,Y,Z,Z,Z,Z,Z,Z,Z,Z,Z,Z,Z,Z,Z,Z,Z,Z,Z,Z,Z,Z,Z,Z,Z,Z,Z,Z] rfl rfl (one_of HT_.out (by kernel_rfl)) (by decide) (fun K hK => ?_)
             refine goes_ Tryd.func35 (by kernel_rfl) rfl #[.agg #[.int .i64 a1_0, .int .i64 a1_1], .agg #[.int .i64 a2_0, .int .i64 a2_1]] (by rfl) rfl rfl (by (try simp only [mA, mB, mC]); first | done | rfl) ?_
             with_reducible refine (timeboundref08_Leq.calls k a1_0 a1_1 a2_0 a2_1 t432 _ A15.out).mono ?_
             rintro e w35 ⟨rfl, hb⟩
             refine ⟨_, rfl, ?_⟩
             have n0_ := aK (blk_below (g := gb417) (o := .cells #[.int .i64 a1_0, .int .i64 a1_1] 25 (0, 0)) (by (with_reducible repeat (first | refine bR ?_ | refine bA ?_ _)); exact BK417.out) hb)
             have n1_ := aK (blk_below (g := gb418) (o := .cells #[.int .i64 a2_0, .int .i64 a2_1] 25 (0, 0)) (by (with_reducible repeat (first | refine bR ?_ | refine bA ?_ _)); exact BK418.out) hb)
             have n2_ := aK (below_step (by repeat (first | (with_reducible first | exact HB.out | apply hA | apply hN | apply hD | refine below_set ?_ GE417.out | refine below_set ?_ GE418.out) | exact HB.out)) hb)
             clear BK417
             clear BK418
             clear HB
             have BK417 := n0_
             have BK418 := n1_
             have HB := n2_
             clear n0_ n1_ n2_
             (try clear hb)
             (try clear hb2)
             (try clear hk)
             (try clear hi)
             refine hK.out _ _ ⟨(blk_cell BK417.out 0).trans rfl, (blk_cell BK417.out 1).trans rfl, (blk_cell BK418.out 0).trans rfl, (blk_cell BK418.out 1).trans rfl⟩ (fun hHeld => ?_)
             clear hK K
             refine norm_ (a' := ?_) ?_ ?_
             rotate_left
             · show Act.put _ (some 42) _ = _
               simp only [Act.put, sA, sB, sC, i64_w, i32_w]
               rfl
             refine pure_ (i := 34) (N := some 43) (v := ?_) (a' := ?_) #[Y,Y,Y,Y,Y,Y,Y,Y,Y,Y,Y,Y,Y,Y,Y,Y,Y,Y,Y,Y,Y,Y,Y,Y,Y,Y,Y,Y,Y,Y,Y,Y,Y,Y,Y,Z,Z,Z,Z,Z,Z,Z,Z,Z,Z,Z,Z,Z,Z,Z,Z,Z,Z,Z,Z,Z,Z,Z,Z,Z] rfl rfl (any_of HT_.out (by kernel_rfl)) (fun _ _ _ h => h) (Or.inl ⟨by rfl, ?_⟩) ?_ ?_
             rotate_left
             · intro w'
               go_simp
               with_reducible rfl
             rotate_left
             · simp only [Act.put, sA, sB, sC, i64_w, i32_w]
               rfl
             refine pure_ (i := 35) (N := some 44) (v := ?_) (a' := ?_) #[Y,Y,Y,Y,Y,Y,Y,Y,Y,Y,Y,Y,Y,Y,Y,Y,Y,Y,Y,Y,Y,Y,Y,Y,Y,Y,Y,Y,Y,Y,Y,Y,Y,Y,Y,Y,Z,Z,Z,Z,Z,Z,Z,Z,Z,Z,Z,Z,Z,Z,Z,Z,Z,Z,Z,Z,Z,Z,Z,Z] rfl rfl (any_of HT_.out (by kernel_rfl)) (fun _ _ _ h => h) (Or.inl ⟨by rfl, ?_⟩) ?_ ?_
             rotate_left
             · intro w'
               go_simp
               with_reducible rfl
             rotate_left
             · simp only [Act.put, sA, sB, sC, i64_w, i32_w]
               rfl
             refine pure_ (i := 36) (N := some 45) (v := ?_) (a' := ?_) #[Y,Y,Y,Y,Y,Y,Y,Y,Y,Y,Y,Y,Y,Y,Y,Y,Y,Y,Y,Y,Y,Y,Y,Y,Y,Y,Y,Y,Y,Y,Y,Y,Y,Y,Y,Y,Y,Z,Z,Z,Z,Z,Z,Z,Z,Z,Z,Z,Z,Z,Z,Z,Z,Z,Z,Z,Z,Z,Z,Z] rfl rfl (any_of HT_.out (by kernel_rfl)) (fun _ _ _ h => h) (Or.inl ⟨by rfl, ?_⟩) ?_ ?_
             rotate_left
             · intro w'
               go_simp
               with_reducible rfl
             rotate_left
             · simp only [Act.put, sA, sB, sC, i64_w, i32_w]
               rfl
             refine pure_ (i := 38) (N := some 47) (v := ?_) (a' := ?_) #[Y,Y,Y,Y,Y,Y,Y,Y,Y,Y,Y,Y,Y,Y,Y,Y,Y,Y,Y,Y,Y,Y,Y,Y,Y,Y,Y,Y,Y,Y,Y,Y,Y,Y,Y,Y,Y,Z,Y,Z,Z,Z,Z,Z,Z,Z,Z,Z,Z,Z,Z,Z,Z,Z,Z,Z,Z,Z,Z,Z] rfl rfl (any_of HT_.out (by kernel_rfl)) (fun _ _ _ h => h) (Or.inl ⟨by rfl, ?_⟩) ?_ ?_
             rotate_left
             · intro w'
               go_simp
               with_reducible rfl
             rotate_left
             · simp only [Act.put, sA, sB, sC, i64_w, i32_w]
               rfl
             refine pure_ (i := 41) (N := some 50) (v := ?_) (a' := ?_) #[Y,Y,Y,Y,Y,Y,Y,Y,Y,Y,Y,Y,Y,Y,Y,Y,Y,Y,Y,Y,Y,Y,Y,Y,Y,Y,Y,Y,Y,Y,Y,Y,Y,Y,Y,Y,Y,Z,Y,Z,Z,Y,Z,Z,Z,Z,Z,Z,Z,Z,Z,Z,Z,Z,Z,Z,Z,Z,Z,Z] rfl rfl (any_of HT_.out (by kernel_rfl)) (fun _ _ _ h => h) (Or.inl ⟨by rfl, ?_⟩) ?_ ?_
             rotate_left
             · intro w'
               go_simp
               with_reducible rfl
             rotate_left
             · simp only [Act.put, sA, sB, sC, i64_w, i32_w]
               rfl
             refine take_ (i := 37) (N := some 46) (v := ?_) (a' := ?_) #[Y,Y,Y,Y,Y,Y,Y,Y,Y,Y,Y,Y,Y,Y,Y,Y,Y,Y,Y,Y,Y,Y,Y,Y,Y,Y,Y,Y,Y,Y,Y,Y,Y,Y,Y,Y,Y,Y,Y,Z,Z,Y,Z,Z,Z,Z,Z,Z,Z,Z,Z,Z,Z,Z,Z,Z,Z,Z,Z,Z] rfl rfl (take_ofW HT_.out HW_.out (by kernel_rfl)) (fun _ _ _ h => h) (Or.inl ⟨by rfl, ?_⟩) hHeld ?_ ?_
             rotate_left
             · rintro w' ⟨s0, s1, s2, s3⟩
               go_simp
               with_reducible rfl
             rotate_left
             · simp only [Act.put, sA, sB, sC, i64_w, i32_w]
               rfl
             refine take_ (i := 40) (N := some 49) (v := ?_) (a' := ?_) #[Y,Y,Y,Y,Y,Y,Y,Y,Y,Y,Y,Y,Y,Y,Y,Y,Y,Y,Y,Y,Y,Y,Y,Y,Y,Y,Y,Y,Y,Y,Y,Y,Y,Y,Y,Y,Y,Y,Y,Z,Y,Y,Z,Z,Z,Z,Z,Z,Z,Z,Z,Z,Z,Z,Z,Z,Z,Z,Z,Z] rfl rfl (take_ofW HT_.out HW_.out (by kernel_rfl)) (fun _ _ _ h => h) (Or.inl ⟨by rfl, ?_⟩) hHeld ?_ ?_
             rotate_left
             · rintro w' ⟨s0, s1, s2, s3⟩
               go_simp
               with_reducible rfl
             rotate_left
             · simp only [Act.put, sA, sB, sC, i64_w, i32_w]
               rfl
             refine one_ (i := 39) (N := some 48) #[Y,Y,Y,Y,Y,Y,Y,Y,Y,Y,Y,Y,Y,Y,Y,Y,Y,Y,Y,Y,Y,Y,Y,Y,Y,Y,Y,Y,Y,Y,Y,Y,Y,Y,Y,Y,Y,Y,Y,Y,Y,Y,Z,Z,Z,Z,Z,Z,Z,Z,Z,Z,Z,Z,Z,Z,Z,Z,Z,Z] rfl rfl (one_of HT_.out (by kernel_rfl)) (by decide) (fun K hK => ?_)
             refine goes_ Tryd.func14 (by kernel_rfl) rfl #[.agg #[.int .i64 a1_0, .int .i64 a1_1], .int .i64 a3] (by rfl) rfl rfl (by (try simp only [mA, mB, mC]); first | done | rfl) ?_
             with_reducible refine (congruence_Has.calls k a1_0 a1_1 a3 t433 _ A17.out).mono ?_
             rintro e w36 ⟨rfl, hb⟩
             refine ⟨_, rfl, ?_⟩
             have n0_ := aK (blk_below (g := gb417) (o := .cells #[.int .i64 a1_0, .int .i64 a1_1] 25 (0, 0)) (by (with_reducible repeat (first | refine bR ?_ | refine bA ?_ _)); exact BK417.out) hb)
             have n1_ := aK (blk_below (g := gb418) (o := .cells #[.int .i64 a2_0, .int .i64 a2_1] 25 (0, 0)) (by (with_reducible repeat (first | refine bR ?_ | refine bA ?_ _)); exact BK418.out) hb)
             have n2_ := aK (below_step (by repeat (first | (with_reducible first | exact HB.out | apply hA | apply hN | apply hD | refine below_set ?_ GE417.out | refine below_set ?_ GE418.out) | exact HB.out)) hb)
             clear BK417
             clear BK418
             clear HB
             have BK417 := n0_
             have BK418 := n1_
             have HB := n2_
             clear n0_ n1_ n2_
             (try clear hb)
             (try clear hb2)
             (try clear hk)
             (try clear hi)
             refine hK.out _ _ ⟨(blk_cell BK417.out 0).trans rfl, (blk_cell BK417.out 1).trans rfl, (blk_cell BK418.out 0).trans rfl, (blk_cell BK418.out 1).trans rfl⟩ (fun hHeld => ?_)
             clear hK K
             refine norm_ (a' := ?_) ?_ ?_
             rotate_left
             · show Act.put _ (some 48) _ = _
               simp only [Act.put, sA, sB, sC, i64_w, i32_w]
               rfl
             refine one_ (i := 42) (N := some 51) #[Y,Y,Y,Y,Y,Y,Y,Y,Y,Y,Y,Y,Y,Y,Y,Y,Y,Y,Y,Y,Y,Y,Y,Y,Y,Y,Y,Y,Y,Y,Y,Y,Y,Y,Y,Y,Y,Y,Y,Y,Y,Y,Y,Z,Z,Z,Z,Z,Z,Z,Z,Z,Z,Z,Z,Z,Z,Z,Z,Z] rfl rfl (one_of HT_.out (by kernel_rfl)) (by decide) (fun K hK => ?_)
             refine goes_ Tryd.func36 (by kernel_rfl) rfl #[.agg #[.int .i64 a1_0, .int .i64 a1_1], .int .i64 a3] (by rfl) rfl rfl (by (try simp only [mA, mB, mC]); first | done | rfl) ?_
             with_reducible refine (timeboundref08_Has.calls k a1_0 a1_1 a3 t434 _ A18.out).mono ?_
             rintro e w37 ⟨rfl, hb⟩
             refine ⟨_, rfl, ?_⟩
             have n0_ := aK (blk_below (g := gb417) (o := .cells #[.int .i64 a1_0, .int .i64 a1_1] 25 (0, 0)) (by (with_reducible repeat (first | refine bR ?_ | refine bA ?_ _)); exact BK417.out) hb)
             have n1_ := aK (blk_below (g := gb418) (o := .cells #[.int .i64 a2_0, .int .i64 a2_1] 25 (0, 0)) (by (with_reducible repeat (first | refine bR ?_ | refine bA ?_ _)); exact BK418.out) hb)
             have n2_ := aK (below_step (by repeat (first | (with_reducible first | exact HB.out | apply hA | apply hN | apply hD | refine below_set ?_ GE417.out | refine below_set ?_ GE418.out) | exact HB.out)) hb)
             clear BK417
             clear BK418
             clear HB
             have BK417 := n0_
             have BK418 := n1_
             have HB := n2_
             clear n0_ n1_ n2_
             (try clear hb)
             (try clear hb2)
             (try clear hk)
             (try clear hi)
             refine hK.out _ _ ⟨(blk_cell BK417.out 0).trans rfl, (blk_cell BK417.out 1).trans rfl, (blk_cell BK418.out 0).trans rfl, (blk_cell BK418.out 1).trans rfl⟩ (fun hHeld => ?_)
             clear hK K
             refine norm_ (a' := ?_) ?_ ?_
             rotate_left
             · show Act.put _ (some 51) _ = _
               simp only [Act.put, sA, sB, sC, i64_w, i32_w]
               rfl
             refine pure_ (i := 43) (N := some 52) (v := ?_) (a' := ?_) #[Y,Y,Y,Y,Y,Y,Y,Y,Y,Y,Y,Y,Y,Y,Y,Y,Y,Y,Y,Y,Y,Y,Y,Y,Y,Y,Y,Y,Y,Y,Y,Y,Y,Y,Y,Y,Y,Y,Y,Y,Y,Y,Y,Y,Z,Z,Z,Z,Z,Z,Z,Z,Z,Z,Z,Z,Z,Z,Z,Z] rfl rfl (any_of HT_.out (by kernel_rfl)) (fun _ _ _ h => h) (Or.inl ⟨by rfl, ?_⟩) ?_ ?_
             rotate_left
             · intro w'
               go_simp
               with_reducible rfl
             rotate_left
             · simp only [Act.put, sA, sB, sC, i64_w, i32_w]
               rfl
             refine pure_ (i := 44) (N := some 53) (v := ?_) (a' := ?_) #[Y,Y,Y,Y,Y,Y,Y,Y,Y,Y,Y,Y,Y,Y,Y,Y,Y,Y,Y,Y,Y,Y,Y,Y,Y,Y,Y,Y,Y,Y,Y,Y,Y,Y,Y,Y,Y,Y,Y,Y,Y,Y,Y,Y,Y,Z,Z,Z,Z,Z,Z,Z,Z,Z,Z,Z,Z,Z,Z,Z] rfl rfl (any_of HT_.out (by kernel_rfl)) (fun _ _ _ h => h) (Or.inl ⟨by rfl, ?_⟩) ?_ ?_
             rotate_left
             · intro w'
               go_simp
               with_reducible rfl
             rotate_left
             · simp only [Act.put, sA, sB, sC, i64_w, i32_w]
               rfl
             refine pure_ (i := 45) (N := some 54) (v := ?_) (a' := ?_) #[Y,Y,Y,Y,Y,Y,Y,Y,Y,Y,Y,Y,Y,Y,Y,Y,Y,Y,Y,Y,Y,Y,Y,Y,Y,Y,Y,Y,Y,Y,Y,Y,Y,Y,Y,Y,Y,Y,Y,Y,Y,Y,Y,Y,Y,Y,Z,Z,Z,Z,Z,Z,Z,Z,Z,Z,Z,Z,Z,Z] rfl rfl (any_of HT_.out (by kernel_rfl)) (fun _ _ _ h => h) (Or.inl ⟨by rfl, ?_⟩) ?_ ?_
             rotate_left
             · intro w'
               go_simp
               with_reducible rfl
             rotate_left
             · simp only [Act.put, sA, sB, sC, i64_w, i32_w]
               rfl
             refine take_ (i := 46) (N := some 55) (v := ?_) (a' := ?_) #[Y,Y,Y,Y,Y,Y,Y,Y,Y,Y,Y,Y,Y,Y,Y,Y,Y,Y,Y,Y,Y,Y,Y,Y,Y,Y,Y,Y,Y,Y,Y,Y,Y,Y,Y,Y,Y,Y,Y,Y,Y,Y,Y,Y,Y,Y,Y,Z,Z,Z,Z,Z,Z,Z,Z,Z,Z,Z,Z,Z] rfl rfl (take_ofW HT_.out HW_.out (by kernel_rfl)) (fun _ _ _ h => h) (Or.inl ⟨by rfl, ?_⟩) hHeld ?_ ?_
             rotate_left
             · rintro w' ⟨s0, s1, s2, s3⟩
               go_simp
               with_reducible rfl
             rotate_left
             · simp only [Act.put, sA, sB, sC, i64_w, i32_w]
               rfl
             refine take_ (i := 48) (N := some 57) (v := ?_) (a' := ?_) #[Y,Y,Y,Y,Y,Y,Y,Y,Y,Y,Y,Y,Y,Y,Y,Y,Y,Y,Y,Y,Y,Y,Y,Y,Y,Y,Y,Y,Y,Y,Y,Y,Y,Y,Y,Y,Y,Y,Y,Y,Y,Y,Y,Y,Y,Y,Y,Z,Y,Z,Z,Z,Z,Z,Z,Z,Z,Z,Z,Z] rfl rfl (take_ofW HT_.out HW_.out (by kernel_rfl)) (fun _ _ _ h => h) (Or.inl ⟨by rfl, ?_⟩) hHeld ?_ ?_
             rotate_left
             · rintro w' ⟨s0, s1, s2, s3⟩
               go_simp
               with_reducible rfl
             rotate_left
             · simp only [Act.put, sA, sB, sC, i64_w, i32_w]
               rfl
             refine one_ (i := 47) (N := some 56) #[Y,Y,Y,Y,Y,Y,Y,Y,Y,Y,Y,Y,Y,Y,Y,Y,Y,Y,Y,Y,Y,Y,Y,Y,Y,Y,Y,Y,Y,Y,Y,Y,Y,Y,Y,Y,Y,Y,Y,Y,Y,Y,Y,Y,Y,Y,Y,Y,Y,Z,Z,Z,Z,Z,Z,Z,Z,Z,Z,Z] rfl rfl (one_of HT_.out (by kernel_rfl)) (by decide) (fun K hK => ?_)
             refine goes_ Tryd.func15 (by kernel_rfl) rfl #[.agg #[.int .i64 a1_0, .int .i64 a1_1]] (by rfl) rfl rfl (by (try simp only [mA, mB, mC]); first | done | rfl) ?_
             with_reducible refine (congruence_Valid.calls a1_0 a1_1 t435 _ A20.out).mono ?_
             rintro e w38 ⟨rfl, hb⟩
             refine ⟨_, rfl, ?_⟩
             have n0_ := aK (blk_below (g := gb417) (o := .cells #[.int .i64 a1_0, .int .i64 a1_1] 25 (0, 0)) (by (with_reducible repeat (first | refine bR ?_ | refine bA ?_ _)); exact BK417.out) hb)
             have n1_ := aK (blk_below (g := gb418) (o := .cells #[.int .i64 a2_0, .int .i64 a2_1] 25 (0, 0)) (by (with_reducible repeat (first | refine bR ?_ | refine bA ?_ _)); exact BK418.out) hb)
             have n2_ := aK (below_step (by repeat (first | (with_reducible first | exact HB.out | apply hA | apply hN | apply hD | refine below_set ?_ GE417.out | refine below_set ?_ GE418.out) | exact HB.out)) hb)
             clear BK417
             clear BK418
             clear HB
             have BK417 := n0_
             have BK418 := n1_
             have HB := n2_
             clear n0_ n1_ n2_
             (try clear hb)
             (try clear hb2)
             (try clear hk)
             (try clear hi)
             refine hK.out _ _ ⟨(blk_cell BK417.out 0).trans rfl, (blk_cell BK417.out 1).trans rfl, (blk_cell BK418.out 0).trans rfl, (blk_cell BK418.out 1).trans rfl⟩ (fun hHeld => ?_)
             clear hK K
             refine norm_ (a' := ?_) ?_ ?_
             rotate_left
             · show Act.put _ (some 56) _ = _
               simp only [Act.put, sA, sB, sC, i64_w, i32_w]
               rfl
             refine one_ (i := 49) (N := some 58) #[Y,Y,Y,Y,Y,Y,Y,Y,Y,Y,Y,Y,Y,Y,Y,Y,Y,Y,Y,Y,Y,Y,Y,Y,Y,Y,Y,Y,Y,Y,Y,Y,Y,Y,Y,Y,Y,Y,Y,Y,Y,Y,Y,Y,Y,Y,Y,Y,Y,Y,Z,Z,Z,Z,Z,Z,Z,Z,Z,Z] rfl rfl (one_of HT_.out (by kernel_rfl)) (by decide) (fun K hK => ?_)
             refine goes_ Tryd.func37 (by kernel_rfl) rfl #[.agg #[.int .i64 a1_0, .int .i64 a1_1]] (by rfl) rfl rfl (by (try simp only [mA, mB, mC]); first | done | rfl) ?_
             with_reducible refine (timeboundref08_Valid.calls k a1_0 a1_1 t436 _ A21.out).mono ?_
             rintro e w39 ⟨rfl, hb⟩
             refine ⟨_, rfl, ?_⟩
             have n0_ := aK (blk_below (g := gb417) (o := .cells #[.int .i64 a1_0, .int .i64 a1_1] 25 (0, 0)) (by (with_reducible repeat (first | refine bR ?_ | refine bA ?_ _)); exact BK417.out) hb)
             have n1_ := aK (blk_below (g := gb418) (o := .cells #[.int .i64 a2_0, .int .i64 a2_1] 25 (0, 0)) (by (with_reducible repeat (first | refine bR ?_ | refine bA ?_ _)); exact BK418.out) hb)
             have n2_ := aK (below_step (by repeat (first | (with_reducible first | exact HB.out | apply hA | apply hN | apply hD | refine below_set ?_ GE417.out | refine below_set ?_ GE418.out) | exact HB.out)) hb)
             clear BK417
             clear BK418
             clear HB
             have BK417 := n0_
             have BK418 := n1_
             have HB := n2_
             clear n0_ n1_ n2_
             (try clear hb)
             (try clear hb2)
             (try clear hk)
             (try clear hi)
             refine hK.out _ _ ⟨(blk_cell BK417.out 0).trans rfl, (blk_cell BK417.out 1).trans rfl, (blk_cell BK418.out 0).trans rfl, (blk_cell BK418.out 1).trans rfl⟩ (fun hHeld => ?_)
             clear hK K
             refine norm_ (a' := ?_) ?_ ?_
             rotate_left
             · show Act.put _ (some 58) _ = _
               simp only [Act.put, sA, sB, sC, i64_w, i32_w]
               rfl
             refine pure_ (i := 50) (N := some 59) (v := ?_) (a' := ?_) #[Y,Y,Y,Y,Y,Y,Y,Y,Y,Y,Y,Y,Y,Y,Y,Y,Y,Y,Y,Y,Y,Y,Y,Y,Y,Y,Y,Y,Y,Y,Y,Y,Y,Y,Y,Y,Y,Y,Y,Y,Y,Y,Y,Y,Y,Y,Y,Y,Y,Y,Y,Z,Z,Z,Z,Z,Z,Z,Z,Z] rfl rfl (any_of HT_.out (by kernel_rfl)) (fun _ _ _ h => h) (Or.inl ⟨by rfl, ?_⟩) ?_ ?_
             rotate_left
             · intro w'
               go_simp
               with_reducible rfl
             rotate_left
             · simp only [Act.put, sA, sB, sC, i64_w, i32_w]
               rfl
             refine pure_ (i := 51) (N := some 60) (v := ?_) (a' := ?_) #[Y,Y,Y,Y,Y,Y,Y,Y,Y,Y,Y,Y,Y,Y,Y,Y,Y,Y,Y,Y,Y,Y,Y,Y,Y,Y,Y,Y,Y,Y,Y,Y,Y,Y,Y,Y,Y,Y,Y,Y,Y,Y,Y,Y,Y,Y,Y,Y,Y,Y,Y,Y,Z,Z,Z,Z,Z,Z,Z,Z] rfl rfl (any_of HT_.out (by kernel_rfl)) (fun _ _ _ h => h) (Or.inl ⟨by rfl, ?_⟩) ?_ ?_
             rotate_left
             · intro w'
               go_simp
               with_reducible rfl
             rotate_left
             · simp only [Act.put, sA, sB, sC, i64_w, i32_w]
               rfl
             refine pure_ (i := 52) (N := some 61) (v := ?_) (a' := ?_) #[Y,Y,Y,Y,Y,Y,Y,Y,Y,Y,Y,Y,Y,Y,Y,Y,Y,Y,Y,Y,Y,Y,Y,Y,Y,Y,Y,Y,Y,Y,Y,Y,Y,Y,Y,Y,Y,Y,Y,Y,Y,Y,Y,Y,Y,Y,Y,Y,Y,Y,Y,Y,Y,Z,Z,Z,Z,Z,Z,Z] rfl rfl (any_of HT_.out (by kernel_rfl)) (fun _ _ _ h => h) (Or.inl ⟨by rfl, ?_⟩) ?_ ?_
             rotate_left
             · intro w'
               go_simp
               with_reducible rfl
             rotate_left
             · simp only [Act.put, sA, sB, sC, i64_w, i32_w]
               rfl
             refine pure_ (i := 53) (N := some 62) (v := ?_) (a' := ?_) #[Y,Y,Y,Y,Y,Y,Y,Y,Y,Y,Y,Y,Y,Y,Y,Y,Y,Y,Y,Y,Y,Y,Y,Y,Y,Y,Y,Y,Y,Y,Y,Y,Y,Y,Y,Y,Y,Y,Y,Y,Y,Y,Y,Y,Y,Y,Y,Y,Y,Y,Y,Y,Y,Y,Z,Z,Z,Z,Z,Z] rfl rfl (any_of HT_.out (by kernel_rfl)) (fun _ _ _ h => h) (Or.inl ⟨by rfl, ?_⟩) ?_ ?_
             rotate_left
             · intro w'
               go_simp
               with_reducible rfl
             rotate_left
             · simp only [Act.put, sA, sB, sC, i64_w, i32_w]
               rfl
             refine pure_ (i := 55) (N := some 64) (v := ?_) (a' := ?_) #[Y,Y,Y,Y,Y,Y,Y,Y,Y,Y,Y,Y,Y,Y,Y,Y,Y,Y,Y,Y,Y,Y,Y,Y,Y,Y,Y,Y,Y,Y,Y,Y,Y,Y,Y,Y,Y,Y,Y,Y,Y,Y,Y,Y,Y,Y,Y,Y,Y,Y,Y,Y,Y,Y,Z,Y,Z,Z,Z,Z] rfl rfl (any_of HT_.out (by kernel_rfl)) (fun _ _ _ h => h) (Or.inl ⟨by rfl, ?_⟩) ?_ ?_
             rotate_left
             · intro w'
               go_simp
               with_reducible rfl
             rotate_left
             · simp only [Act.put, sA, sB, sC, i64_w, i32_w]
               rfl
             refine one_ (i := 54) (N := some 63) #[Y,Y,Y,Y,Y,Y,Y,Y,Y,Y,Y,Y,Y,Y,Y,Y,Y,Y,Y,Y,Y,Y,Y,Y,Y,Y,Y,Y,Y,Y,Y,Y,Y,Y,Y,Y,Y,Y,Y,Y,Y,Y,Y,Y,Y,Y,Y,Y,Y,Y,Y,Y,Y,Y,Y,Y,Z,Z,Z,Z] rfl rfl (one_of HT_.out (by kernel_rfl)) (by decide) (fun K hK => ?_)
             refine goes_ Tryd.func16 (by kernel_rfl) rfl #[.int .i64 a3] (by rfl) rfl rfl (by (try simp only [mA, mB, mC]); first | done | rfl) ?_
             with_reducible refine (congruence_Of.calls a3 t437 t438 _ A23.out).mono ?_
             rintro e w40 ⟨rfl, hb⟩
             refine ⟨_, rfl, ?_⟩
             have n0_ := aK (blk_below (g := gb417) (o := .cells #[.int .i64 a1_0, .int .i64 a1_1] 25 (0, 0)) (by (with_reducible repeat (first | refine bR ?_ | refine bA ?_ _)); exact BK417.out) hb)
             have n1_ := aK (blk_below (g := gb418) (o := .cells #[.int .i64 a2_0, .int .i64 a2_1] 25 (0, 0)) (by (with_reducible repeat (first | refine bR ?_ | refine bA ?_ _)); exact BK418.out) hb)
             have n2_ := aK (below_step (by repeat (first | (with_reducible first | exact HB.out | apply hA | apply hN | apply hD | refine below_set ?_ GE417.out | refine below_set ?_ GE418.out) | exact HB.out)) hb)
             clear BK417
             clear BK418
             clear HB
             have BK417 := n0_
             have BK418 := n1_
             have HB := n2_
             clear n0_ n1_ n2_
             (try clear hb)
             (try clear hb2)
             (try clear hk)
             (try clear hi)
             refine hK.out _ _ ⟨(blk_cell BK417.out 0).trans rfl, (blk_cell BK417.out 1).trans rfl, (blk_cell BK418.out 0).trans rfl, (blk_cell BK418.out 1).trans rfl⟩ (fun hHeld => ?_)
             clear hK K
             refine norm_ (a' := ?_) ?_ ?_
             rotate_left
             · show Act.put _ (some 63) _ = _
               simp only [Act.put, sA, sB, sC, i64_w, i32_w]
               rfl
             refine one_ (i := 56) (N := some 65) #[Y,Y,Y,Y,Y,Y,Y,Y,Y,Y,Y,Y,Y,Y,Y,Y,Y,Y,Y,Y,Y,Y,Y,Y,Y,Y,Y,Y,Y,Y,Y,Y,Y,Y,Y,Y,Y,Y,Y,Y,Y,Y,Y,Y,Y,Y,Y,Y,Y,Y,Y,Y,Y,Y,Y,Y,Y,Z,Z,Z] rfl rfl (one_of HT_.out (by kernel_rfl)) (by decide) (fun K hK => ?_)
             refine goes_ Tryd.func38 (by kernel_rfl) rfl #[.int .i64 a3] (by rfl) rfl rfl (by (try simp only [mA, mB, mC]); first | done | rfl) ?_
             with_reducible refine (timeboundref08_Of.calls a3 t439 t440 _ A24.out).mono ?_
             rintro e w41 ⟨rfl, hb⟩
             refine ⟨_, rfl, ?_⟩
             have n0_ := aK (blk_below (g := gb417) (o := .cells #[.int .i64 a1_0, .int .i64 a1_1] 25 (0, 0)) (by (with_reducible repeat (first | refine bR ?_ | refine bA ?_ _)); exact BK417.out) hb)
             have n1_ := aK (blk_below (g := gb418) (o := .cells #[.int .i64 a2_0, .int .i64 a2_1] 25 (0, 0)) (by (with_reducible repeat (first | refine bR ?_ | refine bA ?_ _)); exact BK418.out) hb)
             have n2_ := aK (below_step (by repeat (first | (with_reducible first | exact HB.out | apply hA | apply hN | apply hD | refine below_set ?_ GE417.out | refine below_set ?_ GE418.out) | exact HB.out)) hb)
             clear BK417
             clear BK418
             clear HB
             have BK417 := n0_
             have BK418 := n1_
             have HB := n2_
             clear n0_ n1_ n2_
             (try clear hb)
             (try clear hb2)
             (try clear hk)
             (try clear hi)
             refine hK.out _ _ ⟨(blk_cell BK417.out 0).trans rfl, (blk_cell BK417.out 1).trans rfl, (blk_cell BK418.out 0).trans rfl, (blk_cell BK418.out 1).trans rfl⟩ (fun hHeld => ?_)
             clear hK K
             refine norm_ (a' := ?_) ?_ ?_
             rotate_left
             · show Act.put _ (some 65) _ = _
               simp only [Act.put, sA, sB, sC, i64_w, i32_w]
               rfl
             refine pure_ (i := 57) (N := some 66) (v := ?_) (a' := ?_) #[Y,Y,Y,Y,Y,Y,Y,Y,Y,Y,Y,Y,Y,Y,Y,Y,Y,Y,Y,Y,Y,Y,Y,Y,Y,Y,Y,Y,Y,Y,Y,Y,Y,Y,Y,Y,Y,Y,Y,Y,Y,Y,Y,Y,Y,Y,Y,Y,Y,Y,Y,Y,Y,Y,Y,Y,Y,Y,Z,Z] rfl rfl (any_of HT_.out (by kernel_rfl)) (fun _ _ _ h => h) (Or.inl ⟨by rfl, ?_⟩) ?_ ?_
             rotate_left
             · intro w'
               go_simp
               with_reducible rfl
             rotate_left
             · simp only [Act.put, sA, sB, sC, i64_w, i32_w]
               rfl
             refine pure_ (i := 58) (N := some 67) (v := ?_) (a' := ?_) #[Y,Y,Y,Y,Y,Y,Y,Y,Y,Y,Y,Y,Y,Y,Y,Y,Y,Y,Y,Y,Y,Y,Y,Y,Y,Y,Y,Y,Y,Y,Y,Y,Y,Y,Y,Y,Y,Y,Y,Y,Y,Y,Y,Y,Y,Y,Y,Y,Y,Y,Y,Y,Y,Y,Y,Y,Y,Y,Y,Z] rfl rfl (any_of HT_.out (by kernel_rfl)) (fun _ _ _ h => h) (Or.inl ⟨by rfl, ?_⟩) ?_ ?_
             rotate_left
             · intro w'
               go_simp
               with_reducible rfl
             rotate_left
             · simp only [Act.put, sA, sB, sC, i64_w, i32_w]
               rfl
             refine pure_ (i := 59) (N := some 8) (v := ?_) (a' := ?_) #[Y,Y,Y,Y,Y,Y,Y,Y,Y,Y,Y,Y,Y,Y,Y,Y,Y,Y,Y,Y,Y,Y,Y,Y,Y,Y,Y,Y,Y,Y,Y,Y,Y,Y,Y,Y,Y,Y,Y,Y,Y,Y,Y,Y,Y,Y,Y,Y,Y,Y,Y,Y,Y,Y,Y,Y,Y,Y,Y,Y] rfl rfl (any_of HT_.out (by kernel_rfl)) (fun _ _ _ h => h) (Or.inl ⟨by rfl, ?_⟩) ?_ ?_
             rotate_left
             · intro w'
               go_simp
               with_reducible rfl
             rotate_left
             · simp only [Act.put, sA, sB, sC, i64_w, i32_w]
               rfl
             refine done_ (done_of HT_.out (by kernel_rfl)) ?_
             try go_wp2
             go_ret
             exact ⟨by first | rfl | (simp [errW_none, errW_some] <;> rfl) | (simp [*, errW_none, errW_some] <;> rfl), by repeat (first | (with_reducible first | exact HB.out | apply hA | apply hN | apply hD | refine below_set ?_ GE417.out | refine below_set ?_ GE418.out) | exact HB.out)⟩
           · rw [if_neg c22] at H
             exact absurd H (by simp)
         · rw [if_neg c19] at H
           exact absurd H (by simp)
       · rw [if_neg c16] at H
         exact absurd H (by simp)
     · rw [if_neg c13] at H
       exact absurd H (by simp)
   · rw [if_neg c10] at H
     exact absurd H (by simp)
 · rw [if_neg c7] at H
   exact absurd H (by simp)
end Go.Proofs.YtaphfmbloappkaaDoorG.PAll
